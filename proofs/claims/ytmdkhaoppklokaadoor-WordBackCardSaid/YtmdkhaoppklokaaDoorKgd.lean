/- dev: the table of digits -/
import Derived.Test.YtmdkhaoppklokaaDoorEvX
set_option linter.all false
namespace Go.Ev
def dgL : List Int := [48, 49, 50, 51, 52, 53, 54, 55, 56, 57, 97, 98, 99, 100, 101, 102]
def GD : B := .ro [.int .u8 48, .int .u8 49, .int .u8 50, .int .u8 51, .int .u8 52, .int .u8 53, .int .u8 54, .int .u8 55, .int .u8 56, .int .u8 57, .int .u8 97, .int .u8 98, .int .u8 99, .int .u8 100, .int .u8 101, .int .u8 102]
end Go.Ev
