/- dev: forms (printed by forms.py) -/
import Derived.Test.YtcpecapbknnaeaaDoorChecked
import Derived.Test.YtcpecapbknnaeaaDoorEvV
set_option linter.all false
namespace Go.Ev
open Go Go.Proofs
set_option maxRecDepth 1000000
/-! 3: septumlaw09.RamApart -/
def l3_0p0 : EC := EC.seq (EC.ops false [EOper.mk (some 35) (EOp.mv (Opd.t 11)) none, EOper.mk (some 36) (EOp.mv (Opd.t 1)) none, EOper.mk (some 37) (EOp.len false (Opd.t
  36)) none, EOper.mk (some 38) (EOp.bin .lss (Opd.t 35) (Opd.t 37)) none]) (EC.cond (Opd.t 38) EC.skip (EC.exit 0))
def l3_0m0 : List Bool := [false, false, false, false, false, false, false, false, false, false, false, false, false, false, false, false, false, false, false, false, false, false, false, false, false, false, false, false, false, false, false, false, false, false, false, true, true, true, true, false, false, false, false, false, false, false, false, false, false, false, false, false, false, false, false, false, false, false, false, false, false, false, false, false, false, false, false, false, false, false, false, false, false, false, false, false, false, false, false, false, false, false, false, false, false, false, false, false, false, false, false, false, false, false, false, false, false, false, false, false, false, false, false, false, false, false, false, false, false, false, false, false]
def l3_0p1 : EC := EC.block 1 (EC.opsT [EOper.mk (some 41) (EOp.mv (Opd.t 9)) none, EOper.mk (some 42) (EOp.mv (Opd.t 1)) none, EOper.mk (some 43) (EOp.mv (Opd.t 11))
  none, EOper.mk (some 44) (EOp.ixs 4 (Opd.t 42) (Opd.t 43)) none, EOper.mk (some 45) (EOp.fa 1 (Opd.t 44)) none, EOper.mk (some 46) (EOp.ld false 1 (Opd.t 45)) none,
  EOper.mk (some 47) (EOp.mv (Opd.t 1)) none, EOper.mk (some 48) (EOp.mv (Opd.t 11)) none, EOper.mk (some 49) (EOp.ixs 4 (Opd.t 47) (Opd.t 48)) none, EOper.mk (some 50)
  (EOp.fa 2 (Opd.t 49)) none, EOper.mk (some 51) (EOp.ld false 1 (Opd.t 50)) none, EOper.mk (some 52) (EOp.mv (Opd.t 1)) none, EOper.mk (some 53) (EOp.mv (Opd.t 11)) none,
  EOper.mk (some 54) (EOp.ixs 4 (Opd.t 52) (Opd.t 53)) none, EOper.mk (some 55) (EOp.fa 3 (Opd.t 54)) none, EOper.mk (some 56) (EOp.ld false 1 (Opd.t 55)) none] []
  [EOper.mk (some 57) (EOp.call (Opd.f 9) [Opd.t 41, Opd.t 46, Opd.t 51, Opd.t 56]) none])
def l3_0m1 : List Bool := [false, false, false, false, false, false, false, false, false, false, false, false, false, false, false, false, false, false, false, false, false, false, false, false, false, false, false, false, false, false, false, false, false, false, false, false, false, false, false, false, false, true, true, true, true, true, true, true, true, true, true, true, true, true, true, true, true, true, false, false, false, false, false, false, false, false, false, false, false, false, false, false, false, false, false, false, false, false, false, false, false, false, false, false, false, false, false, false, false, false, false, false, false, false, false, false, false, false, false, false, false, false, false, false, false, false, false, false, false, false, false, false]
def l3_0p2 : EC := EC.ops false [EOper.mk (some 39) (EOp.mv (Opd.t 11)) none, EOper.mk (some 40) (EOp.bin .add (Opd.t 39) (Opd.c (V.int .i64 (1)))) none, EOper.mk (some
  11) (EOp.mv (Opd.t 40)) none]
def l3_0m2 : List Bool := [false, false, false, false, false, false, false, false, false, false, false, true, false, false, false, false, false, false, false, false, false, false, false, false, false, false, false, false, false, false, false, false, false, false, false, false, false, false, false, true, true, false, false, false, false, false, false, false, false, false, false, false, false, false, false, false, false, false, false, false, false, false, false, false, false, false, false, false, false, false, false, false, false, false, false, false, false, false, false, false, false, false, false, false, false, false, false, false, false, false, false, false, false, false, false, false, false, false, false, false, false, false, false, false, false, false, false, false, false, false, false, false]
def l3_0r2 : EC := l3_0p2
def l3_0r1 : EC := EC.seq l3_0p1 l3_0r2
def l3_0r0 : EC := EC.seq l3_0p0 l3_0r1
def l3_0 : EC := l3_0r0
def b3_0 : EC := EC.ops false [EOper.mk (some 8) (EOp.mv (Opd.c (V.bool false))) none]
def m3_0 : List Bool := [false, false, false, false, false, false, false, false, true, false, false, false, false, false, false, false, false, false, false, false, false, false, false, false, false, false, false, false, false, false, false, false, false, false, false, false, false, false, false, false, false, false, false, false, false, false, false, false, false, false, false, false, false, false, false, false, false, false, false, false, false, false, false, false, false, false, false, false, false, false, false, false, false, false, false, false, false, false, false, false, false, false, false, false, false, false, false, false, false, false, false, false, false, false, false, false, false, false, false, false, false, false, false, false, false, false, false, false, false, false, false, false]
def b3_1 : EC := EC.seq (EC.ops false [EOper.mk (some 21) (EOp.call (Opd.f 7) []) none, EOper.mk (some 22) (EOp.un .not (Opd.t 21)) none]) (EC.cond (Opd.t 22) (EC.seq
  (EC.ops false [EOper.mk (some 8) (EOp.mv (Opd.c (V.bool false))) none]) EC.ret) EC.skip)
def m3_1 : List Bool := [false, false, false, false, false, false, false, false, true, false, false, false, false, false, false, false, false, false, false, false, false, true, true, false, false, false, false, false, false, false, false, false, false, false, false, false, false, false, false, false, false, false, false, false, false, false, false, false, false, false, false, false, false, false, false, false, false, false, false, false, false, false, false, false, false, false, false, false, false, false, false, false, false, false, false, false, false, false, false, false, false, false, false, false, false, false, false, false, false, false, false, false, false, false, false, false, false, false, false, false, false, false, false, false, false, false, false, false, false, false, false, false]
def b3_2 : EC := EC.ops false [EOper.mk (some 24) (EOp.mv (Opd.t 0)) none, EOper.mk (some 25) (EOp.call (Opd.f 8) [Opd.t 24]) none, EOper.mk (some 23) (EOp.mv (Opd.t 25))
  none, EOper.mk (some 26) (EOp.ext (Opd.t 23) 0) none, EOper.mk (some 27) (EOp.ext (Opd.t 23) 1) none, EOper.mk (some 9) (EOp.mv (Opd.t 26)) none, EOper.mk (some 10)
  (EOp.mv (Opd.t 27)) none]
def m3_2 : List Bool := [false, false, false, false, false, false, false, false, false, true, true, false, false, false, false, false, false, false, false, false, false, false, false, true, true, true, true, true, false, false, false, false, false, false, false, false, false, false, false, false, false, false, false, false, false, false, false, false, false, false, false, false, false, false, false, false, false, false, false, false, false, false, false, false, false, false, false, false, false, false, false, false, false, false, false, false, false, false, false, false, false, false, false, false, false, false, false, false, false, false, false, false, false, false, false, false, false, false, false, false, false, false, false, false, false, false, false, false, false, false, false, false]
def b3_3 : EC := EC.seq (EC.ops false [EOper.mk (some 28) (EOp.mv (Opd.t 10)) none, EOper.mk (some 29) (EOp.bin .neq (Opd.t 28) (Opd.c (V.int .i64 (0)))) none, EOper.mk
  (some 30) (EOp.mv (Opd.t 29)) none, EOper.mk (some 31) (EOp.mv (Opd.t 1)) (some (30, false)), EOper.mk (some 32) (EOp.len false (Opd.t 31)) (some (30, false)), EOper.mk
  (some 33) (EOp.bin .gtr (Opd.t 32) (Opd.c (V.int .i64 (100)))) (some (30, false)), EOper.mk (some 34) (EOp.pick (Opd.t 30) (Opd.c (V.bool true)) (Opd.t 33)) none])
  (EC.cond (Opd.t 34) (EC.seq (EC.ops false [EOper.mk (some 8) (EOp.mv (Opd.c (V.bool true))) none]) EC.ret) EC.skip)
def m3_3 : List Bool := [false, false, false, false, false, false, false, false, true, false, false, false, false, false, false, false, false, false, false, false, false, false, false, false, false, false, false, false, true, true, true, true, true, true, true, false, false, false, false, false, false, false, false, false, false, false, false, false, false, false, false, false, false, false, false, false, false, false, false, false, false, false, false, false, false, false, false, false, false, false, false, false, false, false, false, false, false, false, false, false, false, false, false, false, false, false, false, false, false, false, false, false, false, false, false, false, false, false, false, false, false, false, false, false, false, false, false, false, false, false, false, false]
def b3_4 : EC := EC.seq (EC.ops false [EOper.mk (some 11) (EOp.mv (Opd.c (V.int .i64 (0)))) none]) (EC.block 0 (EC.loop l3_0))
def m3_4 : List Bool := [false, false, false, false, false, false, false, false, false, false, false, true, false, false, false, false, false, false, false, false, false, false, false, false, false, false, false, false, false, false, false, false, false, false, false, true, true, true, true, true, true, true, true, true, true, true, true, true, true, true, true, true, true, true, true, true, true, true, false, false, false, false, false, false, false, false, false, false, false, false, false, false, false, false, false, false, false, false, false, false, false, false, false, false, false, false, false, false, false, false, false, false, false, false, false, false, false, false, false, false, false, false, false, false, false, false, false, false, false, false, false, false]
def b3_5 : EC := EC.ops false [EOper.mk (some 59) (EOp.mv (Opd.t 9)) none, EOper.mk (some 60) (EOp.mv (Opd.t 2)) none, EOper.mk (some 61) (EOp.call (Opd.f 10) [Opd.t 59,
  Opd.t 60, Opd.c (V.int .i64 (4))]) none, EOper.mk (some 58) (EOp.mv (Opd.t 61)) none, EOper.mk (some 62) (EOp.ext (Opd.t 58) 0) none, EOper.mk (some 63) (EOp.ext (Opd.t
  58) 1) none, EOper.mk (some 12) (EOp.mv (Opd.t 62)) none, EOper.mk (some 13) (EOp.mv (Opd.t 63)) none]
def m3_5 : List Bool := [false, false, false, false, false, false, false, false, false, false, false, false, true, true, false, false, false, false, false, false, false, false, false, false, false, false, false, false, false, false, false, false, false, false, false, false, false, false, false, false, false, false, false, false, false, false, false, false, false, false, false, false, false, false, false, false, false, false, true, true, true, true, true, true, false, false, false, false, false, false, false, false, false, false, false, false, false, false, false, false, false, false, false, false, false, false, false, false, false, false, false, false, false, false, false, false, false, false, false, false, false, false, false, false, false, false, false, false, false, false, false, false]
def b3_6 : EC := EC.ops false [EOper.mk (some 64) (EOp.mv (Opd.t 9)) none, EOper.mk (some 65) (EOp.call (Opd.f 11) [Opd.t 64]) none, EOper.mk (some 14) (EOp.mv (Opd.t 65))
  none]
def m3_6 : List Bool := [false, false, false, false, false, false, false, false, false, false, false, false, false, false, true, false, false, false, false, false, false, false, false, false, false, false, false, false, false, false, false, false, false, false, false, false, false, false, false, false, false, false, false, false, false, false, false, false, false, false, false, false, false, false, false, false, false, false, false, false, false, false, false, false, true, true, false, false, false, false, false, false, false, false, false, false, false, false, false, false, false, false, false, false, false, false, false, false, false, false, false, false, false, false, false, false, false, false, false, false, false, false, false, false, false, false, false, false, false, false, false, false]
def b3_7 : EC := EC.seq (EC.ops false [EOper.mk (some 66) (EOp.mv (Opd.t 13)) none, EOper.mk (some 67) (EOp.un .not (Opd.t 66)) none]) (EC.cond (Opd.t 67) (EC.seq (EC.ops
  false [EOper.mk (some 68) (EOp.mv (Opd.t 14)) none, EOper.mk (some 69) (EOp.call (Opd.f 12) [Opd.t 68]) none, EOper.mk (some 70) (EOp.mv (Opd.t 0)) none, EOper.mk (some
  71) (EOp.bin .eql (Opd.t 69) (Opd.t 70)) none, EOper.mk (some 8) (EOp.mv (Opd.t 71)) none]) EC.ret) EC.skip)
def m3_7 : List Bool := [false, false, false, false, false, false, false, false, true, false, false, false, false, false, false, false, false, false, false, false, false, false, false, false, false, false, false, false, false, false, false, false, false, false, false, false, false, false, false, false, false, false, false, false, false, false, false, false, false, false, false, false, false, false, false, false, false, false, false, false, false, false, false, false, false, false, true, true, true, true, true, true, false, false, false, false, false, false, false, false, false, false, false, false, false, false, false, false, false, false, false, false, false, false, false, false, false, false, false, false, false, false, false, false, false, false, false, false, false, false, false, false]
def b3_8 : EC := EC.ops false [EOper.mk (some 72) (EOp.mv (Opd.t 9)) none, EOper.mk (some 73) (EOp.mv (Opd.t 2)) none, EOper.mk (some 74) (EOp.mv (Opd.t 3)) none, EOper.mk
  (some 75) (EOp.call (Opd.f 9) [Opd.t 72, Opd.t 73, Opd.c (V.int .i64 (4)), Opd.t 74]) none]
def m3_8 : List Bool := [false, false, false, false, false, false, false, false, false, false, false, false, false, false, false, false, false, false, false, false, false, false, false, false, false, false, false, false, false, false, false, false, false, false, false, false, false, false, false, false, false, false, false, false, false, false, false, false, false, false, false, false, false, false, false, false, false, false, false, false, false, false, false, false, false, false, false, false, false, false, false, false, true, true, true, true, false, false, false, false, false, false, false, false, false, false, false, false, false, false, false, false, false, false, false, false, false, false, false, false, false, false, false, false, false, false, false, false, false, false, false, false]
def b3_9 : EC := EC.ops false [EOper.mk (some 77) (EOp.mv (Opd.t 9)) none, EOper.mk (some 78) (EOp.mv (Opd.t 2)) none, EOper.mk (some 79) (EOp.call (Opd.f 10) [Opd.t 77,
  Opd.t 78, Opd.c (V.int .i64 (4))]) none, EOper.mk (some 76) (EOp.mv (Opd.t 79)) none, EOper.mk (some 80) (EOp.ext (Opd.t 76) 0) none, EOper.mk (some 81) (EOp.ext (Opd.t
  76) 1) none, EOper.mk (some 15) (EOp.mv (Opd.t 80)) none, EOper.mk (some 16) (EOp.mv (Opd.t 81)) none]
def m3_9 : List Bool := [false, false, false, false, false, false, false, false, false, false, false, false, false, false, false, true, true, false, false, false, false, false, false, false, false, false, false, false, false, false, false, false, false, false, false, false, false, false, false, false, false, false, false, false, false, false, false, false, false, false, false, false, false, false, false, false, false, false, false, false, false, false, false, false, false, false, false, false, false, false, false, false, false, false, false, false, true, true, true, true, true, true, false, false, false, false, false, false, false, false, false, false, false, false, false, false, false, false, false, false, false, false, false, false, false, false, false, false, false, false, false, false]
def b3_10 : EC := EC.ops false [EOper.mk (some 83) (EOp.mv (Opd.t 14)) none, EOper.mk (some 84) (EOp.mv (Opd.t 2)) none, EOper.mk (some 85) (EOp.call (Opd.f 10) [Opd.t 83,
  Opd.t 84, Opd.c (V.int .i64 (4))]) none, EOper.mk (some 82) (EOp.mv (Opd.t 85)) none, EOper.mk (some 86) (EOp.ext (Opd.t 82) 0) none, EOper.mk (some 87) (EOp.ext (Opd.t
  82) 1) none, EOper.mk (some 17) (EOp.mv (Opd.t 86)) none, EOper.mk (some 18) (EOp.mv (Opd.t 87)) none]
def m3_10 : List Bool := [false, false, false, false, false, false, false, false, false, false, false, false, false, false, false, false, false, true, true, false, false, false, false, false, false, false, false, false, false, false, false, false, false, false, false, false, false, false, false, false, false, false, false, false, false, false, false, false, false, false, false, false, false, false, false, false, false, false, false, false, false, false, false, false, false, false, false, false, false, false, false, false, false, false, false, false, false, false, false, false, false, false, true, true, true, true, true, true, false, false, false, false, false, false, false, false, false, false, false, false, false, false, false, false, false, false, false, false, false, false, false, false]
def b3_11 : EC := EC.ops false [EOper.mk (some 88) (EOp.mv (Opd.t 14)) none, EOper.mk (some 89) (EOp.mv (Opd.t 2)) none, EOper.mk (some 90) (EOp.mv (Opd.t 3)) none,
  EOper.mk (some 91) (EOp.un .xor (Opd.t 90)) none, EOper.mk (some 92) (EOp.call (Opd.f 9) [Opd.t 88, Opd.t 89, Opd.c (V.int .i64 (4)), Opd.t 91]) none]
def m3_11 : List Bool := [false, false, false, false, false, false, false, false, false, false, false, false, false, false, false, false, false, false, false, false, false, false, false, false, false, false, false, false, false, false, false, false, false, false, false, false, false, false, false, false, false, false, false, false, false, false, false, false, false, false, false, false, false, false, false, false, false, false, false, false, false, false, false, false, false, false, false, false, false, false, false, false, false, false, false, false, false, false, false, false, false, false, false, false, false, false, false, false, true, true, true, true, true, false, false, false, false, false, false, false, false, false, false, false, false, false, false, false, false, false, false, false]
def b3_12 : EC := EC.ops false [EOper.mk (some 94) (EOp.mv (Opd.t 9)) none, EOper.mk (some 95) (EOp.mv (Opd.t 2)) none, EOper.mk (some 96) (EOp.call (Opd.f 10) [Opd.t 94,
  Opd.t 95, Opd.c (V.int .i64 (4))]) none, EOper.mk (some 93) (EOp.mv (Opd.t 96)) none, EOper.mk (some 97) (EOp.ext (Opd.t 93) 0) none, EOper.mk (some 98) (EOp.ext (Opd.t
  93) 1) none, EOper.mk (some 19) (EOp.mv (Opd.t 97)) none, EOper.mk (some 20) (EOp.mv (Opd.t 98)) none]
def m3_12 : List Bool := [false, false, false, false, false, false, false, false, false, false, false, false, false, false, false, false, false, false, false, true, true, false, false, false, false, false, false, false, false, false, false, false, false, false, false, false, false, false, false, false, false, false, false, false, false, false, false, false, false, false, false, false, false, false, false, false, false, false, false, false, false, false, false, false, false, false, false, false, false, false, false, false, false, false, false, false, false, false, false, false, false, false, false, false, false, false, false, false, false, false, false, false, false, true, true, true, true, true, true, false, false, false, false, false, false, false, false, false, false, false, false, false]
def b3_13 : EC := EC.ops false [EOper.mk (some 99) (EOp.mv (Opd.t 15)) none, EOper.mk (some 100) (EOp.mv (Opd.t 3)) none, EOper.mk (some 101) (EOp.bin .eql (Opd.t 99)
  (Opd.t 100)) none, EOper.mk (some 102) (EOp.mv (Opd.t 101)) none, EOper.mk (some 103) (EOp.mv (Opd.t 17)) (some (102, true)), EOper.mk (some 104) (EOp.mv (Opd.t 12))
  (some (102, true)), EOper.mk (some 105) (EOp.bin .eql (Opd.t 103) (Opd.t 104)) (some (102, true)), EOper.mk (some 106) (EOp.pick (Opd.t 102) (Opd.t 105) (Opd.c (V.bool
  false))) none, EOper.mk (some 107) (EOp.mv (Opd.t 106)) none, EOper.mk (some 108) (EOp.mv (Opd.t 19)) (some (107, true)), EOper.mk (some 109) (EOp.mv (Opd.t 3)) (some
  (107, true)), EOper.mk (some 110) (EOp.bin .eql (Opd.t 108) (Opd.t 109)) (some (107, true)), EOper.mk (some 111) (EOp.pick (Opd.t 107) (Opd.t 110) (Opd.c (V.bool
  false))) none, EOper.mk (some 8) (EOp.mv (Opd.t 111)) none]
def m3_13 : List Bool := [false, false, false, false, false, false, false, false, true, false, false, false, false, false, false, false, false, false, false, false, false, false, false, false, false, false, false, false, false, false, false, false, false, false, false, false, false, false, false, false, false, false, false, false, false, false, false, false, false, false, false, false, false, false, false, false, false, false, false, false, false, false, false, false, false, false, false, false, false, false, false, false, false, false, false, false, false, false, false, false, false, false, false, false, false, false, false, false, false, false, false, false, false, false, false, false, false, false, false, true, true, true, true, true, true, true, true, true, true, true, true, true]
def b3_14 : EC := EC.ret
def m3_14 : List Bool := [false, false, false, false, false, false, false, false, false, false, false, false, false, false, false, false, false, false, false, false, false, false, false, false, false, false, false, false, false, false, false, false, false, false, false, false, false, false, false, false, false, false, false, false, false, false, false, false, false, false, false, false, false, false, false, false, false, false, false, false, false, false, false, false, false, false, false, false, false, false, false, false, false, false, false, false, false, false, false, false, false, false, false, false, false, false, false, false, false, false, false, false, false, false, false, false, false, false, false, false, false, false, false, false, false, false, false, false, false, false, false, false]
def r3_14 : EC := b3_14
def r3_13 : EC := EC.seq b3_13 r3_14
def r3_12 : EC := EC.seq b3_12 r3_13
def r3_11 : EC := EC.seq b3_11 r3_12
def r3_10 : EC := EC.seq b3_10 r3_11
def r3_9 : EC := EC.seq b3_9 r3_10
def r3_8 : EC := EC.seq b3_8 r3_9
def r3_7 : EC := EC.seq b3_7 r3_8
def r3_6 : EC := EC.seq b3_6 r3_7
def r3_5 : EC := EC.seq b3_5 r3_6
def r3_4 : EC := EC.seq b3_4 r3_5
def r3_3 : EC := EC.seq b3_3 r3_4
def r3_2 : EC := EC.seq b3_2 r3_3
def r3_1 : EC := EC.seq b3_1 r3_2
def r3_0 : EC := EC.seq b3_0 r3_1
def e3 : EFun := EFun.mk 112 [ERes.t 8] r3_0
theorem c3 : cFun Tryd.prog 2 (fun _ => false) Tryd.f3 = some e3 := by kernel_rfl
theorem x3 : Tryd.prog.funcs[3]? = some Tryd.f3 := by kernel_rfl
theorem n3 : (Tryd.f3.name == "runtime.NumGoroutine") = false := by kernel_rfl
/-! 4: septumlaw09.RamDoes -/
def l4_0p0 : EC := EC.seq (EC.ops false [EOper.mk (some 46) (EOp.mv (Opd.t 9)) none, EOper.mk (some 47) (EOp.mv (Opd.t 1)) none, EOper.mk (some 48) (EOp.len false (Opd.t
  47)) none, EOper.mk (some 49) (EOp.bin .lss (Opd.t 46) (Opd.t 48)) none]) (EC.cond (Opd.t 49) EC.skip (EC.exit 0))
def l4_0m0 : List Bool := [false, false, false, false, false, false, false, false, false, false, false, false, false, false, false, false, false, false, false, false, false, false, false, false, false, false, false, false, false, false, false, false, false, false, false, false, false, false, false, false, false, false, false, false, false, false, true, true, true, true, false, false, false, false, false, false, false, false, false, false, false, false, false, false, false, false, false, false, false, false, false, false, false, false, false, false, false, false, false, false, false, false, false, false, false, false, false, false, false, false, false, false, false, false, false, false, false, false, false, false, false, false, false, false, false, false, false, false, false, false, false, false, false, false, false, false, false, false, false, false, false, false, false, false, false, false, false, false, false, false, false, false, false, false, false, false, false, false, false, false, false, false, false, false, false, false, false, false, false, false, false]
def l4_0p1 : EC := EC.block 1 (EC.seq (EC.ops false [EOper.mk (some 52) (EOp.mv (Opd.t 1)) none, EOper.mk (some 53) (EOp.mv (Opd.t 9)) none, EOper.mk (some 54) (EOp.ixs 4
  (Opd.t 52) (Opd.t 53)) none, EOper.mk (some 55) (EOp.ld true 4 (Opd.t 54)) none, EOper.mk (some 10) (EOp.alloc true 31 [V.int .i64 (0), V.int .i64 (0), V.int .i64 (0),
  V.int .u32 (0)]) none, EOper.mk none (EOp.st 4 (Opd.t 10) (Opd.t 55)) none]) (EC.seq (EC.seq (EC.ops false [EOper.mk (some 56) (EOp.fa 0 (Opd.t 10)) none, EOper.mk (some
  57) (EOp.ld false 1 (Opd.t 56)) none, EOper.mk (some 58) (EOp.call (Opd.f 14) [Opd.t 57, Opd.c (V.int .i64 (5))]) none]) (EC.block 2 (EC.seq (EC.ops false [EOper.mk
  (some 87) (EOp.bin .eql (Opd.t 58) (Opd.c (V.int .i64 (2)))) none, EOper.mk (some 86) (EOp.mv (Opd.t 87)) none]) (EC.cond (Opd.t 86) (EC.seq (EC.ops false [EOper.mk
  (some 88) (EOp.mv (Opd.t 5)) none, EOper.mk (some 89) (EOp.mv (Opd.t 7)) none, EOper.mk (some 90) (EOp.fa 1 (Opd.t 10)) none, EOper.mk (some 91) (EOp.ld false 1 (Opd.t
  90)) none, EOper.mk (some 92) (EOp.fa 2 (Opd.t 10)) none, EOper.mk (some 93) (EOp.ld false 1 (Opd.t 92)) none, EOper.mk (some 94) (EOp.call (Opd.f 15) [Opd.t 88, Opd.t
  89, Opd.t 91, Opd.t 93]) none, EOper.mk (some 95) (EOp.un .not (Opd.t 94)) none]) (EC.cond (Opd.t 95) (EC.seq (EC.ops false [EOper.mk (some 4) (EOp.mv (Opd.c (V.bool
  false))) none]) EC.ret) EC.skip)) (EC.seq (EC.ops false [EOper.mk (some 97) (EOp.bin .eql (Opd.t 58) (Opd.c (V.int .i64 (3)))) none, EOper.mk (some 96) (EOp.mv (Opd.t
  97)) none]) (EC.cond (Opd.t 96) (EC.seq (EC.ops false [EOper.mk (some 98) (EOp.mv (Opd.t 5)) none, EOper.mk (some 99) (EOp.call (Opd.f 16) [Opd.t 98]) none]) (EC.ops
  false [EOper.mk (some 100) (EOp.mv (Opd.t 7)) none, EOper.mk (some 101) (EOp.mv (Opd.t 7)) none, EOper.mk (some 102) (EOp.nck (Opd.t 101)) none, EOper.mk (some 103)
  (EOp.fa 0 (Opd.t 102)) none, EOper.mk (some 104) (EOp.ld false 1 (Opd.t 103)) none, EOper.mk (some 105) (EOp.len false (Opd.t 104)) none, EOper.mk (some 106) (EOp.mksl 5
  [V.int .u8 (0)] 1 (Opd.t 105) (Opd.t 105)) none, EOper.mk (some 107) (EOp.nck (Opd.t 100)) none, EOper.mk (some 108) (EOp.fa 0 (Opd.t 107)) none, EOper.mk none (EOp.st 1
  (Opd.t 108) (Opd.t 106)) none])) (EC.seq (EC.ops false [EOper.mk (some 110) (EOp.bin .eql (Opd.t 58) (Opd.c (V.int .i64 (4)))) none, EOper.mk (some 109) (EOp.mv (Opd.t
  110)) none]) (EC.cond (Opd.t 109) (EC.seq (EC.ops false [EOper.mk (some 111) (EOp.mv (Opd.t 5)) none, EOper.mk (some 112) (EOp.call (Opd.f 11) [Opd.t 111]) none,
  EOper.mk (some 11) (EOp.mv (Opd.t 112)) none]) (EC.seq (EC.ops false [EOper.mk (some 113) (EOp.mv (Opd.t 5)) none, EOper.mk (some 114) (EOp.fa 3 (Opd.t 10)) none,
  EOper.mk (some 115) (EOp.ld false 1 (Opd.t 114)) none, EOper.mk (some 116) (EOp.call (Opd.f 9) [Opd.t 113, Opd.c (V.int .i64 (0)), Opd.c (V.int .i64 (4)), Opd.t 115])
  none]) (EC.seq (EC.ops false [EOper.mk (some 117) (EOp.mv (Opd.t 5)) none, EOper.mk (some 118) (EOp.call (Opd.f 16) [Opd.t 117]) none]) (EC.ops false [EOper.mk (some
  119) (EOp.mv (Opd.t 11)) none, EOper.mk (some 5) (EOp.mv (Opd.t 119)) none])))) (EC.seq (EC.opsX (Sch.sil (EOper.mk (some 59) (EOp.mv (Opd.t 5)) none) (Sch.sil (EOper.mk
  (some 60) (EOp.fa 1 (Opd.t 10)) none) (Sch.sil (EOper.mk (some 61) (EOp.ld false 1 (Opd.t 60)) none) (Sch.sil (EOper.mk (some 62) (EOp.fa 2 (Opd.t 10)) none) (Sch.sil
  (EOper.mk (some 63) (EOp.ld false 1 (Opd.t 62)) none) (Sch.sil (EOper.mk (some 64) (EOp.fa 3 (Opd.t 10)) none) (Sch.sil (EOper.mk (some 65) (EOp.ld false 1 (Opd.t 64))
  none) (Sch.sil (EOper.mk (some 67) (EOp.mv (Opd.t 7)) none) (Sch.sil (EOper.mk (some 68) (EOp.fa 1 (Opd.t 10)) none) (Sch.sil (EOper.mk (some 69) (EOp.ld false 1 (Opd.t
  68)) none) (Sch.sil (EOper.mk (some 70) (EOp.fa 2 (Opd.t 10)) none) (Sch.sil (EOper.mk (some 71) (EOp.ld false 1 (Opd.t 70)) none) (Sch.sil (EOper.mk (some 72) (EOp.fa 3
  (Opd.t 10)) none) (Sch.sil (EOper.mk (some 73) (EOp.ld false 1 (Opd.t 72)) none) (Sch.op (EOper.mk (some 66) (EOp.call (Opd.f 9) [Opd.t 59, Opd.t 61, Opd.t 63, Opd.t
  65]) none) (Sch.op (EOper.mk (some 74) (EOp.call (Opd.f 17) [Opd.t 67, Opd.t 69, Opd.t 71, Opd.t 73]) none) (Sch.sil (EOper.mk (some 75) (EOp.eqb true (Opd.t 66) (Opd.t
  74)) none) (Sch.sil (EOper.mk (some 76) (EOp.mv (Opd.t 75)) none) (Sch.sil (EOper.mk (some 77) (EOp.mv (Opd.t 5)) (some (76, false))) (Sch.sil (EOper.mk (some 78)
  (EOp.mv (Opd.t 7)) (some (76, false))) (Sch.sil (EOper.mk (some 79) (EOp.fa 1 (Opd.t 10)) (some (76, false))) (Sch.sil (EOper.mk (some 80) (EOp.ld false 1 (Opd.t 79))
  (some (76, false))) (Sch.sil (EOper.mk (some 81) (EOp.fa 2 (Opd.t 10)) (some (76, false))) (Sch.sil (EOper.mk (some 82) (EOp.ld false 1 (Opd.t 81)) (some (76, false)))
  (Sch.op (EOper.mk (some 83) (EOp.call (Opd.f 15) [Opd.t 77, Opd.t 78, Opd.t 80, Opd.t 82]) (some (76, false))) (Sch.sil (EOper.mk (some 84) (EOp.un .not (Opd.t 83))
  (some (76, false))) (Sch.sil (EOper.mk (some 85) (EOp.pick (Opd.t 76) (Opd.c (V.bool true)) (Opd.t 84)) none) Sch.done)))))))))))))))))))))))))))) (EC.cond (Opd.t 85)
  (EC.seq (EC.ops false [EOper.mk (some 4) (EOp.mv (Opd.c (V.bool false))) none]) EC.ret) EC.skip)))))))))) (EC.seq (EC.ops false [EOper.mk (some 120) (EOp.mv (Opd.t 5))
  none, EOper.mk (some 121) (EOp.call (Opd.f 18) [Opd.t 120]) none, EOper.mk (some 12) (EOp.mv (Opd.t 121)) none]) (EC.seq (EC.seq (EC.opsX (Sch.sil (EOper.mk (some 122)
  (EOp.mv (Opd.t 5)) none) (Sch.sil (EOper.mk (some 124) (EOp.mv (Opd.t 7)) none) (Sch.sil (EOper.mk (some 125) (EOp.nck (Opd.t 124)) none) (Sch.sil (EOper.mk (some 126)
  (EOp.fa 0 (Opd.t 125)) none) (Sch.both (Sch.op (EOper.mk (some 123) (EOp.call (Opd.f 12) [Opd.t 122]) none) (Sch.op (EOper.mk (some 127) (EOp.ld false 1 (Opd.t 126))
  none) (Sch.sil (EOper.mk (some 128) (EOp.len false (Opd.t 127)) none) (Sch.sil (EOper.mk (some 129) (EOp.bin .neq (Opd.t 123) (Opd.t 128)) none) (Sch.sil (EOper.mk (some
  130) (EOp.mv (Opd.t 129)) none) (Sch.sil (EOper.mk (some 131) (EOp.mv (Opd.t 12)) (some (130, false))) (Sch.sil (EOper.mk (some 132) (EOp.mv (Opd.t 7)) (some (130,
  false))) (Sch.sil (EOper.mk (some 133) (EOp.nck (Opd.t 132)) (some (130, false))) (Sch.sil (EOper.mk (some 134) (EOp.fa 0 (Opd.t 133)) (some (130, false))) (Sch.op
  (EOper.mk (some 135) (EOp.ld false 1 (Opd.t 134)) (some (130, false))) (Sch.op (EOper.mk (some 136) (EOp.call (Opd.f 19) [Opd.t 131, Opd.t 135]) (some (130, false)))
  (Sch.sil (EOper.mk (some 137) (EOp.un .not (Opd.t 136)) (some (130, false))) (Sch.sil (EOper.mk (some 138) (EOp.pick (Opd.t 130) (Opd.c (V.bool true)) (Opd.t 137)) none)
  Sch.done))))))))))))) (Sch.op (EOper.mk (some 127) (EOp.ld false 1 (Opd.t 126)) none) (Sch.sil (EOper.mk (some 128) (EOp.len false (Opd.t 127)) none) (Sch.op (EOper.mk
  (some 123) (EOp.call (Opd.f 12) [Opd.t 122]) none) (Sch.sil (EOper.mk (some 129) (EOp.bin .neq (Opd.t 123) (Opd.t 128)) none) (Sch.sil (EOper.mk (some 130) (EOp.mv
  (Opd.t 129)) none) (Sch.sil (EOper.mk (some 131) (EOp.mv (Opd.t 12)) (some (130, false))) (Sch.sil (EOper.mk (some 132) (EOp.mv (Opd.t 7)) (some (130, false))) (Sch.sil
  (EOper.mk (some 133) (EOp.nck (Opd.t 132)) (some (130, false))) (Sch.sil (EOper.mk (some 134) (EOp.fa 0 (Opd.t 133)) (some (130, false))) (Sch.op (EOper.mk (some 135)
  (EOp.ld false 1 (Opd.t 134)) (some (130, false))) (Sch.op (EOper.mk (some 136) (EOp.call (Opd.f 19) [Opd.t 131, Opd.t 135]) (some (130, false))) (Sch.sil (EOper.mk (some
  137) (EOp.un .not (Opd.t 136)) (some (130, false))) (Sch.sil (EOper.mk (some 138) (EOp.pick (Opd.t 130) (Opd.c (V.bool true)) (Opd.t 137)) none)
  Sch.done))))))))))))))))))) (EC.cond (Opd.t 138) (EC.seq (EC.ops false [EOper.mk (some 4) (EOp.mv (Opd.c (V.bool false))) none]) EC.ret) EC.skip)) (EC.ops false
  [EOper.mk (some 139) (EOp.mv (Opd.t 12)) none, EOper.mk (some 140) (EOp.call (Opd.f 20) [Opd.t 139]) none])))))
def l4_0m1 : List Bool := [false, false, false, false, true, true, false, false, false, false, true, true, true, false, false, false, false, false, false, false, false, false, false, false, false, false, false, false, false, false, false, false, false, false, false, false, false, false, false, false, false, false, false, false, false, false, false, false, false, false, false, false, true, true, true, true, true, true, true, true, true, true, true, true, true, true, true, true, true, true, true, true, true, true, true, true, true, true, true, true, true, true, true, true, true, true, true, true, true, true, true, true, true, true, true, true, true, true, true, true, true, true, true, true, true, true, true, true, true, true, true, true, true, true, true, true, true, true, true, true, true, true, true, true, true, true, true, true, true, true, true, true, true, true, true, true, true, true, true, true, true, false, false, false, false, false, false, false, false, false, false]
def l4_0p2 : EC := EC.ops false [EOper.mk (some 50) (EOp.mv (Opd.t 9)) none, EOper.mk (some 51) (EOp.bin .add (Opd.t 50) (Opd.c (V.int .i64 (1)))) none, EOper.mk (some 9)
  (EOp.mv (Opd.t 51)) none]
def l4_0m2 : List Bool := [false, false, false, false, false, false, false, false, false, true, false, false, false, false, false, false, false, false, false, false, false, false, false, false, false, false, false, false, false, false, false, false, false, false, false, false, false, false, false, false, false, false, false, false, false, false, false, false, false, false, true, true, false, false, false, false, false, false, false, false, false, false, false, false, false, false, false, false, false, false, false, false, false, false, false, false, false, false, false, false, false, false, false, false, false, false, false, false, false, false, false, false, false, false, false, false, false, false, false, false, false, false, false, false, false, false, false, false, false, false, false, false, false, false, false, false, false, false, false, false, false, false, false, false, false, false, false, false, false, false, false, false, false, false, false, false, false, false, false, false, false, false, false, false, false, false, false, false, false, false, false]
def l4_0r2 : EC := l4_0p2
def l4_0r1 : EC := EC.seq l4_0p1 l4_0r2
def l4_0r0 : EC := EC.seq l4_0p0 l4_0r1
def l4_0 : EC := l4_0r0
def b4_0 : EC := EC.ops false [EOper.mk (some 4) (EOp.mv (Opd.c (V.bool false))) none]
def m4_0 : List Bool := [false, false, false, false, true, false, false, false, false, false, false, false, false, false, false, false, false, false, false, false, false, false, false, false, false, false, false, false, false, false, false, false, false, false, false, false, false, false, false, false, false, false, false, false, false, false, false, false, false, false, false, false, false, false, false, false, false, false, false, false, false, false, false, false, false, false, false, false, false, false, false, false, false, false, false, false, false, false, false, false, false, false, false, false, false, false, false, false, false, false, false, false, false, false, false, false, false, false, false, false, false, false, false, false, false, false, false, false, false, false, false, false, false, false, false, false, false, false, false, false, false, false, false, false, false, false, false, false, false, false, false, false, false, false, false, false, false, false, false, false, false, false, false, false, false, false, false, false, false, false, false]
def b4_1 : EC := EC.seq (EC.ops false [EOper.mk (some 13) (EOp.mv (Opd.t 1)) none, EOper.mk (some 14) (EOp.len false (Opd.t 13)) none, EOper.mk (some 15) (EOp.bin .gtr
  (Opd.t 14) (Opd.c (V.int .i64 (100)))) none]) (EC.cond (Opd.t 15) (EC.seq (EC.ops false [EOper.mk (some 16) (EOp.call (Opd.f 7) []) none, EOper.mk (some 4) (EOp.mv
  (Opd.t 16)) none]) EC.ret) EC.skip)
def m4_1 : List Bool := [false, false, false, false, true, false, false, false, false, false, false, false, false, true, true, true, true, false, false, false, false, false, false, false, false, false, false, false, false, false, false, false, false, false, false, false, false, false, false, false, false, false, false, false, false, false, false, false, false, false, false, false, false, false, false, false, false, false, false, false, false, false, false, false, false, false, false, false, false, false, false, false, false, false, false, false, false, false, false, false, false, false, false, false, false, false, false, false, false, false, false, false, false, false, false, false, false, false, false, false, false, false, false, false, false, false, false, false, false, false, false, false, false, false, false, false, false, false, false, false, false, false, false, false, false, false, false, false, false, false, false, false, false, false, false, false, false, false, false, false, false, false, false, false, false, false, false, false, false, false, false]
def b4_2 : EC := EC.ops false [EOper.mk (some 18) (EOp.mv (Opd.t 0)) none, EOper.mk (some 19) (EOp.call (Opd.f 8) [Opd.t 18]) none, EOper.mk (some 17) (EOp.mv (Opd.t 19))
  none, EOper.mk (some 20) (EOp.ext (Opd.t 17) 0) none, EOper.mk (some 21) (EOp.ext (Opd.t 17) 1) none, EOper.mk (some 5) (EOp.mv (Opd.t 20)) none, EOper.mk (some 6)
  (EOp.mv (Opd.t 21)) none]
def m4_2 : List Bool := [false, false, false, false, false, true, true, false, false, false, false, false, false, false, false, false, false, true, true, true, true, true, false, false, false, false, false, false, false, false, false, false, false, false, false, false, false, false, false, false, false, false, false, false, false, false, false, false, false, false, false, false, false, false, false, false, false, false, false, false, false, false, false, false, false, false, false, false, false, false, false, false, false, false, false, false, false, false, false, false, false, false, false, false, false, false, false, false, false, false, false, false, false, false, false, false, false, false, false, false, false, false, false, false, false, false, false, false, false, false, false, false, false, false, false, false, false, false, false, false, false, false, false, false, false, false, false, false, false, false, false, false, false, false, false, false, false, false, false, false, false, false, false, false, false, false, false, false, false, false, false]
def b4_3 : EC := EC.ops false [EOper.mk (some 23) (EOp.mv (Opd.t 0)) none, EOper.mk (some 24) (EOp.call (Opd.f 13) [Opd.t 23]) none, EOper.mk (some 22) (EOp.mv (Opd.t 24))
  none, EOper.mk (some 25) (EOp.ext (Opd.t 22) 0) none, EOper.mk (some 26) (EOp.ext (Opd.t 22) 1) none, EOper.mk (some 7) (EOp.mv (Opd.t 25)) none, EOper.mk (some 8)
  (EOp.mv (Opd.t 26)) none]
def m4_3 : List Bool := [false, false, false, false, false, false, false, true, true, false, false, false, false, false, false, false, false, false, false, false, false, false, true, true, true, true, true, false, false, false, false, false, false, false, false, false, false, false, false, false, false, false, false, false, false, false, false, false, false, false, false, false, false, false, false, false, false, false, false, false, false, false, false, false, false, false, false, false, false, false, false, false, false, false, false, false, false, false, false, false, false, false, false, false, false, false, false, false, false, false, false, false, false, false, false, false, false, false, false, false, false, false, false, false, false, false, false, false, false, false, false, false, false, false, false, false, false, false, false, false, false, false, false, false, false, false, false, false, false, false, false, false, false, false, false, false, false, false, false, false, false, false, false, false, false, false, false, false, false, false, false]
def b4_4 : EC := EC.seq (EC.ops false [EOper.mk (some 27) (EOp.mv (Opd.t 6)) none, EOper.mk (some 28) (EOp.bin .eql (Opd.t 27) (Opd.c (V.int .i64 (0)))) none, EOper.mk
  (some 29) (EOp.mv (Opd.t 8)) none, EOper.mk (some 30) (EOp.eqb true (Opd.t 28) (Opd.t 29)) none, EOper.mk (some 31) (EOp.mv (Opd.t 30)) none, EOper.mk (some 32) (EOp.mv
  (Opd.t 6)) (some (31, false)), EOper.mk (some 33) (EOp.bin .neq (Opd.t 32) (Opd.c (V.int .i64 (0)))) (some (31, false)), EOper.mk (some 34) (EOp.mv (Opd.t 33)) (some
  (31, false)), EOper.mk (some 35) (EOp.mv (Opd.t 6)) (some (34, true)), EOper.mk (some 36) (EOp.bin .neq (Opd.t 35) (Opd.c (V.int .i64 (2)))) (some (34, true)), EOper.mk
  (some 37) (EOp.pick (Opd.t 34) (Opd.t 36) (Opd.c (V.bool false))) (some (31, false)), EOper.mk (some 38) (EOp.pick (Opd.t 31) (Opd.c (V.bool true)) (Opd.t 37)) none])
  (EC.cond (Opd.t 38) (EC.seq (EC.ops false [EOper.mk (some 4) (EOp.mv (Opd.c (V.bool false))) none]) EC.ret) EC.skip)
def m4_4 : List Bool := [false, false, false, false, true, false, false, false, false, false, false, false, false, false, false, false, false, false, false, false, false, false, false, false, false, false, false, true, true, true, true, true, true, true, true, true, true, true, true, false, false, false, false, false, false, false, false, false, false, false, false, false, false, false, false, false, false, false, false, false, false, false, false, false, false, false, false, false, false, false, false, false, false, false, false, false, false, false, false, false, false, false, false, false, false, false, false, false, false, false, false, false, false, false, false, false, false, false, false, false, false, false, false, false, false, false, false, false, false, false, false, false, false, false, false, false, false, false, false, false, false, false, false, false, false, false, false, false, false, false, false, false, false, false, false, false, false, false, false, false, false, false, false, false, false, false, false, false, false, false, false]
def b4_5 : EC := EC.seq (EC.ops false [EOper.mk (some 39) (EOp.mv (Opd.t 8)) none, EOper.mk (some 40) (EOp.un .not (Opd.t 39)) none]) (EC.cond (Opd.t 40) (EC.seq (EC.ops
  false [EOper.mk (some 41) (EOp.mv (Opd.t 5)) none, EOper.mk (some 42) (EOp.eqp false (Opd.t 41) (Opd.c (V.ptr none))) none, EOper.mk (some 43) (EOp.mv (Opd.t 42)) none,
  EOper.mk (some 44) (EOp.call (Opd.f 7) []) (some (43, true)), EOper.mk (some 45) (EOp.pick (Opd.t 43) (Opd.t 44) (Opd.c (V.bool false))) none, EOper.mk (some 4) (EOp.mv
  (Opd.t 45)) none]) EC.ret) EC.skip)
def m4_5 : List Bool := [false, false, false, false, true, false, false, false, false, false, false, false, false, false, false, false, false, false, false, false, false, false, false, false, false, false, false, false, false, false, false, false, false, false, false, false, false, false, false, true, true, true, true, true, true, true, false, false, false, false, false, false, false, false, false, false, false, false, false, false, false, false, false, false, false, false, false, false, false, false, false, false, false, false, false, false, false, false, false, false, false, false, false, false, false, false, false, false, false, false, false, false, false, false, false, false, false, false, false, false, false, false, false, false, false, false, false, false, false, false, false, false, false, false, false, false, false, false, false, false, false, false, false, false, false, false, false, false, false, false, false, false, false, false, false, false, false, false, false, false, false, false, false, false, false, false, false, false, false, false, false]
def b4_6 : EC := EC.seq (EC.ops false [EOper.mk (some 9) (EOp.mv (Opd.c (V.int .i64 (0)))) none]) (EC.block 0 (EC.loop l4_0))
def m4_6 : List Bool := [false, false, false, false, true, true, false, false, false, true, true, true, true, false, false, false, false, false, false, false, false, false, false, false, false, false, false, false, false, false, false, false, false, false, false, false, false, false, false, false, false, false, false, false, false, false, true, true, true, true, true, true, true, true, true, true, true, true, true, true, true, true, true, true, true, true, true, true, true, true, true, true, true, true, true, true, true, true, true, true, true, true, true, true, true, true, true, true, true, true, true, true, true, true, true, true, true, true, true, true, true, true, true, true, true, true, true, true, true, true, true, true, true, true, true, true, true, true, true, true, true, true, true, true, true, true, true, true, true, true, true, true, true, true, true, true, true, true, true, true, true, false, false, false, false, false, false, false, false, false, false]
def b4_7 : EC := EC.opsX (Sch.sil (EOper.mk (some 141) (EOp.mv (Opd.t 5)) none) (Sch.sil (EOper.mk (some 143) (EOp.mv (Opd.t 7)) none) (Sch.sil (EOper.mk (some 144)
  (EOp.nck (Opd.t 143)) none) (Sch.sil (EOper.mk (some 145) (EOp.fa 0 (Opd.t 144)) none) (Sch.both (Sch.op (EOper.mk (some 142) (EOp.call (Opd.f 18) [Opd.t 141]) none)
  (Sch.op (EOper.mk (some 146) (EOp.ld false 1 (Opd.t 145)) none) (Sch.op (EOper.mk (some 147) (EOp.call (Opd.f 19) [Opd.t 142, Opd.t 146]) none) (Sch.sil (EOper.mk (some
  148) (EOp.mv (Opd.t 147)) none) (Sch.op (EOper.mk (some 149) (EOp.call (Opd.f 7) []) (some (148, true))) (Sch.sil (EOper.mk (some 150) (EOp.pick (Opd.t 148) (Opd.t 149)
  (Opd.c (V.bool false))) none) (Sch.sil (EOper.mk (some 4) (EOp.mv (Opd.t 150)) none) Sch.done))))))) (Sch.op (EOper.mk (some 146) (EOp.ld false 1 (Opd.t 145)) none)
  (Sch.op (EOper.mk (some 142) (EOp.call (Opd.f 18) [Opd.t 141]) none) (Sch.op (EOper.mk (some 147) (EOp.call (Opd.f 19) [Opd.t 142, Opd.t 146]) none) (Sch.sil (EOper.mk
  (some 148) (EOp.mv (Opd.t 147)) none) (Sch.op (EOper.mk (some 149) (EOp.call (Opd.f 7) []) (some (148, true))) (Sch.sil (EOper.mk (some 150) (EOp.pick (Opd.t 148) (Opd.t
  149) (Opd.c (V.bool false))) none) (Sch.sil (EOper.mk (some 4) (EOp.mv (Opd.t 150)) none) Sch.done))))))))))))
def m4_7 : List Bool := [false, false, false, false, true, false, false, false, false, false, false, false, false, false, false, false, false, false, false, false, false, false, false, false, false, false, false, false, false, false, false, false, false, false, false, false, false, false, false, false, false, false, false, false, false, false, false, false, false, false, false, false, false, false, false, false, false, false, false, false, false, false, false, false, false, false, false, false, false, false, false, false, false, false, false, false, false, false, false, false, false, false, false, false, false, false, false, false, false, false, false, false, false, false, false, false, false, false, false, false, false, false, false, false, false, false, false, false, false, false, false, false, false, false, false, false, false, false, false, false, false, false, false, false, false, false, false, false, false, false, false, false, false, false, false, false, false, false, false, false, false, true, true, true, true, true, true, true, true, true, true]
def b4_8 : EC := EC.ret
def m4_8 : List Bool := [false, false, false, false, false, false, false, false, false, false, false, false, false, false, false, false, false, false, false, false, false, false, false, false, false, false, false, false, false, false, false, false, false, false, false, false, false, false, false, false, false, false, false, false, false, false, false, false, false, false, false, false, false, false, false, false, false, false, false, false, false, false, false, false, false, false, false, false, false, false, false, false, false, false, false, false, false, false, false, false, false, false, false, false, false, false, false, false, false, false, false, false, false, false, false, false, false, false, false, false, false, false, false, false, false, false, false, false, false, false, false, false, false, false, false, false, false, false, false, false, false, false, false, false, false, false, false, false, false, false, false, false, false, false, false, false, false, false, false, false, false, false, false, false, false, false, false, false, false, false, false]
def r4_8 : EC := b4_8
def r4_7 : EC := EC.seq b4_7 r4_8
def r4_6 : EC := EC.seq b4_6 r4_7
def r4_5 : EC := EC.seq b4_5 r4_6
def r4_4 : EC := EC.seq b4_4 r4_5
def r4_3 : EC := EC.seq b4_3 r4_4
def r4_2 : EC := EC.seq b4_2 r4_3
def r4_1 : EC := EC.seq b4_1 r4_2
def r4_0 : EC := EC.seq b4_0 r4_1
def e4 : EFun := EFun.mk 151 [ERes.t 4] r4_0
theorem c4 : cFun Tryd.prog 2 (fun d => d == 2000010 || d == 2000056 || d == 2000060 || d == 2000062 || d == 2000064 || d == 2000068 || d == 2000070 || d == 2000072 || d == 2000079 || d == 2000081 || d == 2000090 || d == 2000092 || d == 2000114 || d == 3000000) Tryd.f4 = some e4 := by kernel_rfl
theorem x4 : Tryd.prog.funcs[4]? = some Tryd.f4 := by kernel_rfl
theorem n4 : (Tryd.f4.name == "runtime.NumGoroutine") = false := by kernel_rfl
/-! 5: septumlaw09.RamEnds -/
def l5_1p0 : EC := EC.seq (EC.ops false [EOper.mk (some 18) (EOp.mv (Opd.t 5)) none, EOper.mk (some 19) (EOp.bin .lss (Opd.t 18) (Opd.c (V.int .i64 (8)))) none]) (EC.cond
  (Opd.t 19) EC.skip (EC.exit 2))
def l5_1m0 : List Bool := [false, false, false, false, false, false, false, false, false, false, false, false, false, false, false, false, false, false, true, true, false, false, false, false, false, false, false, false, false, false, false, false, false, false, false, false, false, false, false, false, false, false, false, false, false, false, false, false, false, false, false, false, false, false, false, false, false, false, false, false, false, false, false, false, false, false, false, false, false, false, false, false, false, false, false, false, false, false, false, false, false, false, false, false, false, false, false, false, false, false, false, false, false, false, false, false, false, false, false, false, false, false, false, false, false, false, false, false, false, false, false, false, false, false, false, false, false, false, false, false, false]
def l5_1p1 : EC := EC.block 3 (EC.opsX (Sch.sil (EOper.mk (some 22) (EOp.mv (Opd.t 4)) none) (Sch.sil (EOper.mk (some 23) (EOp.mv (Opd.t 2)) none) (Sch.sil (EOper.mk (some
  24) (EOp.mv (Opd.t 5)) none) (Sch.sil (EOper.mk (some 25) (EOp.ixs 1 (Opd.t 23) (Opd.t 24)) none) (Sch.sil (EOper.mk (some 27) (EOp.mv (Opd.t 5)) none) (Sch.sil
  (EOper.mk (some 28) (EOp.bin .rem (Opd.t 27) (Opd.c (V.int .i64 (3)))) none) (Sch.sil (EOper.mk (some 29) (EOp.bin .shl (Opd.c (V.int .i64 (1))) (Opd.t 28)) none)
  (Sch.op (EOper.mk (some 26) (EOp.ld false 1 (Opd.t 25)) none) (Sch.sil (EOper.mk (some 30) (EOp.build [V.int .i64 (0), V.int .i64 (0), V.int .i64 (0), V.int .u32 (0)]
  [(0, 1, Opd.c (V.int .i64 (0))), (1, 1, Opd.t 26), (2, 1, Opd.t 29), (3, 1, Opd.c (V.int .u32 (7)))]) none) (Sch.op (EOper.mk (some 31) (EOp.bslice 31 1 [V.int .i64 (0),
  V.int .i64 (0), V.int .i64 (0), V.int .u32 (0)] [(0, 4, Opd.t 30)]) none) (Sch.op (EOper.mk (some 32) (EOp.app 31 4 32 [V.int .i64 (0), V.int .i64 (0), V.int .i64 (0),
  V.int .u32 (0)] (Opd.t 22) (Opd.t 31)) none) (Sch.sil (EOper.mk (some 4) (EOp.mv (Opd.t 32)) none) Sch.done)))))))))))))
def l5_1m1 : List Bool := [false, false, false, false, true, false, false, false, false, false, false, false, false, false, false, false, false, false, false, false, false, false, true, true, true, true, true, true, true, true, true, true, true, false, false, false, false, false, false, false, false, false, false, false, false, false, false, false, false, false, false, false, false, false, false, false, false, false, false, false, false, false, false, false, false, false, false, false, false, false, false, false, false, false, false, false, false, false, false, false, false, false, false, false, false, false, false, false, false, false, false, false, false, false, false, false, false, false, false, false, false, false, false, false, false, false, false, false, false, false, false, false, false, false, false, false, false, false, false, false, false]
def l5_1p2 : EC := EC.ops false [EOper.mk (some 20) (EOp.mv (Opd.t 5)) none, EOper.mk (some 21) (EOp.bin .add (Opd.t 20) (Opd.c (V.int .i64 (1)))) none, EOper.mk (some 5)
  (EOp.mv (Opd.t 21)) none]
def l5_1m2 : List Bool := [false, false, false, false, false, true, false, false, false, false, false, false, false, false, false, false, false, false, false, false, true, true, false, false, false, false, false, false, false, false, false, false, false, false, false, false, false, false, false, false, false, false, false, false, false, false, false, false, false, false, false, false, false, false, false, false, false, false, false, false, false, false, false, false, false, false, false, false, false, false, false, false, false, false, false, false, false, false, false, false, false, false, false, false, false, false, false, false, false, false, false, false, false, false, false, false, false, false, false, false, false, false, false, false, false, false, false, false, false, false, false, false, false, false, false, false, false, false, false, false, false]
def l5_1r2 : EC := l5_1p2
def l5_1r1 : EC := EC.seq l5_1p1 l5_1r2
def l5_1r0 : EC := EC.seq l5_1p0 l5_1r1
def l5_1 : EC := l5_1r0
def l5_2p0 : EC := EC.seq (EC.ops false [EOper.mk (some 33) (EOp.mv (Opd.t 6)) none, EOper.mk (some 34) (EOp.bin .lss (Opd.t 33) (Opd.c (V.int .i64 (60)))) none]) (EC.cond
  (Opd.t 34) EC.skip (EC.exit 4))
def l5_2m0 : List Bool := [false, false, false, false, false, false, false, false, false, false, false, false, false, false, false, false, false, false, false, false, false, false, false, false, false, false, false, false, false, false, false, false, false, true, true, false, false, false, false, false, false, false, false, false, false, false, false, false, false, false, false, false, false, false, false, false, false, false, false, false, false, false, false, false, false, false, false, false, false, false, false, false, false, false, false, false, false, false, false, false, false, false, false, false, false, false, false, false, false, false, false, false, false, false, false, false, false, false, false, false, false, false, false, false, false, false, false, false, false, false, false, false, false, false, false, false, false, false, false, false, false]
def l5_2p1 : EC := EC.block 5 (EC.ops false [EOper.mk (some 37) (EOp.mv (Opd.t 4)) none, EOper.mk (some 38) (EOp.mv (Opd.t 6)) none, EOper.mk (some 39) (EOp.bin .rem
  (Opd.t 38) (Opd.c (V.int .i64 (2)))) none, EOper.mk (some 40) (EOp.mv (Opd.t 6)) none, EOper.mk (some 41) (EOp.bin .rem (Opd.t 40) (Opd.c (V.int .i64 (12)))) none,
  EOper.mk (some 42) (EOp.bin .sub (Opd.t 41) (Opd.c (V.int .i64 (2)))) none, EOper.mk (some 43) (EOp.bslice 3 5 [V.int .i64 (0), V.int .i64 (0), V.int .i64 (0), V.int
  .i64 (0), V.int .i64 (0)] [(0, 1, Opd.c (V.int .i64 (1))), (1, 1, Opd.c (V.int .i64 (2))), (2, 1, Opd.c (V.int .i64 (4))), (3, 1, Opd.c (V.int .i64 (3))), (4, 1, Opd.c
  (V.int .i64 (8)))]) none, EOper.mk (some 44) (EOp.mv (Opd.t 6)) none, EOper.mk (some 45) (EOp.bin .rem (Opd.t 44) (Opd.c (V.int .i64 (5)))) none, EOper.mk (some 46)
  (EOp.ixs 1 (Opd.t 43) (Opd.t 45)) none, EOper.mk (some 47) (EOp.ld false 1 (Opd.t 46)) none, EOper.mk (some 48) (EOp.mv (Opd.t 6)) none, EOper.mk (some 49) (EOp.conv
  .u32 (Opd.t 48)) none, EOper.mk (some 50) (EOp.bin .mul (Opd.t 49) (Opd.c (V.int .u32 (16909320)))) none, EOper.mk (some 51) (EOp.build [V.int .i64 (0), V.int .i64 (0),
  V.int .i64 (0), V.int .u32 (0)] [(0, 1, Opd.t 39), (1, 1, Opd.t 42), (2, 1, Opd.t 47), (3, 1, Opd.t 50)]) none, EOper.mk (some 52) (EOp.bslice 31 1 [V.int .i64 (0),
  V.int .i64 (0), V.int .i64 (0), V.int .u32 (0)] [(0, 4, Opd.t 51)]) none, EOper.mk (some 53) (EOp.app 31 4 32 [V.int .i64 (0), V.int .i64 (0), V.int .i64 (0), V.int .u32
  (0)] (Opd.t 37) (Opd.t 52)) none, EOper.mk (some 4) (EOp.mv (Opd.t 53)) none])
def l5_2m1 : List Bool := [false, false, false, false, true, false, false, false, false, false, false, false, false, false, false, false, false, false, false, false, false, false, false, false, false, false, false, false, false, false, false, false, false, false, false, false, false, true, true, true, true, true, true, true, true, true, true, true, true, true, true, true, true, true, false, false, false, false, false, false, false, false, false, false, false, false, false, false, false, false, false, false, false, false, false, false, false, false, false, false, false, false, false, false, false, false, false, false, false, false, false, false, false, false, false, false, false, false, false, false, false, false, false, false, false, false, false, false, false, false, false, false, false, false, false, false, false, false, false, false, false]
def l5_2p2 : EC := EC.ops false [EOper.mk (some 35) (EOp.mv (Opd.t 6)) none, EOper.mk (some 36) (EOp.bin .add (Opd.t 35) (Opd.c (V.int .i64 (1)))) none, EOper.mk (some 6)
  (EOp.mv (Opd.t 36)) none]
def l5_2m2 : List Bool := [false, false, false, false, false, false, true, false, false, false, false, false, false, false, false, false, false, false, false, false, false, false, false, false, false, false, false, false, false, false, false, false, false, false, false, true, true, false, false, false, false, false, false, false, false, false, false, false, false, false, false, false, false, false, false, false, false, false, false, false, false, false, false, false, false, false, false, false, false, false, false, false, false, false, false, false, false, false, false, false, false, false, false, false, false, false, false, false, false, false, false, false, false, false, false, false, false, false, false, false, false, false, false, false, false, false, false, false, false, false, false, false, false, false, false, false, false, false, false, false, false]
def l5_2r2 : EC := l5_2p2
def l5_2r1 : EC := EC.seq l5_2p1 l5_2r2
def l5_2r0 : EC := EC.seq l5_2p0 l5_2r1
def l5_2 : EC := l5_2r0
def l5_0p0 : EC := EC.seq (EC.ops false [EOper.mk (some 14) (EOp.mv (Opd.t 3)) none, EOper.mk (some 15) (EOp.bin .lss (Opd.t 14) (Opd.c (V.int .i64 (13)))) none]) (EC.cond
  (Opd.t 15) EC.skip (EC.exit 0))
def l5_0m0 : List Bool := [false, false, false, false, false, false, false, false, false, false, false, false, false, false, true, true, false, false, false, false, false, false, false, false, false, false, false, false, false, false, false, false, false, false, false, false, false, false, false, false, false, false, false, false, false, false, false, false, false, false, false, false, false, false, false, false, false, false, false, false, false, false, false, false, false, false, false, false, false, false, false, false, false, false, false, false, false, false, false, false, false, false, false, false, false, false, false, false, false, false, false, false, false, false, false, false, false, false, false, false, false, false, false, false, false, false, false, false, false, false, false, false, false, false, false, false, false, false, false, false, false]
def l5_0p1 : EC := EC.block 1 (EC.seq (EC.ops false [EOper.mk (some 4) (EOp.mv (Opd.c (V.sl none 0 0))) none]) (EC.seq (EC.seq (EC.ops false [EOper.mk (some 5) (EOp.mv
  (Opd.c (V.int .i64 (0)))) none]) (EC.block 2 (EC.loop l5_1))) (EC.seq (EC.seq (EC.ops false [EOper.mk (some 6) (EOp.mv (Opd.c (V.int .i64 (0)))) none]) (EC.block 4
  (EC.loop l5_2))) (EC.seq (EC.ops false [EOper.mk (some 54) (EOp.mv (Opd.t 1)) none, EOper.mk (some 55) (EOp.mv (Opd.t 3)) none, EOper.mk (some 56) (EOp.ixs 1 (Opd.t 54)
  (Opd.t 55)) none, EOper.mk (some 57) (EOp.ld false 1 (Opd.t 56)) none, EOper.mk (some 58) (EOp.mv (Opd.t 4)) none, EOper.mk (some 59) (EOp.call (Opd.f 4) [Opd.t 57,
  Opd.t 58]) none, EOper.mk (some 60) (EOp.un .not (Opd.t 59)) none, EOper.mk (some 61) (EOp.mv (Opd.t 60)) none, EOper.mk (some 62) (EOp.mv (Opd.t 1)) (some (61, false)),
  EOper.mk (some 63) (EOp.mv (Opd.t 3)) (some (61, false)), EOper.mk (some 64) (EOp.ixs 1 (Opd.t 62) (Opd.t 63)) (some (61, false)), EOper.mk (some 65) (EOp.ld false 1
  (Opd.t 64)) (some (61, false)), EOper.mk (some 66) (EOp.build [V.int .i64 (0), V.int .i64 (0), V.int .i64 (0), V.int .u32 (0)] [(0, 1, Opd.c (V.int .i64 (0))), (1, 1,
  Opd.c (V.int .i64 (4088))), (2, 1, Opd.c (V.int .i64 (4))), (3, 1, Opd.c (V.int .u32 (4275878552)))]) (some (61, false)), EOper.mk (some 67) (EOp.build [V.int .i64 (0),
  V.int .i64 (0), V.int .i64 (0), V.int .u32 (0)] [(0, 1, Opd.c (V.int .i64 (0))), (1, 1, Opd.c (V.int .i64 (4092))), (2, 1, Opd.c (V.int .i64 (4))), (3, 1, Opd.c (V.int
  .u32 (305419896)))]) (some (61, false)), EOper.mk (some 68) (EOp.build [V.int .i64 (0), V.int .i64 (0), V.int .i64 (0), V.int .u32 (0)] [(0, 1, Opd.c (V.int .i64 (0))),
  (1, 1, Opd.c (V.int .i64 (4095))), (2, 1, Opd.c (V.int .i64 (1))), (3, 1, Opd.c (V.int .u32 (9)))]) (some (61, false)), EOper.mk (some 69) (EOp.build [V.int .i64 (0),
  V.int .i64 (0), V.int .i64 (0), V.int .u32 (0)] [(0, 1, Opd.c (V.int .i64 (0))), (1, 1, Opd.c (V.int .i64 (4096))), (2, 1, Opd.c (V.int .i64 (1))), (3, 1, Opd.c (V.int
  .u32 (9)))]) (some (61, false)), EOper.mk (some 70) (EOp.build [V.int .i64 (0), V.int .i64 (0), V.int .i64 (0), V.int .u32 (0)] [(0, 1, Opd.c (V.int .i64 (4))), (1, 1,
  Opd.c (V.int .i64 (0))), (2, 1, Opd.c (V.int .i64 (0))), (3, 1, Opd.c (V.int .u32 (5)))]) (some (61, false)), EOper.mk (some 71) (EOp.build [V.int .i64 (0), V.int .i64
  (0), V.int .i64 (0), V.int .u32 (0)] [(0, 1, Opd.c (V.int .i64 (2))), (1, 1, Opd.c (V.int .i64 (4092))), (2, 1, Opd.c (V.int .i64 (2))), (3, 1, Opd.c (V.int .u32 (0)))])
  (some (61, false)), EOper.mk (some 72) (EOp.build [V.int .i64 (0), V.int .i64 (0), V.int .i64 (0), V.int .u32 (0)] [(0, 1, Opd.c (V.int .i64 (3))), (1, 1, Opd.c (V.int
  .i64 (0))), (2, 1, Opd.c (V.int .i64 (0))), (3, 1, Opd.c (V.int .u32 (0)))]) (some (61, false)), EOper.mk (some 73) (EOp.bslice 31 7 [V.int .i64 (0), V.int .i64 (0),
  V.int .i64 (0), V.int .u32 (0), V.int .i64 (0), V.int .i64 (0), V.int .i64 (0), V.int .u32 (0), V.int .i64 (0), V.int .i64 (0), V.int .i64 (0), V.int .u32 (0), V.int
  .i64 (0), V.int .i64 (0), V.int .i64 (0), V.int .u32 (0), V.int .i64 (0), V.int .i64 (0), V.int .i64 (0), V.int .u32 (0), V.int .i64 (0), V.int .i64 (0), V.int .i64 (0),
  V.int .u32 (0), V.int .i64 (0), V.int .i64 (0), V.int .i64 (0), V.int .u32 (0)] [(0, 4, Opd.t 66), (4, 4, Opd.t 67), (8, 4, Opd.t 68), (12, 4, Opd.t 69), (16, 4, Opd.t
  70), (20, 4, Opd.t 71), (24, 4, Opd.t 72)]) (some (61, false)), EOper.mk (some 74) (EOp.call (Opd.f 4) [Opd.t 65, Opd.t 73]) (some (61, false)), EOper.mk (some 75)
  (EOp.un .not (Opd.t 74)) (some (61, false)), EOper.mk (some 76) (EOp.pick (Opd.t 61) (Opd.c (V.bool true)) (Opd.t 75)) none]) (EC.cond (Opd.t 76) (EC.seq (EC.ops false
  [EOper.mk (some 0) (EOp.mv (Opd.c (V.bool false))) none]) EC.ret) EC.skip)))))
def l5_0m1 : List Bool := [true, false, false, false, true, true, true, false, false, false, false, false, false, false, false, false, false, false, true, true, true, true, true, true, true, true, true, true, true, true, true, true, true, true, true, true, true, true, true, true, true, true, true, true, true, true, true, true, true, true, true, true, true, true, true, true, true, true, true, true, true, true, true, true, true, true, true, true, true, true, true, true, true, true, true, true, true, false, false, false, false, false, false, false, false, false, false, false, false, false, false, false, false, false, false, false, false, false, false, false, false, false, false, false, false, false, false, false, false, false, false, false, false, false, false, false, false, false, false, false, false]
def l5_0p2 : EC := EC.ops false [EOper.mk (some 16) (EOp.mv (Opd.t 3)) none, EOper.mk (some 17) (EOp.bin .add (Opd.t 16) (Opd.c (V.int .i64 (1)))) none, EOper.mk (some 3)
  (EOp.mv (Opd.t 17)) none]
def l5_0m2 : List Bool := [false, false, false, true, false, false, false, false, false, false, false, false, false, false, false, false, true, true, false, false, false, false, false, false, false, false, false, false, false, false, false, false, false, false, false, false, false, false, false, false, false, false, false, false, false, false, false, false, false, false, false, false, false, false, false, false, false, false, false, false, false, false, false, false, false, false, false, false, false, false, false, false, false, false, false, false, false, false, false, false, false, false, false, false, false, false, false, false, false, false, false, false, false, false, false, false, false, false, false, false, false, false, false, false, false, false, false, false, false, false, false, false, false, false, false, false, false, false, false, false, false]
def l5_0r2 : EC := l5_0p2
def l5_0r1 : EC := EC.seq l5_0p1 l5_0r2
def l5_0r0 : EC := EC.seq l5_0p0 l5_0r1
def l5_0 : EC := l5_0r0
def l5_3p0 : EC := EC.seq (EC.ops false [EOper.mk (some 80) (EOp.mv (Opd.t 8)) none, EOper.mk (some 81) (EOp.bin .lss (Opd.t 80) (Opd.c (V.int .i64 (2)))) none]) (EC.cond
  (Opd.t 81) EC.skip (EC.exit 6))
def l5_3m0 : List Bool := [false, false, false, false, false, false, false, false, false, false, false, false, false, false, false, false, false, false, false, false, false, false, false, false, false, false, false, false, false, false, false, false, false, false, false, false, false, false, false, false, false, false, false, false, false, false, false, false, false, false, false, false, false, false, false, false, false, false, false, false, false, false, false, false, false, false, false, false, false, false, false, false, false, false, false, false, false, false, false, false, true, true, false, false, false, false, false, false, false, false, false, false, false, false, false, false, false, false, false, false, false, false, false, false, false, false, false, false, false, false, false, false, false, false, false, false, false, false, false, false, false]
def l5_3p1 : EC := EC.block 7 (EC.seq (EC.ops false [EOper.mk (some 84) (EOp.mv (Opd.t 7)) none, EOper.mk (some 85) (EOp.mv (Opd.t 8)) none, EOper.mk (some 86) (EOp.ixs 1
  (Opd.t 84) (Opd.t 85)) none, EOper.mk (some 87) (EOp.ld false 1 (Opd.t 86)) none, EOper.mk (some 9) (EOp.mv (Opd.t 87)) none]) (EC.seq (EC.ops false [EOper.mk (some 89)
  (EOp.mv (Opd.t 9)) none, EOper.mk (some 90) (EOp.call (Opd.f 10) [Opd.t 89, Opd.c (V.int .i64 (0)), Opd.c (V.int .i64 (4))]) none, EOper.mk (some 88) (EOp.mv (Opd.t 90))
  none, EOper.mk (some 91) (EOp.ext (Opd.t 88) 0) none, EOper.mk (some 92) (EOp.ext (Opd.t 88) 1) none, EOper.mk (some 10) (EOp.mv (Opd.t 91)) none, EOper.mk (some 11)
  (EOp.mv (Opd.t 92)) none]) (EC.seq (EC.ops false [EOper.mk (some 93) (EOp.mv (Opd.t 9)) none, EOper.mk (some 94) (EOp.call (Opd.f 16) [Opd.t 93]) none]) (EC.seq (EC.ops
  false [EOper.mk (some 95) (EOp.mv (Opd.t 10)) none, EOper.mk (some 96) (EOp.bin .neq (Opd.t 95) (Opd.c (V.int .u32 (0)))) none, EOper.mk (some 97) (EOp.mv (Opd.t 96))
  none, EOper.mk (some 98) (EOp.mv (Opd.t 11)) (some (97, false)), EOper.mk (some 99) (EOp.pick (Opd.t 97) (Opd.c (V.bool true)) (Opd.t 98)) none, EOper.mk (some 100)
  (EOp.mv (Opd.t 99)) none, EOper.mk (some 101) (EOp.mv (Opd.t 9)) (some (100, false)), EOper.mk (some 102) (EOp.call (Opd.f 9) [Opd.t 101, Opd.c (V.int .i64 (0)), Opd.c
  (V.int .i64 (4)), Opd.c (V.int .u32 (1))]) (some (100, false)), EOper.mk (some 103) (EOp.pick (Opd.t 100) (Opd.c (V.bool true)) (Opd.t 102)) none, EOper.mk (some 104)
  (EOp.mv (Opd.t 103)) none, EOper.mk (some 105) (EOp.mv (Opd.t 9)) (some (104, false)), EOper.mk (some 106) (EOp.call (Opd.f 12) [Opd.t 105]) (some (104, false)),
  EOper.mk (some 107) (EOp.bin .neq (Opd.t 106) (Opd.c (V.int .i64 (0)))) (some (104, false)), EOper.mk (some 108) (EOp.pick (Opd.t 104) (Opd.c (V.bool true)) (Opd.t 107))
  none, EOper.mk (some 109) (EOp.mv (Opd.t 108)) none, EOper.mk (some 110) (EOp.mv (Opd.t 9)) (some (109, false)), EOper.mk (some 111) (EOp.call (Opd.f 18) [Opd.t 110])
  (some (109, false)), EOper.mk (some 112) (EOp.len false (Opd.t 111)) (some (109, false)), EOper.mk (some 113) (EOp.bin .gtr (Opd.t 112) (Opd.c (V.int .i64 (0)))) (some
  (109, false)), EOper.mk (some 114) (EOp.pick (Opd.t 109) (Opd.c (V.bool true)) (Opd.t 113)) none, EOper.mk (some 115) (EOp.mv (Opd.t 114)) none, EOper.mk (some 116)
  (EOp.mv (Opd.t 9)) (some (115, false)), EOper.mk (some 117) (EOp.call (Opd.f 11) [Opd.t 116]) (some (115, false)), EOper.mk (some 118) (EOp.eqp true (Opd.t 117) (Opd.c
  (V.ptr none))) (some (115, false)), EOper.mk (some 119) (EOp.pick (Opd.t 115) (Opd.c (V.bool true)) (Opd.t 118)) none]) (EC.cond (Opd.t 119) (EC.seq (EC.ops false
  [EOper.mk (some 0) (EOp.mv (Opd.c (V.bool false))) none]) EC.ret) EC.skip)))))
def l5_3m1 : List Bool := [true, false, false, false, false, false, false, false, false, true, true, true, false, false, false, false, false, false, false, false, false, false, false, false, false, false, false, false, false, false, false, false, false, false, false, false, false, false, false, false, false, false, false, false, false, false, false, false, false, false, false, false, false, false, false, false, false, false, false, false, false, false, false, false, false, false, false, false, false, false, false, false, false, false, false, false, false, false, false, false, false, false, false, false, true, true, true, true, true, true, true, true, true, true, true, true, true, true, true, true, true, true, true, true, true, true, true, true, true, true, true, true, true, true, true, true, true, true, true, true, false]
def l5_3p2 : EC := EC.ops false [EOper.mk (some 82) (EOp.mv (Opd.t 8)) none, EOper.mk (some 83) (EOp.bin .add (Opd.t 82) (Opd.c (V.int .i64 (1)))) none, EOper.mk (some 8)
  (EOp.mv (Opd.t 83)) none]
def l5_3m2 : List Bool := [false, false, false, false, false, false, false, false, true, false, false, false, false, false, false, false, false, false, false, false, false, false, false, false, false, false, false, false, false, false, false, false, false, false, false, false, false, false, false, false, false, false, false, false, false, false, false, false, false, false, false, false, false, false, false, false, false, false, false, false, false, false, false, false, false, false, false, false, false, false, false, false, false, false, false, false, false, false, false, false, false, false, true, true, false, false, false, false, false, false, false, false, false, false, false, false, false, false, false, false, false, false, false, false, false, false, false, false, false, false, false, false, false, false, false, false, false, false, false, false, false]
def l5_3r2 : EC := l5_3p2
def l5_3r1 : EC := EC.seq l5_3p1 l5_3r2
def l5_3r0 : EC := EC.seq l5_3p0 l5_3r1
def l5_3 : EC := l5_3r0
def b5_0 : EC := EC.ops false [EOper.mk (some 0) (EOp.mv (Opd.c (V.bool false))) none]
def m5_0 : List Bool := [true, false, false, false, false, false, false, false, false, false, false, false, false, false, false, false, false, false, false, false, false, false, false, false, false, false, false, false, false, false, false, false, false, false, false, false, false, false, false, false, false, false, false, false, false, false, false, false, false, false, false, false, false, false, false, false, false, false, false, false, false, false, false, false, false, false, false, false, false, false, false, false, false, false, false, false, false, false, false, false, false, false, false, false, false, false, false, false, false, false, false, false, false, false, false, false, false, false, false, false, false, false, false, false, false, false, false, false, false, false, false, false, false, false, false, false, false, false, false, false, false]
def b5_1 : EC := EC.ops false [EOper.mk (some 12) (EOp.bslice 3 13 [V.int .i64 (0), V.int .i64 (0), V.int .i64 (0), V.int .i64 (0), V.int .i64 (0), V.int .i64 (0), V.int
  .i64 (0), V.int .i64 (0), V.int .i64 (0), V.int .i64 (0), V.int .i64 (0), V.int .i64 (0), V.int .i64 (0)] [(0, 1, Opd.c (V.int .i64 (-9223372036854775808))), (1, 1,
  Opd.c (V.int .i64 (-4))), (2, 1, Opd.c (V.int .i64 (0))), (3, 1, Opd.c (V.int .i64 (3))), (4, 1, Opd.c (V.int .i64 (4))), (5, 1, Opd.c (V.int .i64 (5))), (6, 1, Opd.c
  (V.int .i64 (6))), (7, 1, Opd.c (V.int .i64 (8))), (8, 1, Opd.c (V.int .i64 (4092))), (9, 1, Opd.c (V.int .i64 (4096))), (10, 1, Opd.c (V.int .i64 (4100))), (11, 1,
  Opd.c (V.int .i64 (4294967296))), (12, 1, Opd.c (V.int .i64 (9223372036854775807)))]) none, EOper.mk (some 1) (EOp.mv (Opd.t 12)) none]
def m5_1 : List Bool := [false, true, false, false, false, false, false, false, false, false, false, false, true, false, false, false, false, false, false, false, false, false, false, false, false, false, false, false, false, false, false, false, false, false, false, false, false, false, false, false, false, false, false, false, false, false, false, false, false, false, false, false, false, false, false, false, false, false, false, false, false, false, false, false, false, false, false, false, false, false, false, false, false, false, false, false, false, false, false, false, false, false, false, false, false, false, false, false, false, false, false, false, false, false, false, false, false, false, false, false, false, false, false, false, false, false, false, false, false, false, false, false, false, false, false, false, false, false, false, false, false]
def b5_2 : EC := EC.ops false [EOper.mk (some 13) (EOp.bslice 3 8 [V.int .i64 (0), V.int .i64 (0), V.int .i64 (0), V.int .i64 (0), V.int .i64 (0), V.int .i64 (0), V.int
  .i64 (0), V.int .i64 (0)] [(0, 1, Opd.c (V.int .i64 (-9223372036854775808))), (1, 1, Opd.c (V.int .i64 (-4))), (2, 1, Opd.c (V.int .i64 (-1))), (3, 1, Opd.c (V.int .i64
  (4294967296))), (4, 1, Opd.c (V.int .i64 (4294967300))), (5, 1, Opd.c (V.int .i64 (4611686018427387908))), (6, 1, Opd.c (V.int .i64 (9223372036854775804))), (7, 1, Opd.c
  (V.int .i64 (9223372036854775807)))]) none, EOper.mk (some 2) (EOp.mv (Opd.t 13)) none]
def m5_2 : List Bool := [false, false, true, false, false, false, false, false, false, false, false, false, false, true, false, false, false, false, false, false, false, false, false, false, false, false, false, false, false, false, false, false, false, false, false, false, false, false, false, false, false, false, false, false, false, false, false, false, false, false, false, false, false, false, false, false, false, false, false, false, false, false, false, false, false, false, false, false, false, false, false, false, false, false, false, false, false, false, false, false, false, false, false, false, false, false, false, false, false, false, false, false, false, false, false, false, false, false, false, false, false, false, false, false, false, false, false, false, false, false, false, false, false, false, false, false, false, false, false, false, false]
def b5_3 : EC := EC.seq (EC.ops false [EOper.mk (some 3) (EOp.mv (Opd.c (V.int .i64 (0)))) none]) (EC.block 0 (EC.loop l5_0))
def m5_3 : List Bool := [true, false, false, true, true, true, true, false, false, false, false, false, false, false, true, true, true, true, true, true, true, true, true, true, true, true, true, true, true, true, true, true, true, true, true, true, true, true, true, true, true, true, true, true, true, true, true, true, true, true, true, true, true, true, true, true, true, true, true, true, true, true, true, true, true, true, true, true, true, true, true, true, true, true, true, true, true, false, false, false, false, false, false, false, false, false, false, false, false, false, false, false, false, false, false, false, false, false, false, false, false, false, false, false, false, false, false, false, false, false, false, false, false, false, false, false, false, false, false, false, false]
def b5_4 : EC := EC.ops false [EOper.mk (some 77) (EOp.build [V.sl none 0 0] []) none, EOper.mk (some 78) (EOp.box false 54 (Opd.t 77)) none, EOper.mk (some 79)
  (EOp.bslice 25 2 [V.ptr none, V.ptr none] [(0, 1, Opd.c (V.ptr none)), (1, 1, Opd.t 78)]) none, EOper.mk (some 7) (EOp.mv (Opd.t 79)) none]
def m5_4 : List Bool := [false, false, false, false, false, false, false, true, false, false, false, false, false, false, false, false, false, false, false, false, false, false, false, false, false, false, false, false, false, false, false, false, false, false, false, false, false, false, false, false, false, false, false, false, false, false, false, false, false, false, false, false, false, false, false, false, false, false, false, false, false, false, false, false, false, false, false, false, false, false, false, false, false, false, false, false, false, true, true, true, false, false, false, false, false, false, false, false, false, false, false, false, false, false, false, false, false, false, false, false, false, false, false, false, false, false, false, false, false, false, false, false, false, false, false, false, false, false, false, false, false]
def b5_5 : EC := EC.seq (EC.ops false [EOper.mk (some 8) (EOp.mv (Opd.c (V.int .i64 (0)))) none]) (EC.block 6 (EC.loop l5_3))
def m5_5 : List Bool := [true, false, false, false, false, false, false, false, true, true, true, true, false, false, false, false, false, false, false, false, false, false, false, false, false, false, false, false, false, false, false, false, false, false, false, false, false, false, false, false, false, false, false, false, false, false, false, false, false, false, false, false, false, false, false, false, false, false, false, false, false, false, false, false, false, false, false, false, false, false, false, false, false, false, false, false, false, false, false, false, true, true, true, true, true, true, true, true, true, true, true, true, true, true, true, true, true, true, true, true, true, true, true, true, true, true, true, true, true, true, true, true, true, true, true, true, true, true, true, true, false]
def b5_6 : EC := EC.ops false [EOper.mk (some 120) (EOp.call (Opd.f 7) []) none, EOper.mk (some 0) (EOp.mv (Opd.t 120)) none]
def m5_6 : List Bool := [true, false, false, false, false, false, false, false, false, false, false, false, false, false, false, false, false, false, false, false, false, false, false, false, false, false, false, false, false, false, false, false, false, false, false, false, false, false, false, false, false, false, false, false, false, false, false, false, false, false, false, false, false, false, false, false, false, false, false, false, false, false, false, false, false, false, false, false, false, false, false, false, false, false, false, false, false, false, false, false, false, false, false, false, false, false, false, false, false, false, false, false, false, false, false, false, false, false, false, false, false, false, false, false, false, false, false, false, false, false, false, false, false, false, false, false, false, false, false, false, true]
def b5_7 : EC := EC.ret
def m5_7 : List Bool := [false, false, false, false, false, false, false, false, false, false, false, false, false, false, false, false, false, false, false, false, false, false, false, false, false, false, false, false, false, false, false, false, false, false, false, false, false, false, false, false, false, false, false, false, false, false, false, false, false, false, false, false, false, false, false, false, false, false, false, false, false, false, false, false, false, false, false, false, false, false, false, false, false, false, false, false, false, false, false, false, false, false, false, false, false, false, false, false, false, false, false, false, false, false, false, false, false, false, false, false, false, false, false, false, false, false, false, false, false, false, false, false, false, false, false, false, false, false, false, false, false]
def r5_7 : EC := b5_7
def r5_6 : EC := EC.seq b5_6 r5_7
def r5_5 : EC := EC.seq b5_5 r5_6
def r5_4 : EC := EC.seq b5_4 r5_5
def r5_3 : EC := EC.seq b5_3 r5_4
def r5_2 : EC := EC.seq b5_2 r5_3
def r5_1 : EC := EC.seq b5_1 r5_2
def r5_0 : EC := EC.seq b5_0 r5_1
def e5 : EFun := EFun.mk 121 [ERes.t 0] r5_0
theorem c5 : cFun Tryd.prog 2 (fun d => d == 78 || d == 3000000) Tryd.f5 = some e5 := by kernel_rfl
theorem x5 : Tryd.prog.funcs[5]? = some Tryd.f5 := by kernel_rfl
theorem n5 : (Tryd.f5.name == "runtime.NumGoroutine") = false := by kernel_rfl
/-! 6: septumlaw09.RamKeeps -/
def l6_0p0 : EC := EC.seq (EC.ops false [EOper.mk (some 43) (EOp.mv (Opd.t 17)) none, EOper.mk (some 44) (EOp.mv (Opd.t 1)) none, EOper.mk (some 45) (EOp.len false (Opd.t
  44)) none, EOper.mk (some 46) (EOp.bin .lss (Opd.t 43) (Opd.t 45)) none]) (EC.cond (Opd.t 46) EC.skip (EC.exit 0))
def l6_0m0 : List Bool := [false, false, false, false, false, false, false, false, false, false, false, false, false, false, false, false, false, false, false, false, false, false, false, false, false, false, false, false, false, false, false, false, false, false, false, false, false, false, false, false, false, false, false, true, true, true, true, false, false, false, false, false, false, false, false, false, false, false, false, false, false, false, false, false, false, false, false, false, false, false, false, false, false, false, false, false, false, false, false, false, false, false, false, false, false, false, false, false, false, false, false, false, false, false, false, false, false, false, false, false, false, false, false, false, false, false, false, false, false, false, false, false, false, false, false, false, false, false, false, false, false, false, false, false, false, false, false, false, false, false, false, false, false, false, false, false, false, false, false, false, false, false, false, false, false, false, false, false, false, false, false, false, false, false, false, false, false, false, false, false, false, false, false, false, false, false, false, false, false, false, false, false, false, false, false, false, false, false, false, false, false, false, false, false, false, false, false, false, false, false, false, false, false, false, false, false, false, false, false, false, false, false, false, false, false, false, false, false, false, false, false, false, false, false, false, false, false, false, false, false, false, false, false, false, false, false, false, false, false, false, false, false, false, false, false, false]
def l6_0p1 : EC := EC.block 1 (EC.opsT [EOper.mk (some 49) (EOp.mv (Opd.t 15)) none, EOper.mk (some 50) (EOp.mv (Opd.t 1)) none, EOper.mk (some 51) (EOp.mv (Opd.t 17))
  none, EOper.mk (some 52) (EOp.ixs 4 (Opd.t 50) (Opd.t 51)) none, EOper.mk (some 53) (EOp.fa 1 (Opd.t 52)) none, EOper.mk (some 54) (EOp.ld false 1 (Opd.t 53)) none,
  EOper.mk (some 55) (EOp.mv (Opd.t 1)) none, EOper.mk (some 56) (EOp.mv (Opd.t 17)) none, EOper.mk (some 57) (EOp.ixs 4 (Opd.t 55) (Opd.t 56)) none, EOper.mk (some 58)
  (EOp.fa 2 (Opd.t 57)) none, EOper.mk (some 59) (EOp.ld false 1 (Opd.t 58)) none, EOper.mk (some 60) (EOp.mv (Opd.t 1)) none, EOper.mk (some 61) (EOp.mv (Opd.t 17)) none,
  EOper.mk (some 62) (EOp.ixs 4 (Opd.t 60) (Opd.t 61)) none, EOper.mk (some 63) (EOp.fa 3 (Opd.t 62)) none, EOper.mk (some 64) (EOp.ld false 1 (Opd.t 63)) none] []
  [EOper.mk (some 65) (EOp.call (Opd.f 9) [Opd.t 49, Opd.t 54, Opd.t 59, Opd.t 64]) none])
def l6_0m1 : List Bool := [false, false, false, false, false, false, false, false, false, false, false, false, false, false, false, false, false, false, false, false, false, false, false, false, false, false, false, false, false, false, false, false, false, false, false, false, false, false, false, false, false, false, false, false, false, false, false, false, false, true, true, true, true, true, true, true, true, true, true, true, true, true, true, true, true, true, false, false, false, false, false, false, false, false, false, false, false, false, false, false, false, false, false, false, false, false, false, false, false, false, false, false, false, false, false, false, false, false, false, false, false, false, false, false, false, false, false, false, false, false, false, false, false, false, false, false, false, false, false, false, false, false, false, false, false, false, false, false, false, false, false, false, false, false, false, false, false, false, false, false, false, false, false, false, false, false, false, false, false, false, false, false, false, false, false, false, false, false, false, false, false, false, false, false, false, false, false, false, false, false, false, false, false, false, false, false, false, false, false, false, false, false, false, false, false, false, false, false, false, false, false, false, false, false, false, false, false, false, false, false, false, false, false, false, false, false, false, false, false, false, false, false, false, false, false, false, false, false, false, false, false, false, false, false, false, false, false, false, false, false, false, false, false, false, false, false]
def l6_0p2 : EC := EC.ops false [EOper.mk (some 47) (EOp.mv (Opd.t 17)) none, EOper.mk (some 48) (EOp.bin .add (Opd.t 47) (Opd.c (V.int .i64 (1)))) none, EOper.mk (some
  17) (EOp.mv (Opd.t 48)) none]
def l6_0m2 : List Bool := [false, false, false, false, false, false, false, false, false, false, false, false, false, false, false, false, false, true, false, false, false, false, false, false, false, false, false, false, false, false, false, false, false, false, false, false, false, false, false, false, false, false, false, false, false, false, false, true, true, false, false, false, false, false, false, false, false, false, false, false, false, false, false, false, false, false, false, false, false, false, false, false, false, false, false, false, false, false, false, false, false, false, false, false, false, false, false, false, false, false, false, false, false, false, false, false, false, false, false, false, false, false, false, false, false, false, false, false, false, false, false, false, false, false, false, false, false, false, false, false, false, false, false, false, false, false, false, false, false, false, false, false, false, false, false, false, false, false, false, false, false, false, false, false, false, false, false, false, false, false, false, false, false, false, false, false, false, false, false, false, false, false, false, false, false, false, false, false, false, false, false, false, false, false, false, false, false, false, false, false, false, false, false, false, false, false, false, false, false, false, false, false, false, false, false, false, false, false, false, false, false, false, false, false, false, false, false, false, false, false, false, false, false, false, false, false, false, false, false, false, false, false, false, false, false, false, false, false, false, false, false, false, false, false, false, false]
def l6_0r2 : EC := l6_0p2
def l6_0r1 : EC := EC.seq l6_0p1 l6_0r2
def l6_0r0 : EC := EC.seq l6_0p0 l6_0r1
def l6_0 : EC := l6_0r0
def l6_1p0 : EC := EC.seq (EC.ops false [EOper.mk (some 124) (EOp.mv (Opd.t 21)) none, EOper.mk (some 125) (EOp.mv (Opd.t 0)) none, EOper.mk (some 126) (EOp.bin .lss
  (Opd.t 124) (Opd.t 125)) none]) (EC.cond (Opd.t 126) EC.skip (EC.exit 2))
def l6_1m0 : List Bool := [false, false, false, false, false, false, false, false, false, false, false, false, false, false, false, false, false, false, false, false, false, false, false, false, false, false, false, false, false, false, false, false, false, false, false, false, false, false, false, false, false, false, false, false, false, false, false, false, false, false, false, false, false, false, false, false, false, false, false, false, false, false, false, false, false, false, false, false, false, false, false, false, false, false, false, false, false, false, false, false, false, false, false, false, false, false, false, false, false, false, false, false, false, false, false, false, false, false, false, false, false, false, false, false, false, false, false, false, false, false, false, false, false, false, false, false, false, false, false, false, false, false, false, false, true, true, true, false, false, false, false, false, false, false, false, false, false, false, false, false, false, false, false, false, false, false, false, false, false, false, false, false, false, false, false, false, false, false, false, false, false, false, false, false, false, false, false, false, false, false, false, false, false, false, false, false, false, false, false, false, false, false, false, false, false, false, false, false, false, false, false, false, false, false, false, false, false, false, false, false, false, false, false, false, false, false, false, false, false, false, false, false, false, false, false, false, false, false, false, false, false, false, false, false, false, false, false, false, false, false, false, false, false, false, false, false]
def l6_1p1 : EC := EC.block 3 (EC.seq (EC.ops false [EOper.mk (some 129) (EOp.mv (Opd.t 21)) none, EOper.mk (some 130) (EOp.mv (Opd.t 2)) none, EOper.mk (some 131)
  (EOp.bin .geq (Opd.t 129) (Opd.t 130)) none, EOper.mk (some 132) (EOp.mv (Opd.t 131)) none, EOper.mk (some 133) (EOp.mv (Opd.t 21)) (some (132, true)), EOper.mk (some
  134) (EOp.mv (Opd.t 2)) (some (132, true)), EOper.mk (some 135) (EOp.mv (Opd.t 3)) (some (132, true)), EOper.mk (some 136) (EOp.bin .add (Opd.t 134) (Opd.t 135)) (some
  (132, true)), EOper.mk (some 137) (EOp.bin .lss (Opd.t 133) (Opd.t 136)) (some (132, true)), EOper.mk (some 138) (EOp.pick (Opd.t 132) (Opd.t 137) (Opd.c (V.bool
  false))) none, EOper.mk (some 22) (EOp.mv (Opd.t 138)) none]) (EC.seq (EC.ops true [EOper.mk (some 139) (EOp.mv (Opd.t 22)) none, EOper.mk (some 140) (EOp.mv (Opd.t
  139)) none, EOper.mk (some 141) (EOp.mv (Opd.t 19)) (some (140, true)), EOper.mk (some 142) (EOp.mv (Opd.t 21)) (some (140, true)), EOper.mk (some 143) (EOp.ixs 1 (Opd.t
  141) (Opd.t 142)) (some (140, true)), EOper.mk (some 144) (EOp.ld false 1 (Opd.t 143)) (some (140, true)), EOper.mk (some 145) (EOp.mv (Opd.t 20)) (some (140, true)),
  EOper.mk (some 146) (EOp.mv (Opd.t 21)) (some (140, true)), EOper.mk (some 147) (EOp.mv (Opd.t 2)) (some (140, true)), EOper.mk (some 148) (EOp.bin .sub (Opd.t 146)
  (Opd.t 147)) (some (140, true)), EOper.mk (some 149) (EOp.ixs 1 (Opd.t 145) (Opd.t 148)) (some (140, true)), EOper.mk (some 150) (EOp.ld false 1 (Opd.t 149)) (some (140,
  true)), EOper.mk (some 151) (EOp.bin .neq (Opd.t 144) (Opd.t 150)) (some (140, true)), EOper.mk (some 152) (EOp.pick (Opd.t 140) (Opd.t 151) (Opd.c (V.bool false)))
  none, EOper.mk (some 153) (EOp.mv (Opd.t 152)) none, EOper.mk (some 154) (EOp.mv (Opd.t 22)) (some (153, false)), EOper.mk (some 155) (EOp.un .not (Opd.t 154)) (some
  (153, false)), EOper.mk (some 156) (EOp.mv (Opd.t 155)) (some (153, false)), EOper.mk (some 157) (EOp.mv (Opd.t 19)) (some (156, true)), EOper.mk (some 158) (EOp.mv
  (Opd.t 21)) (some (156, true)), EOper.mk (some 159) (EOp.ixs 1 (Opd.t 157) (Opd.t 158)) (some (156, true)), EOper.mk (some 160) (EOp.ld false 1 (Opd.t 159)) (some (156,
  true)), EOper.mk (some 161) (EOp.mv (Opd.t 18)) (some (156, true)), EOper.mk (some 162) (EOp.mv (Opd.t 21)) (some (156, true)), EOper.mk (some 163) (EOp.ixs 1 (Opd.t
  161) (Opd.t 162)) (some (156, true)), EOper.mk (some 164) (EOp.ld false 1 (Opd.t 163)) (some (156, true)), EOper.mk (some 165) (EOp.bin .neq (Opd.t 160) (Opd.t 164))
  (some (156, true)), EOper.mk (some 166) (EOp.pick (Opd.t 156) (Opd.t 165) (Opd.c (V.bool false))) (some (153, false)), EOper.mk (some 167) (EOp.pick (Opd.t 153) (Opd.c
  (V.bool true)) (Opd.t 166)) none]) (EC.cond (Opd.t 167) (EC.seq (EC.ops false [EOper.mk (some 14) (EOp.mv (Opd.c (V.bool false))) none]) EC.ret) EC.skip)))
def l6_1m1 : List Bool := [false, false, false, false, false, false, false, false, false, false, false, false, false, false, true, false, false, false, false, false, false, false, true, false, false, false, false, false, false, false, false, false, false, false, false, false, false, false, false, false, false, false, false, false, false, false, false, false, false, false, false, false, false, false, false, false, false, false, false, false, false, false, false, false, false, false, false, false, false, false, false, false, false, false, false, false, false, false, false, false, false, false, false, false, false, false, false, false, false, false, false, false, false, false, false, false, false, false, false, false, false, false, false, false, false, false, false, false, false, false, false, false, false, false, false, false, false, false, false, false, false, false, false, false, false, false, false, false, false, true, true, true, true, true, true, true, true, true, true, true, true, true, true, true, true, true, true, true, true, true, true, true, true, true, true, true, true, true, true, true, true, true, true, true, true, true, true, true, false, false, false, false, false, false, false, false, false, false, false, false, false, false, false, false, false, false, false, false, false, false, false, false, false, false, false, false, false, false, false, false, false, false, false, false, false, false, false, false, false, false, false, false, false, false, false, false, false, false, false, false, false, false, false, false, false, false, false, false, false, false, false, false, false, false, false, false]
def l6_1p2 : EC := EC.ops false [EOper.mk (some 127) (EOp.mv (Opd.t 21)) none, EOper.mk (some 128) (EOp.bin .add (Opd.t 127) (Opd.c (V.int .i64 (1)))) none, EOper.mk (some
  21) (EOp.mv (Opd.t 128)) none]
def l6_1m2 : List Bool := [false, false, false, false, false, false, false, false, false, false, false, false, false, false, false, false, false, false, false, false, false, true, false, false, false, false, false, false, false, false, false, false, false, false, false, false, false, false, false, false, false, false, false, false, false, false, false, false, false, false, false, false, false, false, false, false, false, false, false, false, false, false, false, false, false, false, false, false, false, false, false, false, false, false, false, false, false, false, false, false, false, false, false, false, false, false, false, false, false, false, false, false, false, false, false, false, false, false, false, false, false, false, false, false, false, false, false, false, false, false, false, false, false, false, false, false, false, false, false, false, false, false, false, false, false, false, false, true, true, false, false, false, false, false, false, false, false, false, false, false, false, false, false, false, false, false, false, false, false, false, false, false, false, false, false, false, false, false, false, false, false, false, false, false, false, false, false, false, false, false, false, false, false, false, false, false, false, false, false, false, false, false, false, false, false, false, false, false, false, false, false, false, false, false, false, false, false, false, false, false, false, false, false, false, false, false, false, false, false, false, false, false, false, false, false, false, false, false, false, false, false, false, false, false, false, false, false, false, false, false, false, false, false, false, false, false]
def l6_1r2 : EC := l6_1p2
def l6_1r1 : EC := EC.seq l6_1p1 l6_1r2
def l6_1r0 : EC := EC.seq l6_1p0 l6_1r1
def l6_1 : EC := l6_1r0
def b6_0 : EC := EC.ops false [EOper.mk (some 14) (EOp.mv (Opd.c (V.bool false))) none]
def m6_0 : List Bool := [false, false, false, false, false, false, false, false, false, false, false, false, false, false, true, false, false, false, false, false, false, false, false, false, false, false, false, false, false, false, false, false, false, false, false, false, false, false, false, false, false, false, false, false, false, false, false, false, false, false, false, false, false, false, false, false, false, false, false, false, false, false, false, false, false, false, false, false, false, false, false, false, false, false, false, false, false, false, false, false, false, false, false, false, false, false, false, false, false, false, false, false, false, false, false, false, false, false, false, false, false, false, false, false, false, false, false, false, false, false, false, false, false, false, false, false, false, false, false, false, false, false, false, false, false, false, false, false, false, false, false, false, false, false, false, false, false, false, false, false, false, false, false, false, false, false, false, false, false, false, false, false, false, false, false, false, false, false, false, false, false, false, false, false, false, false, false, false, false, false, false, false, false, false, false, false, false, false, false, false, false, false, false, false, false, false, false, false, false, false, false, false, false, false, false, false, false, false, false, false, false, false, false, false, false, false, false, false, false, false, false, false, false, false, false, false, false, false, false, false, false, false, false, false, false, false, false, false, false, false, false, false, false, false, false, false]
def b6_1 : EC := EC.seq (EC.ops false [EOper.mk (some 29) (EOp.call (Opd.f 7) []) none, EOper.mk (some 30) (EOp.un .not (Opd.t 29)) none]) (EC.cond (Opd.t 30) (EC.seq
  (EC.ops false [EOper.mk (some 14) (EOp.mv (Opd.c (V.bool false))) none]) EC.ret) EC.skip)
def m6_1 : List Bool := [false, false, false, false, false, false, false, false, false, false, false, false, false, false, true, false, false, false, false, false, false, false, false, false, false, false, false, false, false, true, true, false, false, false, false, false, false, false, false, false, false, false, false, false, false, false, false, false, false, false, false, false, false, false, false, false, false, false, false, false, false, false, false, false, false, false, false, false, false, false, false, false, false, false, false, false, false, false, false, false, false, false, false, false, false, false, false, false, false, false, false, false, false, false, false, false, false, false, false, false, false, false, false, false, false, false, false, false, false, false, false, false, false, false, false, false, false, false, false, false, false, false, false, false, false, false, false, false, false, false, false, false, false, false, false, false, false, false, false, false, false, false, false, false, false, false, false, false, false, false, false, false, false, false, false, false, false, false, false, false, false, false, false, false, false, false, false, false, false, false, false, false, false, false, false, false, false, false, false, false, false, false, false, false, false, false, false, false, false, false, false, false, false, false, false, false, false, false, false, false, false, false, false, false, false, false, false, false, false, false, false, false, false, false, false, false, false, false, false, false, false, false, false, false, false, false, false, false, false, false, false, false, false, false, false, false]
def b6_2 : EC := EC.ops false [EOper.mk (some 32) (EOp.mv (Opd.t 0)) none, EOper.mk (some 33) (EOp.call (Opd.f 8) [Opd.t 32]) none, EOper.mk (some 31) (EOp.mv (Opd.t 33))
  none, EOper.mk (some 34) (EOp.ext (Opd.t 31) 0) none, EOper.mk (some 35) (EOp.ext (Opd.t 31) 1) none, EOper.mk (some 15) (EOp.mv (Opd.t 34)) none, EOper.mk (some 16)
  (EOp.mv (Opd.t 35)) none]
def m6_2 : List Bool := [false, false, false, false, false, false, false, false, false, false, false, false, false, false, false, true, true, false, false, false, false, false, false, false, false, false, false, false, false, false, false, true, true, true, true, true, false, false, false, false, false, false, false, false, false, false, false, false, false, false, false, false, false, false, false, false, false, false, false, false, false, false, false, false, false, false, false, false, false, false, false, false, false, false, false, false, false, false, false, false, false, false, false, false, false, false, false, false, false, false, false, false, false, false, false, false, false, false, false, false, false, false, false, false, false, false, false, false, false, false, false, false, false, false, false, false, false, false, false, false, false, false, false, false, false, false, false, false, false, false, false, false, false, false, false, false, false, false, false, false, false, false, false, false, false, false, false, false, false, false, false, false, false, false, false, false, false, false, false, false, false, false, false, false, false, false, false, false, false, false, false, false, false, false, false, false, false, false, false, false, false, false, false, false, false, false, false, false, false, false, false, false, false, false, false, false, false, false, false, false, false, false, false, false, false, false, false, false, false, false, false, false, false, false, false, false, false, false, false, false, false, false, false, false, false, false, false, false, false, false, false, false, false, false, false, false]
def b6_3 : EC := EC.seq (EC.ops false [EOper.mk (some 36) (EOp.mv (Opd.t 16)) none, EOper.mk (some 37) (EOp.bin .neq (Opd.t 36) (Opd.c (V.int .i64 (0)))) none, EOper.mk
  (some 38) (EOp.mv (Opd.t 37)) none, EOper.mk (some 39) (EOp.mv (Opd.t 1)) (some (38, false)), EOper.mk (some 40) (EOp.len false (Opd.t 39)) (some (38, false)), EOper.mk
  (some 41) (EOp.bin .gtr (Opd.t 40) (Opd.c (V.int .i64 (100)))) (some (38, false)), EOper.mk (some 42) (EOp.pick (Opd.t 38) (Opd.c (V.bool true)) (Opd.t 41)) none])
  (EC.cond (Opd.t 42) (EC.seq (EC.ops false [EOper.mk (some 14) (EOp.mv (Opd.c (V.bool true))) none]) EC.ret) EC.skip)
def m6_3 : List Bool := [false, false, false, false, false, false, false, false, false, false, false, false, false, false, true, false, false, false, false, false, false, false, false, false, false, false, false, false, false, false, false, false, false, false, false, false, true, true, true, true, true, true, true, false, false, false, false, false, false, false, false, false, false, false, false, false, false, false, false, false, false, false, false, false, false, false, false, false, false, false, false, false, false, false, false, false, false, false, false, false, false, false, false, false, false, false, false, false, false, false, false, false, false, false, false, false, false, false, false, false, false, false, false, false, false, false, false, false, false, false, false, false, false, false, false, false, false, false, false, false, false, false, false, false, false, false, false, false, false, false, false, false, false, false, false, false, false, false, false, false, false, false, false, false, false, false, false, false, false, false, false, false, false, false, false, false, false, false, false, false, false, false, false, false, false, false, false, false, false, false, false, false, false, false, false, false, false, false, false, false, false, false, false, false, false, false, false, false, false, false, false, false, false, false, false, false, false, false, false, false, false, false, false, false, false, false, false, false, false, false, false, false, false, false, false, false, false, false, false, false, false, false, false, false, false, false, false, false, false, false, false, false, false, false, false, false]
def b6_4 : EC := EC.seq (EC.ops false [EOper.mk (some 17) (EOp.mv (Opd.c (V.int .i64 (0)))) none]) (EC.block 0 (EC.loop l6_0))
def m6_4 : List Bool := [false, false, false, false, false, false, false, false, false, false, false, false, false, false, false, false, false, true, false, false, false, false, false, false, false, false, false, false, false, false, false, false, false, false, false, false, false, false, false, false, false, false, false, true, true, true, true, true, true, true, true, true, true, true, true, true, true, true, true, true, true, true, true, true, true, true, false, false, false, false, false, false, false, false, false, false, false, false, false, false, false, false, false, false, false, false, false, false, false, false, false, false, false, false, false, false, false, false, false, false, false, false, false, false, false, false, false, false, false, false, false, false, false, false, false, false, false, false, false, false, false, false, false, false, false, false, false, false, false, false, false, false, false, false, false, false, false, false, false, false, false, false, false, false, false, false, false, false, false, false, false, false, false, false, false, false, false, false, false, false, false, false, false, false, false, false, false, false, false, false, false, false, false, false, false, false, false, false, false, false, false, false, false, false, false, false, false, false, false, false, false, false, false, false, false, false, false, false, false, false, false, false, false, false, false, false, false, false, false, false, false, false, false, false, false, false, false, false, false, false, false, false, false, false, false, false, false, false, false, false, false, false, false, false, false, false]
def b6_5 : EC := EC.ops false [EOper.mk (some 66) (EOp.mv (Opd.t 15)) none, EOper.mk (some 67) (EOp.call (Opd.f 18) [Opd.t 66]) none, EOper.mk (some 18) (EOp.mv (Opd.t
  67)) none]
def m6_5 : List Bool := [false, false, false, false, false, false, false, false, false, false, false, false, false, false, false, false, false, false, true, false, false, false, false, false, false, false, false, false, false, false, false, false, false, false, false, false, false, false, false, false, false, false, false, false, false, false, false, false, false, false, false, false, false, false, false, false, false, false, false, false, false, false, false, false, false, false, true, true, false, false, false, false, false, false, false, false, false, false, false, false, false, false, false, false, false, false, false, false, false, false, false, false, false, false, false, false, false, false, false, false, false, false, false, false, false, false, false, false, false, false, false, false, false, false, false, false, false, false, false, false, false, false, false, false, false, false, false, false, false, false, false, false, false, false, false, false, false, false, false, false, false, false, false, false, false, false, false, false, false, false, false, false, false, false, false, false, false, false, false, false, false, false, false, false, false, false, false, false, false, false, false, false, false, false, false, false, false, false, false, false, false, false, false, false, false, false, false, false, false, false, false, false, false, false, false, false, false, false, false, false, false, false, false, false, false, false, false, false, false, false, false, false, false, false, false, false, false, false, false, false, false, false, false, false, false, false, false, false, false, false, false, false, false, false, false, false]
def b6_6 : EC := EC.seq (EC.ops false [EOper.mk (some 68) (EOp.mv (Opd.t 15)) none, EOper.mk (some 69) (EOp.mv (Opd.t 2)) none, EOper.mk (some 70) (EOp.mv (Opd.t 3)) none,
  EOper.mk (some 71) (EOp.mv (Opd.t 4)) none, EOper.mk (some 72) (EOp.call (Opd.f 9) [Opd.t 68, Opd.t 69, Opd.t 70, Opd.t 71]) none, EOper.mk (some 73) (EOp.un .not (Opd.t
  72)) none]) (EC.cond (Opd.t 73) (EC.seq (EC.ops false [EOper.mk (some 74) (EOp.mv (Opd.t 3)) none, EOper.mk (some 75) (EOp.call (Opd.f 21) [Opd.t 74]) none, EOper.mk
  (some 76) (EOp.un .not (Opd.t 75)) none, EOper.mk (some 77) (EOp.mv (Opd.t 76)) none, EOper.mk (some 78) (EOp.mv (Opd.t 2)) (some (77, false)), EOper.mk (some 79)
  (EOp.bin .lss (Opd.t 78) (Opd.c (V.int .i64 (0)))) (some (77, false)), EOper.mk (some 80) (EOp.pick (Opd.t 77) (Opd.c (V.bool true)) (Opd.t 79)) none, EOper.mk (some 81)
  (EOp.mv (Opd.t 80)) none, EOper.mk (some 82) (EOp.mv (Opd.t 2)) (some (81, false)), EOper.mk (some 83) (EOp.mv (Opd.t 0)) (some (81, false)), EOper.mk (some 84) (EOp.bin
  .geq (Opd.t 82) (Opd.t 83)) (some (81, false)), EOper.mk (some 85) (EOp.pick (Opd.t 81) (Opd.c (V.bool true)) (Opd.t 84)) none, EOper.mk (some 86) (EOp.mv (Opd.t 85))
  none, EOper.mk (some 87) (EOp.mv (Opd.t 2)) (some (86, false)), EOper.mk (some 88) (EOp.mv (Opd.t 3)) (some (86, false)), EOper.mk (some 89) (EOp.bin .rem (Opd.t 87)
  (Opd.t 88)) (some (86, false)), EOper.mk (some 90) (EOp.bin .neq (Opd.t 89) (Opd.c (V.int .i64 (0)))) (some (86, false)), EOper.mk (some 91) (EOp.pick (Opd.t 86) (Opd.c
  (V.bool true)) (Opd.t 90)) none, EOper.mk (some 14) (EOp.mv (Opd.t 91)) none]) EC.ret) EC.skip)
def m6_6 : List Bool := [false, false, false, false, false, false, false, false, false, false, false, false, false, false, true, false, false, false, false, false, false, false, false, false, false, false, false, false, false, false, false, false, false, false, false, false, false, false, false, false, false, false, false, false, false, false, false, false, false, false, false, false, false, false, false, false, false, false, false, false, false, false, false, false, false, false, false, false, true, true, true, true, true, true, true, true, true, true, true, true, true, true, true, true, true, true, true, true, true, true, true, true, false, false, false, false, false, false, false, false, false, false, false, false, false, false, false, false, false, false, false, false, false, false, false, false, false, false, false, false, false, false, false, false, false, false, false, false, false, false, false, false, false, false, false, false, false, false, false, false, false, false, false, false, false, false, false, false, false, false, false, false, false, false, false, false, false, false, false, false, false, false, false, false, false, false, false, false, false, false, false, false, false, false, false, false, false, false, false, false, false, false, false, false, false, false, false, false, false, false, false, false, false, false, false, false, false, false, false, false, false, false, false, false, false, false, false, false, false, false, false, false, false, false, false, false, false, false, false, false, false, false, false, false, false, false, false, false, false, false, false, false, false, false, false, false]
def b6_7 : EC := EC.ops false [EOper.mk (some 92) (EOp.mv (Opd.t 15)) none, EOper.mk (some 93) (EOp.call (Opd.f 18) [Opd.t 92]) none, EOper.mk (some 19) (EOp.mv (Opd.t
  93)) none]
def m6_7 : List Bool := [false, false, false, false, false, false, false, false, false, false, false, false, false, false, false, false, false, false, false, true, false, false, false, false, false, false, false, false, false, false, false, false, false, false, false, false, false, false, false, false, false, false, false, false, false, false, false, false, false, false, false, false, false, false, false, false, false, false, false, false, false, false, false, false, false, false, false, false, false, false, false, false, false, false, false, false, false, false, false, false, false, false, false, false, false, false, false, false, false, false, false, false, true, true, false, false, false, false, false, false, false, false, false, false, false, false, false, false, false, false, false, false, false, false, false, false, false, false, false, false, false, false, false, false, false, false, false, false, false, false, false, false, false, false, false, false, false, false, false, false, false, false, false, false, false, false, false, false, false, false, false, false, false, false, false, false, false, false, false, false, false, false, false, false, false, false, false, false, false, false, false, false, false, false, false, false, false, false, false, false, false, false, false, false, false, false, false, false, false, false, false, false, false, false, false, false, false, false, false, false, false, false, false, false, false, false, false, false, false, false, false, false, false, false, false, false, false, false, false, false, false, false, false, false, false, false, false, false, false, false, false, false, false, false, false, false]
def b6_8 : EC := EC.ops false [EOper.mk (some 94) (EOp.mv (Opd.t 4)) none, EOper.mk (some 95) (EOp.mv (Opd.t 3)) none, EOper.mk (some 96) (EOp.call (Opd.f 22) [Opd.t 94,
  Opd.t 95]) none, EOper.mk (some 20) (EOp.mv (Opd.t 96)) none]
def m6_8 : List Bool := [false, false, false, false, false, false, false, false, false, false, false, false, false, false, false, false, false, false, false, false, true, false, false, false, false, false, false, false, false, false, false, false, false, false, false, false, false, false, false, false, false, false, false, false, false, false, false, false, false, false, false, false, false, false, false, false, false, false, false, false, false, false, false, false, false, false, false, false, false, false, false, false, false, false, false, false, false, false, false, false, false, false, false, false, false, false, false, false, false, false, false, false, false, false, true, true, true, false, false, false, false, false, false, false, false, false, false, false, false, false, false, false, false, false, false, false, false, false, false, false, false, false, false, false, false, false, false, false, false, false, false, false, false, false, false, false, false, false, false, false, false, false, false, false, false, false, false, false, false, false, false, false, false, false, false, false, false, false, false, false, false, false, false, false, false, false, false, false, false, false, false, false, false, false, false, false, false, false, false, false, false, false, false, false, false, false, false, false, false, false, false, false, false, false, false, false, false, false, false, false, false, false, false, false, false, false, false, false, false, false, false, false, false, false, false, false, false, false, false, false, false, false, false, false, false, false, false, false, false, false, false, false, false, false, false, false]
def b6_9 : EC := EC.seq (EC.ops false [EOper.mk (some 97) (EOp.mv (Opd.t 19)) none, EOper.mk (some 98) (EOp.len false (Opd.t 97)) none, EOper.mk (some 99) (EOp.mv (Opd.t
  0)) none, EOper.mk (some 100) (EOp.bin .neq (Opd.t 98) (Opd.t 99)) none, EOper.mk (some 101) (EOp.mv (Opd.t 100)) none, EOper.mk (some 102) (EOp.mv (Opd.t 18)) (some
  (101, false)), EOper.mk (some 103) (EOp.len false (Opd.t 102)) (some (101, false)), EOper.mk (some 104) (EOp.mv (Opd.t 0)) (some (101, false)), EOper.mk (some 105)
  (EOp.bin .neq (Opd.t 103) (Opd.t 104)) (some (101, false)), EOper.mk (some 106) (EOp.pick (Opd.t 101) (Opd.c (V.bool true)) (Opd.t 105)) none, EOper.mk (some 107)
  (EOp.mv (Opd.t 106)) none, EOper.mk (some 108) (EOp.mv (Opd.t 20)) (some (107, false)), EOper.mk (some 109) (EOp.len false (Opd.t 108)) (some (107, false)), EOper.mk
  (some 110) (EOp.mv (Opd.t 3)) (some (107, false)), EOper.mk (some 111) (EOp.bin .neq (Opd.t 109) (Opd.t 110)) (some (107, false)), EOper.mk (some 112) (EOp.pick (Opd.t
  107) (Opd.c (V.bool true)) (Opd.t 111)) none, EOper.mk (some 113) (EOp.mv (Opd.t 112)) none, EOper.mk (some 114) (EOp.mv (Opd.t 2)) (some (113, false)), EOper.mk (some
  115) (EOp.bin .lss (Opd.t 114) (Opd.c (V.int .i64 (0)))) (some (113, false)), EOper.mk (some 116) (EOp.pick (Opd.t 113) (Opd.c (V.bool true)) (Opd.t 115)) none, EOper.mk
  (some 117) (EOp.mv (Opd.t 116)) none, EOper.mk (some 118) (EOp.mv (Opd.t 2)) (some (117, false)), EOper.mk (some 119) (EOp.mv (Opd.t 0)) (some (117, false)), EOper.mk
  (some 120) (EOp.mv (Opd.t 3)) (some (117, false)), EOper.mk (some 121) (EOp.bin .sub (Opd.t 119) (Opd.t 120)) (some (117, false)), EOper.mk (some 122) (EOp.bin .gtr
  (Opd.t 118) (Opd.t 121)) (some (117, false)), EOper.mk (some 123) (EOp.pick (Opd.t 117) (Opd.c (V.bool true)) (Opd.t 122)) none]) (EC.cond (Opd.t 123) (EC.seq (EC.ops
  false [EOper.mk (some 14) (EOp.mv (Opd.c (V.bool false))) none]) EC.ret) EC.skip)
def m6_9 : List Bool := [false, false, false, false, false, false, false, false, false, false, false, false, false, false, true, false, false, false, false, false, false, false, false, false, false, false, false, false, false, false, false, false, false, false, false, false, false, false, false, false, false, false, false, false, false, false, false, false, false, false, false, false, false, false, false, false, false, false, false, false, false, false, false, false, false, false, false, false, false, false, false, false, false, false, false, false, false, false, false, false, false, false, false, false, false, false, false, false, false, false, false, false, false, false, false, false, false, true, true, true, true, true, true, true, true, true, true, true, true, true, true, true, true, true, true, true, true, true, true, true, true, true, true, true, false, false, false, false, false, false, false, false, false, false, false, false, false, false, false, false, false, false, false, false, false, false, false, false, false, false, false, false, false, false, false, false, false, false, false, false, false, false, false, false, false, false, false, false, false, false, false, false, false, false, false, false, false, false, false, false, false, false, false, false, false, false, false, false, false, false, false, false, false, false, false, false, false, false, false, false, false, false, false, false, false, false, false, false, false, false, false, false, false, false, false, false, false, false, false, false, false, false, false, false, false, false, false, false, false, false, false, false, false, false, false, false]
def b6_10 : EC := EC.seq (EC.ops false [EOper.mk (some 21) (EOp.mv (Opd.c (V.int .i64 (0)))) none]) (EC.block 2 (EC.loop l6_1))
def m6_10 : List Bool := [false, false, false, false, false, false, false, false, false, false, false, false, false, false, true, false, false, false, false, false, false, true, true, false, false, false, false, false, false, false, false, false, false, false, false, false, false, false, false, false, false, false, false, false, false, false, false, false, false, false, false, false, false, false, false, false, false, false, false, false, false, false, false, false, false, false, false, false, false, false, false, false, false, false, false, false, false, false, false, false, false, false, false, false, false, false, false, false, false, false, false, false, false, false, false, false, false, false, false, false, false, false, false, false, false, false, false, false, false, false, false, false, false, false, false, false, false, false, false, false, false, false, false, false, true, true, true, true, true, true, true, true, true, true, true, true, true, true, true, true, true, true, true, true, true, true, true, true, true, true, true, true, true, true, true, true, true, true, true, true, true, true, true, true, true, true, true, true, false, false, false, false, false, false, false, false, false, false, false, false, false, false, false, false, false, false, false, false, false, false, false, false, false, false, false, false, false, false, false, false, false, false, false, false, false, false, false, false, false, false, false, false, false, false, false, false, false, false, false, false, false, false, false, false, false, false, false, false, false, false, false, false, false, false, false, false]
def b6_11 : EC := EC.ops false [EOper.mk (some 169) (EOp.mv (Opd.t 15)) none, EOper.mk (some 170) (EOp.mv (Opd.t 5)) none, EOper.mk (some 171) (EOp.mv (Opd.t 6)) none,
  EOper.mk (some 172) (EOp.call (Opd.f 10) [Opd.t 169, Opd.t 170, Opd.t 171]) none, EOper.mk (some 168) (EOp.mv (Opd.t 172)) none, EOper.mk (some 173) (EOp.ext (Opd.t 168)
  0) none, EOper.mk (some 174) (EOp.ext (Opd.t 168) 1) none, EOper.mk (some 23) (EOp.mv (Opd.t 173)) none, EOper.mk (some 24) (EOp.mv (Opd.t 174)) none]
def m6_11 : List Bool := [false, false, false, false, false, false, false, false, false, false, false, false, false, false, false, false, false, false, false, false, false, false, false, true, true, false, false, false, false, false, false, false, false, false, false, false, false, false, false, false, false, false, false, false, false, false, false, false, false, false, false, false, false, false, false, false, false, false, false, false, false, false, false, false, false, false, false, false, false, false, false, false, false, false, false, false, false, false, false, false, false, false, false, false, false, false, false, false, false, false, false, false, false, false, false, false, false, false, false, false, false, false, false, false, false, false, false, false, false, false, false, false, false, false, false, false, false, false, false, false, false, false, false, false, false, false, false, false, false, false, false, false, false, false, false, false, false, false, false, false, false, false, false, false, false, false, false, false, false, false, false, false, false, false, false, false, false, false, false, false, false, false, false, false, false, false, false, false, true, true, true, true, true, true, true, false, false, false, false, false, false, false, false, false, false, false, false, false, false, false, false, false, false, false, false, false, false, false, false, false, false, false, false, false, false, false, false, false, false, false, false, false, false, false, false, false, false, false, false, false, false, false, false, false, false, false, false, false, false, false, false, false, false, false, false, false]
def b6_12 : EC := EC.seq (EC.ops false [EOper.mk (some 175) (EOp.mv (Opd.t 24)) none, EOper.mk (some 176) (EOp.mv (Opd.t 175)) none, EOper.mk (some 177) (EOp.mv (Opd.t 5))
  (some (176, true)), EOper.mk (some 178) (EOp.bin .lss (Opd.t 177) (Opd.c (V.int .i64 (0)))) (some (176, true)), EOper.mk (some 179) (EOp.mv (Opd.t 178)) (some (176,
  true)), EOper.mk (some 180) (EOp.mv (Opd.t 6)) (some (179, false)), EOper.mk (some 181) (EOp.bin .lss (Opd.t 180) (Opd.c (V.int .i64 (1)))) (some (179, false)), EOper.mk
  (some 182) (EOp.pick (Opd.t 179) (Opd.c (V.bool true)) (Opd.t 181)) (some (176, true)), EOper.mk (some 183) (EOp.mv (Opd.t 182)) (some (176, true)), EOper.mk (some 184)
  (EOp.mv (Opd.t 6)) (some (183, false)), EOper.mk (some 185) (EOp.mv (Opd.t 0)) (some (183, false)), EOper.mk (some 186) (EOp.bin .gtr (Opd.t 184) (Opd.t 185)) (some
  (183, false)), EOper.mk (some 187) (EOp.pick (Opd.t 183) (Opd.c (V.bool true)) (Opd.t 186)) (some (176, true)), EOper.mk (some 188) (EOp.mv (Opd.t 187)) (some (176,
  true)), EOper.mk (some 189) (EOp.mv (Opd.t 5)) (some (188, false)), EOper.mk (some 190) (EOp.mv (Opd.t 0)) (some (188, false)), EOper.mk (some 191) (EOp.mv (Opd.t 6))
  (some (188, false)), EOper.mk (some 192) (EOp.bin .sub (Opd.t 190) (Opd.t 191)) (some (188, false)), EOper.mk (some 193) (EOp.bin .gtr (Opd.t 189) (Opd.t 192)) (some
  (188, false)), EOper.mk (some 194) (EOp.pick (Opd.t 188) (Opd.c (V.bool true)) (Opd.t 193)) (some (176, true)), EOper.mk (some 195) (EOp.pick (Opd.t 176) (Opd.t 194)
  (Opd.c (V.bool false))) none]) (EC.cond (Opd.t 195) (EC.seq (EC.ops false [EOper.mk (some 14) (EOp.mv (Opd.c (V.bool false))) none]) EC.ret) EC.skip)
def m6_12 : List Bool := [false, false, false, false, false, false, false, false, false, false, false, false, false, false, true, false, false, false, false, false, false, false, false, false, false, false, false, false, false, false, false, false, false, false, false, false, false, false, false, false, false, false, false, false, false, false, false, false, false, false, false, false, false, false, false, false, false, false, false, false, false, false, false, false, false, false, false, false, false, false, false, false, false, false, false, false, false, false, false, false, false, false, false, false, false, false, false, false, false, false, false, false, false, false, false, false, false, false, false, false, false, false, false, false, false, false, false, false, false, false, false, false, false, false, false, false, false, false, false, false, false, false, false, false, false, false, false, false, false, false, false, false, false, false, false, false, false, false, false, false, false, false, false, false, false, false, false, false, false, false, false, false, false, false, false, false, false, false, false, false, false, false, false, false, false, false, false, false, false, false, false, false, false, false, false, true, true, true, true, true, true, true, true, true, true, true, true, true, true, true, true, true, true, true, true, true, false, false, false, false, false, false, false, false, false, false, false, false, false, false, false, false, false, false, false, false, false, false, false, false, false, false, false, false, false, false, false, false, false, false, false, false, false, false, false, false]
def b6_13 : EC := EC.seq (EC.ops false [EOper.mk (some 196) (EOp.mv (Opd.t 24)) none]) (EC.cond (Opd.t 196) (EC.seq (EC.ops false [EOper.mk (some 198) (EOp.mv (Opd.t 19))
  none, EOper.mk (some 199) (EOp.mv (Opd.t 5)) none, EOper.mk (some 200) (EOp.mv (Opd.t 5)) none, EOper.mk (some 201) (EOp.mv (Opd.t 6)) none, EOper.mk (some 202) (EOp.bin
  .add (Opd.t 200) (Opd.t 201)) none, EOper.mk (some 203) (EOp.slc 1 (Opd.t 198) (some (Opd.t 199)) (some (Opd.t 202))) none, EOper.mk (some 204) (EOp.call (Opd.f 23)
  [Opd.t 203]) none, EOper.mk (some 197) (EOp.mv (Opd.t 204)) none, EOper.mk (some 205) (EOp.ext (Opd.t 197) 0) none, EOper.mk (some 206) (EOp.ext (Opd.t 197) 1) none,
  EOper.mk (some 25) (EOp.mv (Opd.t 205)) none, EOper.mk (some 26) (EOp.mv (Opd.t 206)) none]) (EC.seq (EC.ops false [EOper.mk (some 207) (EOp.mv (Opd.t 26)) none,
  EOper.mk (some 208) (EOp.un .not (Opd.t 207)) none, EOper.mk (some 209) (EOp.mv (Opd.t 208)) none, EOper.mk (some 210) (EOp.mv (Opd.t 25)) (some (209, false)), EOper.mk
  (some 211) (EOp.mv (Opd.t 23)) (some (209, false)), EOper.mk (some 212) (EOp.bin .neq (Opd.t 210) (Opd.t 211)) (some (209, false)), EOper.mk (some 213) (EOp.pick (Opd.t
  209) (Opd.c (V.bool true)) (Opd.t 212)) none]) (EC.cond (Opd.t 213) (EC.seq (EC.ops false [EOper.mk (some 14) (EOp.mv (Opd.c (V.bool false))) none]) EC.ret) EC.skip)))
  EC.skip)
def m6_13 : List Bool := [false, false, false, false, false, false, false, false, false, false, false, false, false, false, true, false, false, false, false, false, false, false, false, false, false, true, true, false, false, false, false, false, false, false, false, false, false, false, false, false, false, false, false, false, false, false, false, false, false, false, false, false, false, false, false, false, false, false, false, false, false, false, false, false, false, false, false, false, false, false, false, false, false, false, false, false, false, false, false, false, false, false, false, false, false, false, false, false, false, false, false, false, false, false, false, false, false, false, false, false, false, false, false, false, false, false, false, false, false, false, false, false, false, false, false, false, false, false, false, false, false, false, false, false, false, false, false, false, false, false, false, false, false, false, false, false, false, false, false, false, false, false, false, false, false, false, false, false, false, false, false, false, false, false, false, false, false, false, false, false, false, false, false, false, false, false, false, false, false, false, false, false, false, false, false, false, false, false, false, false, false, false, false, false, false, false, false, false, false, false, false, false, false, false, false, false, true, true, true, true, true, true, true, true, true, true, true, true, true, true, true, true, true, true, false, false, false, false, false, false, false, false, false, false, false, false, false, false, false, false, false, false, false, false, false, false]
def b6_14 : EC := EC.ops false [EOper.mk (some 214) (EOp.mv (Opd.t 15)) none, EOper.mk (some 215) (EOp.call (Opd.f 16) [Opd.t 214]) none]
def m6_14 : List Bool := [false, false, false, false, false, false, false, false, false, false, false, false, false, false, false, false, false, false, false, false, false, false, false, false, false, false, false, false, false, false, false, false, false, false, false, false, false, false, false, false, false, false, false, false, false, false, false, false, false, false, false, false, false, false, false, false, false, false, false, false, false, false, false, false, false, false, false, false, false, false, false, false, false, false, false, false, false, false, false, false, false, false, false, false, false, false, false, false, false, false, false, false, false, false, false, false, false, false, false, false, false, false, false, false, false, false, false, false, false, false, false, false, false, false, false, false, false, false, false, false, false, false, false, false, false, false, false, false, false, false, false, false, false, false, false, false, false, false, false, false, false, false, false, false, false, false, false, false, false, false, false, false, false, false, false, false, false, false, false, false, false, false, false, false, false, false, false, false, false, false, false, false, false, false, false, false, false, false, false, false, false, false, false, false, false, false, false, false, false, false, false, false, false, false, false, false, false, false, false, false, false, false, false, false, false, false, false, false, false, false, false, false, false, false, true, true, false, false, false, false, false, false, false, false, false, false, false, false, false, false, false, false, false, false, false, false]
def b6_15 : EC := EC.ops false [EOper.mk (some 217) (EOp.mv (Opd.t 15)) none, EOper.mk (some 218) (EOp.mv (Opd.t 5)) none, EOper.mk (some 219) (EOp.mv (Opd.t 6)) none,
  EOper.mk (some 220) (EOp.call (Opd.f 10) [Opd.t 217, Opd.t 218, Opd.t 219]) none, EOper.mk (some 216) (EOp.mv (Opd.t 220)) none, EOper.mk (some 221) (EOp.ext (Opd.t 216)
  0) none, EOper.mk (some 222) (EOp.ext (Opd.t 216) 1) none, EOper.mk (some 27) (EOp.mv (Opd.t 221)) none, EOper.mk (some 28) (EOp.mv (Opd.t 222)) none]
def m6_15 : List Bool := [false, false, false, false, false, false, false, false, false, false, false, false, false, false, false, false, false, false, false, false, false, false, false, false, false, false, false, true, true, false, false, false, false, false, false, false, false, false, false, false, false, false, false, false, false, false, false, false, false, false, false, false, false, false, false, false, false, false, false, false, false, false, false, false, false, false, false, false, false, false, false, false, false, false, false, false, false, false, false, false, false, false, false, false, false, false, false, false, false, false, false, false, false, false, false, false, false, false, false, false, false, false, false, false, false, false, false, false, false, false, false, false, false, false, false, false, false, false, false, false, false, false, false, false, false, false, false, false, false, false, false, false, false, false, false, false, false, false, false, false, false, false, false, false, false, false, false, false, false, false, false, false, false, false, false, false, false, false, false, false, false, false, false, false, false, false, false, false, false, false, false, false, false, false, false, false, false, false, false, false, false, false, false, false, false, false, false, false, false, false, false, false, false, false, false, false, false, false, false, false, false, false, false, false, false, false, false, false, false, false, false, false, false, false, false, false, true, true, true, true, true, true, true, false, false, false, false, false, false, false, false, false, false, false, false, false]
def b6_16 : EC := EC.ops false [EOper.mk (some 223) (EOp.mv (Opd.t 27)) none, EOper.mk (some 224) (EOp.bin .eql (Opd.t 223) (Opd.c (V.int .u32 (0)))) none, EOper.mk (some
  225) (EOp.mv (Opd.t 224)) none, EOper.mk (some 226) (EOp.mv (Opd.t 28)) (some (225, true)), EOper.mk (some 227) (EOp.mv (Opd.t 24)) (some (225, true)), EOper.mk (some
  228) (EOp.eqb false (Opd.t 226) (Opd.t 227)) (some (225, true)), EOper.mk (some 229) (EOp.pick (Opd.t 225) (Opd.t 228) (Opd.c (V.bool false))) none, EOper.mk (some 230)
  (EOp.mv (Opd.t 229)) none, EOper.mk (some 231) (EOp.mv (Opd.t 15)) (some (230, true)), EOper.mk (some 232) (EOp.call (Opd.f 12) [Opd.t 231]) (some (230, true)), EOper.mk
  (some 233) (EOp.mv (Opd.t 0)) (some (230, true)), EOper.mk (some 234) (EOp.bin .eql (Opd.t 232) (Opd.t 233)) (some (230, true)), EOper.mk (some 235) (EOp.pick (Opd.t
  230) (Opd.t 234) (Opd.c (V.bool false))) none, EOper.mk (some 14) (EOp.mv (Opd.t 235)) none]
def m6_16 : List Bool := [false, false, false, false, false, false, false, false, false, false, false, false, false, false, true, false, false, false, false, false, false, false, false, false, false, false, false, false, false, false, false, false, false, false, false, false, false, false, false, false, false, false, false, false, false, false, false, false, false, false, false, false, false, false, false, false, false, false, false, false, false, false, false, false, false, false, false, false, false, false, false, false, false, false, false, false, false, false, false, false, false, false, false, false, false, false, false, false, false, false, false, false, false, false, false, false, false, false, false, false, false, false, false, false, false, false, false, false, false, false, false, false, false, false, false, false, false, false, false, false, false, false, false, false, false, false, false, false, false, false, false, false, false, false, false, false, false, false, false, false, false, false, false, false, false, false, false, false, false, false, false, false, false, false, false, false, false, false, false, false, false, false, false, false, false, false, false, false, false, false, false, false, false, false, false, false, false, false, false, false, false, false, false, false, false, false, false, false, false, false, false, false, false, false, false, false, false, false, false, false, false, false, false, false, false, false, false, false, false, false, false, false, false, false, false, false, false, false, false, false, false, false, false, true, true, true, true, true, true, true, true, true, true, true, true, true]
def b6_17 : EC := EC.ret
def m6_17 : List Bool := [false, false, false, false, false, false, false, false, false, false, false, false, false, false, false, false, false, false, false, false, false, false, false, false, false, false, false, false, false, false, false, false, false, false, false, false, false, false, false, false, false, false, false, false, false, false, false, false, false, false, false, false, false, false, false, false, false, false, false, false, false, false, false, false, false, false, false, false, false, false, false, false, false, false, false, false, false, false, false, false, false, false, false, false, false, false, false, false, false, false, false, false, false, false, false, false, false, false, false, false, false, false, false, false, false, false, false, false, false, false, false, false, false, false, false, false, false, false, false, false, false, false, false, false, false, false, false, false, false, false, false, false, false, false, false, false, false, false, false, false, false, false, false, false, false, false, false, false, false, false, false, false, false, false, false, false, false, false, false, false, false, false, false, false, false, false, false, false, false, false, false, false, false, false, false, false, false, false, false, false, false, false, false, false, false, false, false, false, false, false, false, false, false, false, false, false, false, false, false, false, false, false, false, false, false, false, false, false, false, false, false, false, false, false, false, false, false, false, false, false, false, false, false, false, false, false, false, false, false, false, false, false, false, false, false, false]
def r6_17 : EC := b6_17
def r6_16 : EC := EC.seq b6_16 r6_17
def r6_15 : EC := EC.seq b6_15 r6_16
def r6_14 : EC := EC.seq b6_14 r6_15
def r6_13 : EC := EC.seq b6_13 r6_14
def r6_12 : EC := EC.seq b6_12 r6_13
def r6_11 : EC := EC.seq b6_11 r6_12
def r6_10 : EC := EC.seq b6_10 r6_11
def r6_9 : EC := EC.seq b6_9 r6_10
def r6_8 : EC := EC.seq b6_8 r6_9
def r6_7 : EC := EC.seq b6_7 r6_8
def r6_6 : EC := EC.seq b6_6 r6_7
def r6_5 : EC := EC.seq b6_5 r6_6
def r6_4 : EC := EC.seq b6_4 r6_5
def r6_3 : EC := EC.seq b6_3 r6_4
def r6_2 : EC := EC.seq b6_2 r6_3
def r6_1 : EC := EC.seq b6_1 r6_2
def r6_0 : EC := EC.seq b6_0 r6_1
def e6 : EFun := EFun.mk 236 [ERes.t 14] r6_0
theorem c6 : cFun Tryd.prog 2 (fun _ => false) Tryd.f6 = some e6 := by kernel_rfl
theorem x6 : Tryd.prog.funcs[6]? = some Tryd.f6 := by kernel_rfl
theorem n6 : (Tryd.f6.name == "runtime.NumGoroutine") = false := by kernel_rfl
/-! 7: septumlaw09.awake -/
def b7_0 : EC := EC.ops false [EOper.mk (some 0) (EOp.mv (Opd.c (V.bool false))) none]
def m7_0 : List Bool := [true, false, false, false, false, false, false, false, false, false, false, false, false, false, false, false, false, false, false, false, false, false, false, false, false, false, false, false, false, false, false, false, false, false, false, false, false, false, false, false, false, false, false, false, false, false, false, false, false, false, false]
def b7_1 : EC := EC.ops false [EOper.mk (some 11) (EOp.call (Opd.f 8) [Opd.c (V.int .i64 (8))]) none, EOper.mk (some 10) (EOp.mv (Opd.t 11)) none, EOper.mk (some 12)
  (EOp.ext (Opd.t 10) 0) none, EOper.mk (some 13) (EOp.ext (Opd.t 10) 1) none, EOper.mk (some 1) (EOp.mv (Opd.t 12)) none, EOper.mk (some 2) (EOp.mv (Opd.t 13)) none]
def m7_1 : List Bool := [false, true, true, false, false, false, false, false, false, false, true, true, true, true, false, false, false, false, false, false, false, false, false, false, false, false, false, false, false, false, false, false, false, false, false, false, false, false, false, false, false, false, false, false, false, false, false, false, false, false, false]
def b7_2 : EC := EC.ops false [EOper.mk (some 14) (EOp.mv (Opd.t 1)) none, EOper.mk (some 15) (EOp.call (Opd.f 9) [Opd.t 14, Opd.c (V.int .i64 (2)), Opd.c (V.int .i64
  (2)), Opd.c (V.int .u32 (4660))]) none, EOper.mk (some 3) (EOp.mv (Opd.t 15)) none]
def m7_2 : List Bool := [false, false, false, true, false, false, false, false, false, false, false, false, false, false, true, true, false, false, false, false, false, false, false, false, false, false, false, false, false, false, false, false, false, false, false, false, false, false, false, false, false, false, false, false, false, false, false, false, false, false, false]
def b7_3 : EC := EC.ops false [EOper.mk (some 17) (EOp.mv (Opd.t 1)) none, EOper.mk (some 18) (EOp.call (Opd.f 10) [Opd.t 17, Opd.c (V.int .i64 (0)), Opd.c (V.int .i64
  (4))]) none, EOper.mk (some 16) (EOp.mv (Opd.t 18)) none, EOper.mk (some 19) (EOp.ext (Opd.t 16) 0) none, EOper.mk (some 20) (EOp.ext (Opd.t 16) 1) none, EOper.mk (some
  4) (EOp.mv (Opd.t 19)) none, EOper.mk (some 5) (EOp.mv (Opd.t 20)) none]
def m7_3 : List Bool := [false, false, false, false, true, true, false, false, false, false, false, false, false, false, false, false, true, true, true, true, true, false, false, false, false, false, false, false, false, false, false, false, false, false, false, false, false, false, false, false, false, false, false, false, false, false, false, false, false, false, false]
def b7_4 : EC := EC.ops false [EOper.mk (some 22) (EOp.mv (Opd.t 1)) none, EOper.mk (some 23) (EOp.call (Opd.f 10) [Opd.t 22, Opd.c (V.int .i64 (2)), Opd.c (V.int .i64
  (4))]) none, EOper.mk (some 21) (EOp.mv (Opd.t 23)) none, EOper.mk (some 24) (EOp.ext (Opd.t 21) 0) none, EOper.mk (some 25) (EOp.ext (Opd.t 21) 1) none, EOper.mk (some
  6) (EOp.mv (Opd.t 24)) none, EOper.mk (some 7) (EOp.mv (Opd.t 25)) none]
def m7_4 : List Bool := [false, false, false, false, false, false, true, true, false, false, false, false, false, false, false, false, false, false, false, false, false, true, true, true, true, true, false, false, false, false, false, false, false, false, false, false, false, false, false, false, false, false, false, false, false, false, false, false, false, false, false]
def b7_5 : EC := EC.ops false [EOper.mk (some 27) (EOp.mv (Opd.t 1)) none, EOper.mk (some 28) (EOp.call (Opd.f 10) [Opd.t 27, Opd.c (V.int .i64 (8)), Opd.c (V.int .i64
  (4))]) none, EOper.mk (some 26) (EOp.mv (Opd.t 28)) none, EOper.mk (some 29) (EOp.ext (Opd.t 26) 0) none, EOper.mk (some 30) (EOp.ext (Opd.t 26) 1) none, EOper.mk (some
  8) (EOp.mv (Opd.t 29)) none, EOper.mk (some 9) (EOp.mv (Opd.t 30)) none]
def m7_5 : List Bool := [false, false, false, false, false, false, false, false, true, true, false, false, false, false, false, false, false, false, false, false, false, false, false, false, false, false, true, true, true, true, true, false, false, false, false, false, false, false, false, false, false, false, false, false, false, false, false, false, false, false, false]
def b7_6 : EC := EC.ops false [EOper.mk (some 31) (EOp.mv (Opd.t 2)) none, EOper.mk (some 32) (EOp.bin .eql (Opd.t 31) (Opd.c (V.int .i64 (0)))) none, EOper.mk (some 33)
  (EOp.mv (Opd.t 32)) none, EOper.mk (some 34) (EOp.mv (Opd.t 3)) (some (33, true)), EOper.mk (some 35) (EOp.pick (Opd.t 33) (Opd.t 34) (Opd.c (V.bool false))) none,
  EOper.mk (some 36) (EOp.mv (Opd.t 35)) none, EOper.mk (some 37) (EOp.mv (Opd.t 5)) (some (36, true)), EOper.mk (some 38) (EOp.pick (Opd.t 36) (Opd.t 37) (Opd.c (V.bool
  false))) none, EOper.mk (some 39) (EOp.mv (Opd.t 38)) none, EOper.mk (some 40) (EOp.mv (Opd.t 4)) (some (39, true)), EOper.mk (some 41) (EOp.bin .eql (Opd.t 40) (Opd.c
  (V.int .u32 (305397760)))) (some (39, true)), EOper.mk (some 42) (EOp.pick (Opd.t 39) (Opd.t 41) (Opd.c (V.bool false))) none, EOper.mk (some 43) (EOp.mv (Opd.t 42))
  none, EOper.mk (some 44) (EOp.mv (Opd.t 7)) (some (43, true)), EOper.mk (some 45) (EOp.un .not (Opd.t 44)) (some (43, true)), EOper.mk (some 46) (EOp.pick (Opd.t 43)
  (Opd.t 45) (Opd.c (V.bool false))) none, EOper.mk (some 47) (EOp.mv (Opd.t 46)) none, EOper.mk (some 48) (EOp.mv (Opd.t 9)) (some (47, true)), EOper.mk (some 49) (EOp.un
  .not (Opd.t 48)) (some (47, true)), EOper.mk (some 50) (EOp.pick (Opd.t 47) (Opd.t 49) (Opd.c (V.bool false))) none, EOper.mk (some 0) (EOp.mv (Opd.t 50)) none]
def m7_6 : List Bool := [true, false, false, false, false, false, false, false, false, false, false, false, false, false, false, false, false, false, false, false, false, false, false, false, false, false, false, false, false, false, false, true, true, true, true, true, true, true, true, true, true, true, true, true, true, true, true, true, true, true, true]
def b7_7 : EC := EC.ret
def m7_7 : List Bool := [false, false, false, false, false, false, false, false, false, false, false, false, false, false, false, false, false, false, false, false, false, false, false, false, false, false, false, false, false, false, false, false, false, false, false, false, false, false, false, false, false, false, false, false, false, false, false, false, false, false, false]
def r7_7 : EC := b7_7
def r7_6 : EC := EC.seq b7_6 r7_7
def r7_5 : EC := EC.seq b7_5 r7_6
def r7_4 : EC := EC.seq b7_4 r7_5
def r7_3 : EC := EC.seq b7_3 r7_4
def r7_2 : EC := EC.seq b7_2 r7_3
def r7_1 : EC := EC.seq b7_1 r7_2
def r7_0 : EC := EC.seq b7_0 r7_1
def e7 : EFun := EFun.mk 51 [ERes.t 0] r7_0
theorem c7 : cFun Tryd.prog 2 (fun _ => false) Tryd.f7 = some e7 := by kernel_rfl
theorem x7 : Tryd.prog.funcs[7]? = some Tryd.f7 := by kernel_rfl
theorem n7 : (Tryd.f7.name == "runtime.NumGoroutine") = false := by kernel_rfl
/-! 8: ram.New -/
def b8_0 : EC := EC.ops false [EOper.mk (some 2) (EOp.mv (Opd.c (V.ptr none))) none, EOper.mk (some 3) (EOp.mv (Opd.c (V.int .i64 (0)))) none]
def m8_0 : List Bool := [false, false, true, true, false, false, false, false, false, false, false, false, false, false, false, false, false, false, false, false, false]
def b8_1 : EC := EC.seq (EC.ops false [EOper.mk (some 4) (EOp.mv (Opd.t 0)) none, EOper.mk (some 5) (EOp.bin .lss (Opd.t 4) (Opd.c (V.int .i64 (4)))) none, EOper.mk (some
  6) (EOp.mv (Opd.t 5)) none, EOper.mk (some 7) (EOp.mv (Opd.t 0)) (some (6, false)), EOper.mk (some 8) (EOp.bin .gtr (Opd.t 7) (Opd.c (V.int .i64 (4096)))) (some (6,
  false)), EOper.mk (some 9) (EOp.pick (Opd.t 6) (Opd.c (V.bool true)) (Opd.t 8)) none, EOper.mk (some 10) (EOp.mv (Opd.t 9)) none, EOper.mk (some 11) (EOp.mv (Opd.t 0))
  (some (10, false)), EOper.mk (some 12) (EOp.bin .rem (Opd.t 11) (Opd.c (V.int .i64 (4)))) (some (10, false)), EOper.mk (some 13) (EOp.bin .neq (Opd.t 12) (Opd.c (V.int
  .i64 (0)))) (some (10, false)), EOper.mk (some 14) (EOp.pick (Opd.t 10) (Opd.c (V.bool true)) (Opd.t 13)) none]) (EC.cond (Opd.t 14) (EC.seq (EC.ops false [EOper.mk
  (some 2) (EOp.mv (Opd.c (V.ptr none))) none, EOper.mk (some 3) (EOp.mv (Opd.c (V.int .i64 (2)))) none]) EC.ret) EC.skip)
def m8_1 : List Bool := [false, false, true, true, true, true, true, true, true, true, true, true, true, true, true, false, false, false, false, false, false]
def b8_2 : EC := EC.ops false [EOper.mk (some 15) (EOp.mv (Opd.t 0)) none, EOper.mk (some 16) (EOp.bin .quo (Opd.t 15) (Opd.c (V.int .i64 (4)))) none, EOper.mk (some 17)
  (EOp.mksl 23 [V.int .u32 (0)] 4 (Opd.t 16) (Opd.t 16)) none, EOper.mk (some 18) (EOp.build [V.sl none 0 0] [(0, 1, Opd.t 17)]) none, EOper.mk (some 19) (EOp.build [V.sl
  none 0 0] [(0, 1, Opd.t 18)]) none, EOper.mk (some 20) (EOp.box false 54 (Opd.t 19)) none, EOper.mk (some 2) (EOp.mv (Opd.t 20)) none, EOper.mk (some 3) (EOp.mv (Opd.c
  (V.int .i64 (0)))) none]
def m8_2 : List Bool := [false, false, true, true, false, false, false, false, false, false, false, false, false, false, false, true, true, true, true, true, true]
def b8_3 : EC := EC.ret
def m8_3 : List Bool := [false, false, false, false, false, false, false, false, false, false, false, false, false, false, false, false, false, false, false, false, false]
def r8_3 : EC := b8_3
def r8_2 : EC := EC.seq b8_2 r8_3
def r8_1 : EC := EC.seq b8_1 r8_2
def r8_0 : EC := EC.seq b8_0 r8_1
def e8 : EFun := EFun.mk 21 [ERes.t 2, ERes.t 3] r8_0
theorem c8 : cFun Tryd.prog 2 (fun d => d == 20) Tryd.f8 = some e8 := by kernel_rfl
theorem x8 : Tryd.prog.funcs[8]? = some Tryd.f8 := by kernel_rfl
theorem n8 : (Tryd.f8.name == "runtime.NumGoroutine") = false := by kernel_rfl
/-! 9: ram.Ram.Write -/
def b9_0 : EC := EC.ops false [EOper.mk (some 5) (EOp.box false 3 (Opd.t 1)) none, EOper.mk (some 6) (EOp.box false 3 (Opd.t 2)) none, EOper.mk (some 7) (EOp.box false 23
  (Opd.t 3)) none, EOper.mk (some 8) (EOp.mv (Opd.c (V.bool false))) none]
def m9_0 : List Bool := [false, false, false, false, false, true, true, true, true, false, false, false, false, false, false, false, false, false, false, false]
def b9_1 : EC := EC.seq (EC.ops false [EOper.mk (some 9) (EOp.mv (Opd.t 0)) none, EOper.mk (some 10) (EOp.ld false 1 (Opd.t 5)) none, EOper.mk (some 11) (EOp.ld false 1
  (Opd.t 6)) none, EOper.mk (some 12) (EOp.call (Opd.f 24) [Opd.t 9, Opd.t 10, Opd.t 11]) none, EOper.mk (some 13) (EOp.un .not (Opd.t 12)) none]) (EC.cond (Opd.t 13)
  (EC.seq (EC.ops false [EOper.mk (some 8) (EOp.mv (Opd.c (V.bool false))) none]) EC.ret) EC.skip)
def m9_1 : List Bool := [false, false, false, false, false, false, false, false, true, true, true, true, true, true, false, false, false, false, false, false]
def b9_2 : EC := EC.opsT [EOper.mk (some 14) (EOp.mv (Opd.t 0)) none, EOper.mk (some 15) (EOp.nck (Opd.t 14)) none, EOper.mk (some 16) (EOp.fa 0 (Opd.t 15)) none, EOper.mk
  (some 17) (EOp.ld false 1 (Opd.t 5)) none, EOper.mk (some 18) (EOp.mkfn 26 [] [Opd.t 5, Opd.t 6, Opd.t 7]) none] [] [EOper.mk (some 19) (EOp.call (Opd.f 25) [Opd.t 16,
  Opd.t 17, Opd.t 18]) none]
def m9_2 : List Bool := [false, false, false, false, false, false, false, false, false, false, false, false, false, false, true, true, true, true, true, true]
def b9_3 : EC := EC.ops false [EOper.mk (some 8) (EOp.mv (Opd.c (V.bool true))) none]
def m9_3 : List Bool := [false, false, false, false, false, false, false, false, true, false, false, false, false, false, false, false, false, false, false, false]
def b9_4 : EC := EC.ret
def m9_4 : List Bool := [false, false, false, false, false, false, false, false, false, false, false, false, false, false, false, false, false, false, false, false]
def r9_4 : EC := b9_4
def r9_3 : EC := EC.seq b9_3 r9_4
def r9_2 : EC := EC.seq b9_2 r9_3
def r9_1 : EC := EC.seq b9_1 r9_2
def r9_0 : EC := EC.seq b9_0 r9_1
def e9 : EFun := EFun.mk 20 [ERes.t 8] r9_0
theorem c9 : cFun Tryd.prog 2 (fun d => d == 5 || d == 6 || d == 7) Tryd.f9 = some e9 := by kernel_rfl
theorem x9 : Tryd.prog.funcs[9]? = some Tryd.f9 := by kernel_rfl
theorem n9 : (Tryd.f9.name == "runtime.NumGoroutine") = false := by kernel_rfl
/-! 10: ram.Ram.Read -/
def b10_0 : EC := EC.ops false [EOper.mk (some 6) (EOp.mv (Opd.c (V.int .u32 (0)))) none, EOper.mk (some 7) (EOp.mv (Opd.c (V.bool false))) none]
def m10_0 : List Bool := [false, false, false, false, false, false, true, true, false, false, false, false, false, false, false, false, false, false, false, false, false, false, false, false, false, false, false, false]
def b10_1 : EC := EC.seq (EC.ops false [EOper.mk (some 8) (EOp.mv (Opd.t 0)) none, EOper.mk (some 9) (EOp.mv (Opd.t 1)) none, EOper.mk (some 10) (EOp.mv (Opd.t 2)) none,
  EOper.mk (some 11) (EOp.call (Opd.f 24) [Opd.t 8, Opd.t 9, Opd.t 10]) none, EOper.mk (some 12) (EOp.un .not (Opd.t 11)) none]) (EC.cond (Opd.t 12) (EC.seq (EC.ops false
  [EOper.mk (some 6) (EOp.mv (Opd.c (V.int .u32 (0)))) none, EOper.mk (some 7) (EOp.mv (Opd.c (V.bool false))) none]) EC.ret) EC.skip)
def m10_1 : List Bool := [false, false, false, false, false, false, true, true, true, true, true, true, true, false, false, false, false, false, false, false, false, false, false, false, false, false, false, false]
def b10_2 : EC := EC.ops false [EOper.mk (some 13) (EOp.mv (Opd.t 0)) none, EOper.mk (some 14) (EOp.nck (Opd.t 13)) none, EOper.mk (some 15) (EOp.fa 0 (Opd.t 14)) none,
  EOper.mk (some 16) (EOp.fa 0 (Opd.t 15)) none, EOper.mk (some 17) (EOp.ld false 1 (Opd.t 16)) none, EOper.mk (some 18) (EOp.mv (Opd.t 1)) none, EOper.mk (some 19)
  (EOp.bin .quo (Opd.t 18) (Opd.c (V.int .i64 (4)))) none, EOper.mk (some 20) (EOp.ixs 1 (Opd.t 17) (Opd.t 19)) none, EOper.mk (some 21) (EOp.ld false 1 (Opd.t 20)) none,
  EOper.mk (some 22) (EOp.mv (Opd.t 1)) none, EOper.mk (some 23) (EOp.conv .u32 (Opd.t 22)) none, EOper.mk (some 24) (EOp.mv (Opd.t 2)) none, EOper.mk (some 25) (EOp.call
  (Opd.f 28) [Opd.t 21, Opd.t 23, Opd.t 24]) none, EOper.mk (some 26) (EOp.ext (Opd.t 25) 0) none, EOper.mk (some 27) (EOp.ext (Opd.t 25) 1) none, EOper.mk (some 6)
  (EOp.mv (Opd.t 26)) none, EOper.mk (some 7) (EOp.mv (Opd.t 27)) none]
def m10_2 : List Bool := [false, false, false, false, false, false, true, true, false, false, false, false, false, true, true, true, true, true, true, true, true, true, true, true, true, true, true, true]
def b10_3 : EC := EC.ret
def m10_3 : List Bool := [false, false, false, false, false, false, false, false, false, false, false, false, false, false, false, false, false, false, false, false, false, false, false, false, false, false, false, false]
def r10_3 : EC := b10_3
def r10_2 : EC := EC.seq b10_2 r10_3
def r10_1 : EC := EC.seq b10_1 r10_2
def r10_0 : EC := EC.seq b10_0 r10_1
def e10 : EFun := EFun.mk 28 [ERes.t 6, ERes.t 7] r10_0
theorem c10 : cFun Tryd.prog 2 (fun _ => false) Tryd.f10 = some e10 := by kernel_rfl
theorem x10 : Tryd.prog.funcs[10]? = some Tryd.f10 := by kernel_rfl
theorem n10 : (Tryd.f10.name == "runtime.NumGoroutine") = false := by kernel_rfl
/-! 11: ram.Ram.Copy -/
def b11_0 : EC := EC.ops false [EOper.mk (some 2) (EOp.mv (Opd.c (V.ptr none))) none]
def m11_0 : List Bool := [false, false, true, false, false, false, false, false, false, false, false, false, false, false, false, false, false, false, false, false, false, false, false, false, false]
def b11_1 : EC := EC.seq (EC.ops false [EOper.mk (some 4) (EOp.mv (Opd.t 0)) none, EOper.mk (some 5) (EOp.call (Opd.f 12) [Opd.t 4]) none, EOper.mk (some 6) (EOp.bin .eql
  (Opd.t 5) (Opd.c (V.int .i64 (0)))) none]) (EC.cond (Opd.t 6) (EC.seq (EC.ops false [EOper.mk (some 2) (EOp.mv (Opd.c (V.ptr none))) none]) EC.ret) EC.skip)
def m11_1 : List Bool := [false, false, true, false, true, true, true, false, false, false, false, false, false, false, false, false, false, false, false, false, false, false, false, false, false]
def b11_2 : EC := EC.ops false [EOper.mk (some 7) (EOp.mv (Opd.t 0)) none, EOper.mk (some 8) (EOp.nck (Opd.t 7)) none, EOper.mk (some 9) (EOp.fa 0 (Opd.t 8)) none,
  EOper.mk (some 10) (EOp.fa 0 (Opd.t 9)) none, EOper.mk (some 11) (EOp.ld false 1 (Opd.t 10)) none, EOper.mk (some 12) (EOp.len false (Opd.t 11)) none, EOper.mk (some 13)
  (EOp.mksl 23 [V.int .u32 (0)] 4 (Opd.t 12) (Opd.t 12)) none, EOper.mk (some 3) (EOp.mv (Opd.t 13)) none]
def m11_2 : List Bool := [false, false, false, true, false, false, false, true, true, true, true, true, true, true, false, false, false, false, false, false, false, false, false, false, false]
def b11_3 : EC := EC.ops false [EOper.mk (some 14) (EOp.mv (Opd.t 3)) none, EOper.mk (some 15) (EOp.mv (Opd.t 0)) none, EOper.mk (some 16) (EOp.nck (Opd.t 15)) none,
  EOper.mk (some 17) (EOp.fa 0 (Opd.t 16)) none, EOper.mk (some 18) (EOp.fa 0 (Opd.t 17)) none, EOper.mk (some 19) (EOp.ld false 1 (Opd.t 18)) none, EOper.mk (some 20)
  (EOp.cpy 1 (Opd.t 14) (Opd.t 19)) none]
def m11_3 : List Bool := [false, false, false, false, false, false, false, false, false, false, false, false, false, false, true, true, true, true, true, true, true, false, false, false, false]
def b11_4 : EC := EC.ops false [EOper.mk (some 21) (EOp.mv (Opd.t 3)) none, EOper.mk (some 22) (EOp.build [V.sl none 0 0] [(0, 1, Opd.t 21)]) none, EOper.mk (some 23)
  (EOp.build [V.sl none 0 0] [(0, 1, Opd.t 22)]) none, EOper.mk (some 24) (EOp.box false 54 (Opd.t 23)) none, EOper.mk (some 2) (EOp.mv (Opd.t 24)) none]
def m11_4 : List Bool := [false, false, true, false, false, false, false, false, false, false, false, false, false, false, false, false, false, false, false, false, false, true, true, true, true]
def b11_5 : EC := EC.ret
def m11_5 : List Bool := [false, false, false, false, false, false, false, false, false, false, false, false, false, false, false, false, false, false, false, false, false, false, false, false, false]
def r11_5 : EC := b11_5
def r11_4 : EC := EC.seq b11_4 r11_5
def r11_3 : EC := EC.seq b11_3 r11_4
def r11_2 : EC := EC.seq b11_2 r11_3
def r11_1 : EC := EC.seq b11_1 r11_2
def r11_0 : EC := EC.seq b11_0 r11_1
def e11 : EFun := EFun.mk 25 [ERes.t 2] r11_0
theorem c11 : cFun Tryd.prog 2 (fun d => d == 24) Tryd.f11 = some e11 := by kernel_rfl
theorem x11 : Tryd.prog.funcs[11]? = some Tryd.f11 := by kernel_rfl
theorem n11 : (Tryd.f11.name == "runtime.NumGoroutine") = false := by kernel_rfl
/-! 12: ram.Ram.Len -/
def b12_0 : EC := EC.ops false [EOper.mk (some 2) (EOp.mv (Opd.c (V.int .i64 (0)))) none]
def m12_0 : List Bool := [false, false, true, false, false, false, false, false, false, false, false, false]
def b12_1 : EC := EC.seq (EC.ops false [EOper.mk (some 3) (EOp.mv (Opd.t 0)) none, EOper.mk (some 4) (EOp.eqp false (Opd.t 3) (Opd.c (V.ptr none))) none]) (EC.cond (Opd.t
  4) (EC.seq (EC.ops false [EOper.mk (some 2) (EOp.mv (Opd.c (V.int .i64 (0)))) none]) EC.ret) EC.skip)
def m12_1 : List Bool := [false, false, true, true, true, false, false, false, false, false, false, false]
def b12_2 : EC := EC.ops false [EOper.mk (some 5) (EOp.mv (Opd.t 0)) none, EOper.mk (some 6) (EOp.nck (Opd.t 5)) none, EOper.mk (some 7) (EOp.fa 0 (Opd.t 6)) none,
  EOper.mk (some 8) (EOp.fa 0 (Opd.t 7)) none, EOper.mk (some 9) (EOp.ld false 1 (Opd.t 8)) none, EOper.mk (some 10) (EOp.len false (Opd.t 9)) none, EOper.mk (some 11)
  (EOp.bin .mul (Opd.c (V.int .i64 (4))) (Opd.t 10)) none, EOper.mk (some 2) (EOp.mv (Opd.t 11)) none]
def m12_2 : List Bool := [false, false, true, false, false, true, true, true, true, true, true, true]
def b12_3 : EC := EC.ret
def m12_3 : List Bool := [false, false, false, false, false, false, false, false, false, false, false, false]
def r12_3 : EC := b12_3
def r12_2 : EC := EC.seq b12_2 r12_3
def r12_1 : EC := EC.seq b12_1 r12_2
def r12_0 : EC := EC.seq b12_0 r12_1
def e12 : EFun := EFun.mk 12 [ERes.t 2] r12_0
theorem c12 : cFun Tryd.prog 2 (fun _ => false) Tryd.f12 = some e12 := by kernel_rfl
theorem x12 : Tryd.prog.funcs[12]? = some Tryd.f12 := by kernel_rfl
theorem n12 : (Tryd.f12.name == "runtime.NumGoroutine") = false := by kernel_rfl
/-! 13: septumref09.New -/
def b13_0 : EC := EC.ops false [EOper.mk (some 2) (EOp.mv (Opd.c (V.ptr none))) none, EOper.mk (some 3) (EOp.mv (Opd.c (V.bool false))) none]
def m13_0 : List Bool := [false, false, true, true, false, false, false, false, false, false, false, false, false, false, false, false, false, false, false]
def b13_1 : EC := EC.seq (EC.ops false [EOper.mk (some 4) (EOp.mv (Opd.t 0)) none, EOper.mk (some 5) (EOp.bin .lss (Opd.t 4) (Opd.c (V.int .i64 (4)))) none, EOper.mk (some
  6) (EOp.mv (Opd.t 5)) none, EOper.mk (some 7) (EOp.mv (Opd.t 0)) (some (6, false)), EOper.mk (some 8) (EOp.bin .gtr (Opd.t 7) (Opd.c (V.int .i64 (4096)))) (some (6,
  false)), EOper.mk (some 9) (EOp.pick (Opd.t 6) (Opd.c (V.bool true)) (Opd.t 8)) none, EOper.mk (some 10) (EOp.mv (Opd.t 9)) none, EOper.mk (some 11) (EOp.mv (Opd.t 0))
  (some (10, false)), EOper.mk (some 12) (EOp.bin .rem (Opd.t 11) (Opd.c (V.int .i64 (4)))) (some (10, false)), EOper.mk (some 13) (EOp.bin .neq (Opd.t 12) (Opd.c (V.int
  .i64 (0)))) (some (10, false)), EOper.mk (some 14) (EOp.pick (Opd.t 10) (Opd.c (V.bool true)) (Opd.t 13)) none]) (EC.cond (Opd.t 14) (EC.seq (EC.ops false [EOper.mk
  (some 2) (EOp.mv (Opd.c (V.ptr none))) none, EOper.mk (some 3) (EOp.mv (Opd.c (V.bool false))) none]) EC.ret) EC.skip)
def m13_1 : List Bool := [false, false, true, true, true, true, true, true, true, true, true, true, true, true, true, false, false, false, false]
def b13_2 : EC := EC.ops false [EOper.mk (some 15) (EOp.mv (Opd.t 0)) none, EOper.mk (some 16) (EOp.mksl 5 [V.int .u8 (0)] 1 (Opd.t 15) (Opd.t 15)) none, EOper.mk (some
  17) (EOp.build [V.sl none 0 0] [(0, 1, Opd.t 16)]) none, EOper.mk (some 18) (EOp.box false 44 (Opd.t 17)) none, EOper.mk (some 2) (EOp.mv (Opd.t 18)) none, EOper.mk
  (some 3) (EOp.mv (Opd.c (V.bool true))) none]
def m13_2 : List Bool := [false, false, true, true, false, false, false, false, false, false, false, false, false, false, false, true, true, true, true]
def b13_3 : EC := EC.ret
def m13_3 : List Bool := [false, false, false, false, false, false, false, false, false, false, false, false, false, false, false, false, false, false, false]
def r13_3 : EC := b13_3
def r13_2 : EC := EC.seq b13_2 r13_3
def r13_1 : EC := EC.seq b13_1 r13_2
def r13_0 : EC := EC.seq b13_0 r13_1
def e13 : EFun := EFun.mk 19 [ERes.t 2, ERes.t 3] r13_0
theorem c13 : cFun Tryd.prog 2 (fun d => d == 18) Tryd.f13 = some e13 := by kernel_rfl
theorem x13 : Tryd.prog.funcs[13]? = some Tryd.f13 := by kernel_rfl
theorem n13 : (Tryd.f13.name == "runtime.NumGoroutine") = false := by kernel_rfl
/-! 14: septumkit.Pick -/
def b14_0 : EC := EC.ops false [EOper.mk (some 4) (EOp.mv (Opd.c (V.int .i64 (0)))) none]
def m14_0 : List Bool := [false, false, false, false, true, false, false, false, false, false, false, false, false, false, false, false]
def b14_1 : EC := EC.seq (EC.ops false [EOper.mk (some 5) (EOp.mv (Opd.t 1)) none, EOper.mk (some 6) (EOp.bin .lss (Opd.t 5) (Opd.c (V.int .i64 (1)))) none]) (EC.cond
  (Opd.t 6) (EC.seq (EC.ops false [EOper.mk (some 4) (EOp.mv (Opd.c (V.int .i64 (0)))) none]) EC.ret) EC.skip)
def m14_1 : List Bool := [false, false, false, false, true, true, true, false, false, false, false, false, false, false, false, false]
def b14_2 : EC := EC.ops false [EOper.mk (some 7) (EOp.mv (Opd.t 0)) none, EOper.mk (some 8) (EOp.mv (Opd.t 1)) none, EOper.mk (some 9) (EOp.bin .rem (Opd.t 7) (Opd.t 8))
  none, EOper.mk (some 0) (EOp.mv (Opd.t 9)) none]
def m14_2 : List Bool := [true, false, false, false, false, false, false, true, true, true, false, false, false, false, false, false]
def b14_3 : EC := EC.seq (EC.ops false [EOper.mk (some 10) (EOp.mv (Opd.t 0)) none, EOper.mk (some 11) (EOp.bin .lss (Opd.t 10) (Opd.c (V.int .i64 (0)))) none]) (EC.cond
  (Opd.t 11) (EC.ops false [EOper.mk (some 12) (EOp.mv (Opd.t 0)) none, EOper.mk (some 13) (EOp.mv (Opd.t 1)) none, EOper.mk (some 14) (EOp.bin .add (Opd.t 12) (Opd.t 13))
  none, EOper.mk (some 0) (EOp.mv (Opd.t 14)) none]) EC.skip)
def m14_3 : List Bool := [true, false, false, false, false, false, false, false, false, false, true, true, true, true, true, false]
def b14_4 : EC := EC.ops false [EOper.mk (some 15) (EOp.mv (Opd.t 0)) none, EOper.mk (some 4) (EOp.mv (Opd.t 15)) none]
def m14_4 : List Bool := [false, false, false, false, true, false, false, false, false, false, false, false, false, false, false, true]
def b14_5 : EC := EC.ret
def m14_5 : List Bool := [false, false, false, false, false, false, false, false, false, false, false, false, false, false, false, false]
def r14_5 : EC := b14_5
def r14_4 : EC := EC.seq b14_4 r14_5
def r14_3 : EC := EC.seq b14_3 r14_4
def r14_2 : EC := EC.seq b14_2 r14_3
def r14_1 : EC := EC.seq b14_1 r14_2
def r14_0 : EC := EC.seq b14_0 r14_1
def e14 : EFun := EFun.mk 16 [ERes.t 4] r14_0
theorem c14 : cFun Tryd.prog 2 (fun _ => false) Tryd.f14 = some e14 := by kernel_rfl
theorem x14 : Tryd.prog.funcs[14]? = some Tryd.f14 := by kernel_rfl
theorem n14 : (Tryd.f14.name == "runtime.NumGoroutine") = false := by kernel_rfl
/-! 15: septumlaw09.reads -/
def b15_0 : EC := EC.ops false [EOper.mk (some 8) (EOp.mv (Opd.c (V.bool false))) none]
def m15_0 : List Bool := [false, false, false, false, false, false, false, false, true, false, false, false, false, false, false, false, false, false, false, false, false, false, false, false, false, false, false, false, false, false, false, false, false, false, false]
def b15_1 : EC := EC.ops false [EOper.mk (some 14) (EOp.mv (Opd.t 0)) none, EOper.mk (some 15) (EOp.mv (Opd.t 2)) none, EOper.mk (some 16) (EOp.mv (Opd.t 3)) none,
  EOper.mk (some 17) (EOp.call (Opd.f 10) [Opd.t 14, Opd.t 15, Opd.t 16]) none, EOper.mk (some 13) (EOp.mv (Opd.t 17)) none, EOper.mk (some 18) (EOp.ext (Opd.t 13) 0)
  none, EOper.mk (some 19) (EOp.ext (Opd.t 13) 1) none, EOper.mk (some 9) (EOp.mv (Opd.t 18)) none, EOper.mk (some 10) (EOp.mv (Opd.t 19)) none]
def m15_1 : List Bool := [false, false, false, false, false, false, false, false, false, true, true, false, false, true, true, true, true, true, true, true, false, false, false, false, false, false, false, false, false, false, false, false, false, false, false]
def b15_2 : EC := EC.ops false [EOper.mk (some 21) (EOp.mv (Opd.t 1)) none, EOper.mk (some 22) (EOp.mv (Opd.t 2)) none, EOper.mk (some 23) (EOp.mv (Opd.t 3)) none,
  EOper.mk (some 24) (EOp.call (Opd.f 29) [Opd.t 21, Opd.t 22, Opd.t 23]) none, EOper.mk (some 20) (EOp.mv (Opd.t 24)) none, EOper.mk (some 25) (EOp.ext (Opd.t 20) 0)
  none, EOper.mk (some 26) (EOp.ext (Opd.t 20) 1) none, EOper.mk (some 11) (EOp.mv (Opd.t 25)) none, EOper.mk (some 12) (EOp.mv (Opd.t 26)) none]
def m15_2 : List Bool := [false, false, false, false, false, false, false, false, false, false, false, true, true, false, false, false, false, false, false, false, true, true, true, true, true, true, true, false, false, false, false, false, false, false, false]
def b15_3 : EC := EC.ops false [EOper.mk (some 27) (EOp.mv (Opd.t 9)) none, EOper.mk (some 28) (EOp.mv (Opd.t 11)) none, EOper.mk (some 29) (EOp.bin .eql (Opd.t 27) (Opd.t
  28)) none, EOper.mk (some 30) (EOp.mv (Opd.t 29)) none, EOper.mk (some 31) (EOp.mv (Opd.t 10)) (some (30, true)), EOper.mk (some 32) (EOp.mv (Opd.t 12)) (some (30,
  true)), EOper.mk (some 33) (EOp.eqb false (Opd.t 31) (Opd.t 32)) (some (30, true)), EOper.mk (some 34) (EOp.pick (Opd.t 30) (Opd.t 33) (Opd.c (V.bool false))) none,
  EOper.mk (some 8) (EOp.mv (Opd.t 34)) none]
def m15_3 : List Bool := [false, false, false, false, false, false, false, false, true, false, false, false, false, false, false, false, false, false, false, false, false, false, false, false, false, false, false, true, true, true, true, true, true, true, true]
def b15_4 : EC := EC.ret
def m15_4 : List Bool := [false, false, false, false, false, false, false, false, false, false, false, false, false, false, false, false, false, false, false, false, false, false, false, false, false, false, false, false, false, false, false, false, false, false, false]
def r15_4 : EC := b15_4
def r15_3 : EC := EC.seq b15_3 r15_4
def r15_2 : EC := EC.seq b15_2 r15_3
def r15_1 : EC := EC.seq b15_1 r15_2
def r15_0 : EC := EC.seq b15_0 r15_1
def e15 : EFun := EFun.mk 35 [ERes.t 8] r15_0
theorem c15 : cFun Tryd.prog 2 (fun _ => false) Tryd.f15 = some e15 := by kernel_rfl
theorem x15 : Tryd.prog.funcs[15]? = some Tryd.f15 := by kernel_rfl
theorem n15 : (Tryd.f15.name == "runtime.NumGoroutine") = false := by kernel_rfl
/-! 16: ram.Ram.Reset -/
def b16_0 : EC := EC.ops false [EOper.mk (some 2) (EOp.mv (Opd.t 0)) none, EOper.mk (some 3) (EOp.eqp true (Opd.t 2) (Opd.c (V.ptr none))) none]
def m16_0 : List Bool := [false, false, true, true, false, false, false, false, false]
def b16_1 : EC := EC.cond (Opd.t 3) (EC.ops false [EOper.mk (some 4) (EOp.mv (Opd.t 0)) none, EOper.mk (some 5) (EOp.nck (Opd.t 4)) none, EOper.mk (some 6) (EOp.fa 0
  (Opd.t 5)) none, EOper.mk (some 7) (EOp.fa 0 (Opd.t 6)) none, EOper.mk (some 8) (EOp.ld false 1 (Opd.t 7)) none, EOper.mk none (EOp.clr [V.int .u32 (0)] (Opd.t 8))
  none]) EC.skip
def m16_1 : List Bool := [false, false, false, false, true, true, true, true, true]
def r16_1 : EC := b16_1
def r16_0 : EC := EC.seq b16_0 r16_1
def e16 : EFun := EFun.mk 9 [] r16_0
theorem c16 : cFun Tryd.prog 2 (fun _ => false) Tryd.f16 = some e16 := by kernel_rfl
theorem x16 : Tryd.prog.funcs[16]? = some Tryd.f16 := by kernel_rfl
theorem n16 : (Tryd.f16.name == "runtime.NumGoroutine") = false := by kernel_rfl
/-! 17: septumref09.Ram.Write -/
def l17_0p0 : EC := EC.seq (EC.ops false [EOper.mk (some 19) (EOp.mv (Opd.t 10)) none, EOper.mk (some 20) (EOp.mv (Opd.t 2)) none, EOper.mk (some 21) (EOp.bin .lss (Opd.t
  19) (Opd.t 20)) none]) (EC.cond (Opd.t 21) EC.skip (EC.exit 0))
def l17_0m0 : List Bool := [false, false, false, false, false, false, false, false, false, false, false, false, false, false, false, false, false, false, false, true, true, true, false, false, false, false, false, false, false, false, false, false, false, false, false, false]
def l17_0p1 : EC := EC.block 1 (EC.opsT [EOper.mk (some 24) (EOp.mv (Opd.t 0)) none, EOper.mk (some 25) (EOp.nck (Opd.t 24)) none, EOper.mk (some 26) (EOp.fa 0 (Opd.t 25))
  none, EOper.mk (some 27) (EOp.ld false 1 (Opd.t 26)) none, EOper.mk (some 28) (EOp.mv (Opd.t 1)) none, EOper.mk (some 29) (EOp.mv (Opd.t 10)) none, EOper.mk (some 30)
  (EOp.bin .add (Opd.t 28) (Opd.t 29)) none, EOper.mk (some 31) (EOp.mv (Opd.t 9)) none, EOper.mk (some 32) (EOp.mv (Opd.t 10)) none, EOper.mk (some 33) (EOp.ixs 1 (Opd.t
  31) (Opd.t 32)) none, EOper.mk (some 34) (EOp.ld false 1 (Opd.t 33)) none, EOper.mk (some 35) (EOp.ixs 1 (Opd.t 27) (Opd.t 30)) none] [] [EOper.mk none (EOp.st 1 (Opd.t
  35) (Opd.t 34)) none])
def l17_0m1 : List Bool := [false, false, false, false, false, false, false, false, false, false, false, false, false, false, false, false, false, false, false, false, false, false, false, false, true, true, true, true, true, true, true, true, true, true, true, true]
def l17_0p2 : EC := EC.ops false [EOper.mk (some 22) (EOp.mv (Opd.t 10)) none, EOper.mk (some 23) (EOp.bin .add (Opd.t 22) (Opd.c (V.int .i64 (1)))) none, EOper.mk (some
  10) (EOp.mv (Opd.t 23)) none]
def l17_0m2 : List Bool := [false, false, false, false, false, false, false, false, false, false, true, false, false, false, false, false, false, false, false, false, false, false, true, true, false, false, false, false, false, false, false, false, false, false, false, false]
def l17_0r2 : EC := l17_0p2
def l17_0r1 : EC := EC.seq l17_0p1 l17_0r2
def l17_0r0 : EC := EC.seq l17_0p0 l17_0r1
def l17_0 : EC := l17_0r0
def b17_0 : EC := EC.ops false [EOper.mk (some 8) (EOp.mv (Opd.c (V.bool false))) none]
def m17_0 : List Bool := [false, false, false, false, false, false, false, false, true, false, false, false, false, false, false, false, false, false, false, false, false, false, false, false, false, false, false, false, false, false, false, false, false, false, false, false]
def b17_1 : EC := EC.seq (EC.ops false [EOper.mk (some 11) (EOp.mv (Opd.t 0)) none, EOper.mk (some 12) (EOp.mv (Opd.t 1)) none, EOper.mk (some 13) (EOp.mv (Opd.t 2)) none,
  EOper.mk (some 14) (EOp.call (Opd.f 30) [Opd.t 11, Opd.t 12, Opd.t 13]) none, EOper.mk (some 15) (EOp.un .not (Opd.t 14)) none]) (EC.cond (Opd.t 15) (EC.seq (EC.ops
  false [EOper.mk (some 8) (EOp.mv (Opd.c (V.bool false))) none]) EC.ret) EC.skip)
def m17_1 : List Bool := [false, false, false, false, false, false, false, false, true, false, false, true, true, true, true, true, false, false, false, false, false, false, false, false, false, false, false, false, false, false, false, false, false, false, false, false]
def b17_2 : EC := EC.ops false [EOper.mk (some 16) (EOp.mv (Opd.t 3)) none, EOper.mk (some 17) (EOp.mv (Opd.t 2)) none, EOper.mk (some 18) (EOp.call (Opd.f 31) [Opd.t 16,
  Opd.t 17]) none, EOper.mk (some 9) (EOp.mv (Opd.t 18)) none]
def m17_2 : List Bool := [false, false, false, false, false, false, false, false, false, true, false, false, false, false, false, false, true, true, true, false, false, false, false, false, false, false, false, false, false, false, false, false, false, false, false, false]
def b17_3 : EC := EC.seq (EC.ops false [EOper.mk (some 10) (EOp.mv (Opd.c (V.int .i64 (0)))) none]) (EC.block 0 (EC.loop l17_0))
def m17_3 : List Bool := [false, false, false, false, false, false, false, false, false, false, true, false, false, false, false, false, false, false, false, true, true, true, true, true, true, true, true, true, true, true, true, true, true, true, true, true]
def b17_4 : EC := EC.ops false [EOper.mk (some 8) (EOp.mv (Opd.c (V.bool true))) none]
def m17_4 : List Bool := [false, false, false, false, false, false, false, false, true, false, false, false, false, false, false, false, false, false, false, false, false, false, false, false, false, false, false, false, false, false, false, false, false, false, false, false]
def b17_5 : EC := EC.ret
def m17_5 : List Bool := [false, false, false, false, false, false, false, false, false, false, false, false, false, false, false, false, false, false, false, false, false, false, false, false, false, false, false, false, false, false, false, false, false, false, false, false]
def r17_5 : EC := b17_5
def r17_4 : EC := EC.seq b17_4 r17_5
def r17_3 : EC := EC.seq b17_3 r17_4
def r17_2 : EC := EC.seq b17_2 r17_3
def r17_1 : EC := EC.seq b17_1 r17_2
def r17_0 : EC := EC.seq b17_0 r17_1
def e17 : EFun := EFun.mk 36 [ERes.t 8] r17_0
theorem c17 : cFun Tryd.prog 2 (fun _ => false) Tryd.f17 = some e17 := by kernel_rfl
theorem x17 : Tryd.prog.funcs[17]? = some Tryd.f17 := by kernel_rfl
theorem n17 : (Tryd.f17.name == "runtime.NumGoroutine") = false := by kernel_rfl
/-! 18: ram.Ram.Bytes -/
def b18_0 : EC := EC.ops false [EOper.mk (some 2) (EOp.mv (Opd.c (V.sl none 0 0))) none]
def m18_0 : List Bool := [false, false, true, false, false, false, false, false]
def b18_1 : EC := EC.ops false [EOper.mk (some 3) (EOp.mv (Opd.t 0)) none, EOper.mk (some 4) (EOp.call (Opd.f 12) [Opd.t 3]) none, EOper.mk (some 5) (EOp.mv (Opd.t 0))
  none, EOper.mk (some 6) (EOp.mkfn 10 [Opd.t 5] []) none, EOper.mk (some 7) (EOp.call (Opd.f 32) [Opd.t 4, Opd.t 6]) none, EOper.mk (some 2) (EOp.mv (Opd.t 7)) none]
def m18_1 : List Bool := [false, false, true, true, true, true, true, true]
def b18_2 : EC := EC.ret
def m18_2 : List Bool := [false, false, false, false, false, false, false, false]
def r18_2 : EC := b18_2
def r18_1 : EC := EC.seq b18_1 r18_2
def r18_0 : EC := EC.seq b18_0 r18_1
def e18 : EFun := EFun.mk 8 [ERes.t 2] r18_0
theorem c18 : cFun Tryd.prog 2 (fun _ => false) Tryd.f18 = some e18 := by kernel_rfl
theorem x18 : Tryd.prog.funcs[18]? = some Tryd.f18 := by kernel_rfl
theorem n18 : (Tryd.f18.name == "runtime.NumGoroutine") = false := by kernel_rfl
/-! 19: septumkit.SameBytes -/
def l19_0p0 : EC := EC.seq (EC.ops false [EOper.mk (some 11) (EOp.mv (Opd.t 5)) none, EOper.mk (some 12) (EOp.mv (Opd.t 0)) none, EOper.mk (some 13) (EOp.len false (Opd.t
  12)) none, EOper.mk (some 14) (EOp.bin .lss (Opd.t 11) (Opd.t 13)) none]) (EC.cond (Opd.t 14) EC.skip (EC.exit 0))
def l19_0m0 : List Bool := [false, false, false, false, false, false, false, false, false, false, false, true, true, true, true, false, false, false, false, false, false, false, false, false, false, false]
def l19_0p1 : EC := EC.block 1 (EC.seq (EC.ops true [EOper.mk (some 17) (EOp.mv (Opd.t 0)) none, EOper.mk (some 18) (EOp.mv (Opd.t 5)) none, EOper.mk (some 19) (EOp.ixs 1
  (Opd.t 17) (Opd.t 18)) none, EOper.mk (some 20) (EOp.ld false 1 (Opd.t 19)) none, EOper.mk (some 21) (EOp.mv (Opd.t 1)) none, EOper.mk (some 22) (EOp.mv (Opd.t 5)) none,
  EOper.mk (some 23) (EOp.ixs 1 (Opd.t 21) (Opd.t 22)) none, EOper.mk (some 24) (EOp.ld false 1 (Opd.t 23)) none, EOper.mk (some 25) (EOp.bin .neq (Opd.t 20) (Opd.t 24))
  none]) (EC.cond (Opd.t 25) (EC.seq (EC.ops false [EOper.mk (some 4) (EOp.mv (Opd.c (V.bool false))) none]) EC.ret) EC.skip))
def l19_0m1 : List Bool := [false, false, false, false, true, false, false, false, false, false, false, false, false, false, false, false, false, true, true, true, true, true, true, true, true, true]
def l19_0p2 : EC := EC.ops false [EOper.mk (some 15) (EOp.mv (Opd.t 5)) none, EOper.mk (some 16) (EOp.bin .add (Opd.t 15) (Opd.c (V.int .i64 (1)))) none, EOper.mk (some 5)
  (EOp.mv (Opd.t 16)) none]
def l19_0m2 : List Bool := [false, false, false, false, false, true, false, false, false, false, false, false, false, false, false, true, true, false, false, false, false, false, false, false, false, false]
def l19_0r2 : EC := l19_0p2
def l19_0r1 : EC := EC.seq l19_0p1 l19_0r2
def l19_0r0 : EC := EC.seq l19_0p0 l19_0r1
def l19_0 : EC := l19_0r0
def b19_0 : EC := EC.ops false [EOper.mk (some 4) (EOp.mv (Opd.c (V.bool false))) none]
def m19_0 : List Bool := [false, false, false, false, true, false, false, false, false, false, false, false, false, false, false, false, false, false, false, false, false, false, false, false, false, false]
def b19_1 : EC := EC.seq (EC.ops false [EOper.mk (some 6) (EOp.mv (Opd.t 0)) none, EOper.mk (some 7) (EOp.len false (Opd.t 6)) none, EOper.mk (some 8) (EOp.mv (Opd.t 1))
  none, EOper.mk (some 9) (EOp.len false (Opd.t 8)) none, EOper.mk (some 10) (EOp.bin .neq (Opd.t 7) (Opd.t 9)) none]) (EC.cond (Opd.t 10) (EC.seq (EC.ops false [EOper.mk
  (some 4) (EOp.mv (Opd.c (V.bool false))) none]) EC.ret) EC.skip)
def m19_1 : List Bool := [false, false, false, false, true, false, true, true, true, true, true, false, false, false, false, false, false, false, false, false, false, false, false, false, false, false]
def b19_2 : EC := EC.seq (EC.ops false [EOper.mk (some 5) (EOp.mv (Opd.c (V.int .i64 (0)))) none]) (EC.block 0 (EC.loop l19_0))
def m19_2 : List Bool := [false, false, false, false, true, true, false, false, false, false, false, true, true, true, true, true, true, true, true, true, true, true, true, true, true, true]
def b19_3 : EC := EC.ops false [EOper.mk (some 4) (EOp.mv (Opd.c (V.bool true))) none]
def m19_3 : List Bool := [false, false, false, false, true, false, false, false, false, false, false, false, false, false, false, false, false, false, false, false, false, false, false, false, false, false]
def b19_4 : EC := EC.ret
def m19_4 : List Bool := [false, false, false, false, false, false, false, false, false, false, false, false, false, false, false, false, false, false, false, false, false, false, false, false, false, false]
def r19_4 : EC := b19_4
def r19_3 : EC := EC.seq b19_3 r19_4
def r19_2 : EC := EC.seq b19_2 r19_3
def r19_1 : EC := EC.seq b19_1 r19_2
def r19_0 : EC := EC.seq b19_0 r19_1
def e19 : EFun := EFun.mk 26 [ERes.t 4] r19_0
theorem c19 : cFun Tryd.prog 2 (fun _ => false) Tryd.f19 = some e19 := by kernel_rfl
theorem x19 : Tryd.prog.funcs[19]? = some Tryd.f19 := by kernel_rfl
theorem n19 : (Tryd.f19.name == "runtime.NumGoroutine") = false := by kernel_rfl
/-! 20: septumkit.OverBytes -/
def l20_0p0 : EC := EC.seq (EC.ops false [EOper.mk (some 12) (EOp.mv (Opd.t 3)) none, EOper.mk (some 13) (EOp.mv (Opd.t 2)) none, EOper.mk (some 14) (EOp.len false (Opd.t
  13)) none, EOper.mk (some 15) (EOp.bin .lss (Opd.t 12) (Opd.t 14)) none]) (EC.cond (Opd.t 15) EC.skip (EC.exit 0))
def l20_0m0 : List Bool := [false, false, false, false, false, false, false, false, false, false, false, false, true, true, true, true, false, false, false, false, false, false, false]
def l20_0p1 : EC := EC.block 1 (EC.ops false [EOper.mk (some 18) (EOp.mv (Opd.t 2)) none, EOper.mk (some 19) (EOp.mv (Opd.t 3)) none, EOper.mk (some 20) (EOp.mv (Opd.t 3))
  none, EOper.mk (some 21) (EOp.call (Opd.f 33) [Opd.c (V.int .i64 (2)), Opd.t 20]) none, EOper.mk (some 22) (EOp.ixs 1 (Opd.t 18) (Opd.t 19)) none, EOper.mk none (EOp.st
  1 (Opd.t 22) (Opd.t 21)) none])
def l20_0m1 : List Bool := [false, false, false, false, false, false, false, false, false, false, false, false, false, false, false, false, false, false, true, true, true, true, true]
def l20_0p2 : EC := EC.ops false [EOper.mk (some 16) (EOp.mv (Opd.t 3)) none, EOper.mk (some 17) (EOp.bin .add (Opd.t 16) (Opd.c (V.int .i64 (1)))) none, EOper.mk (some 3)
  (EOp.mv (Opd.t 17)) none]
def l20_0m2 : List Bool := [false, false, false, true, false, false, false, false, false, false, false, false, false, false, false, false, true, true, false, false, false, false, false]
def l20_0r2 : EC := l20_0p2
def l20_0r1 : EC := EC.seq l20_0p1 l20_0r2
def l20_0r0 : EC := EC.seq l20_0p0 l20_0r1
def l20_0 : EC := l20_0r0
def b20_0 : EC := EC.ops false [EOper.mk (some 4) (EOp.mv (Opd.t 0)) none, EOper.mk (some 5) (EOp.mv (Opd.t 0)) none, EOper.mk (some 6) (EOp.capo (Opd.t 5)) none, EOper.mk
  (some 7) (EOp.mv (Opd.t 0)) none, EOper.mk (some 8) (EOp.len false (Opd.t 7)) none, EOper.mk (some 9) (EOp.bin .add (Opd.t 8) (Opd.c (V.int .i64 (12)))) none, EOper.mk
  (some 10) (EOp.mm false (Opd.t 6) (Opd.t 9)) none, EOper.mk (some 11) (EOp.slc 1 (Opd.t 4) none (some (Opd.t 10))) none, EOper.mk (some 2) (EOp.mv (Opd.t 11)) none]
def m20_0 : List Bool := [false, false, true, false, true, true, true, true, true, true, true, true, false, false, false, false, false, false, false, false, false, false, false]
def b20_1 : EC := EC.ops false [EOper.mk (some 3) (EOp.mv (Opd.c (V.int .i64 (0)))) none]
def m20_1 : List Bool := [false, false, false, true, false, false, false, false, false, false, false, false, false, false, false, false, false, false, false, false, false, false, false]
def b20_2 : EC := EC.block 0 (EC.loop l20_0)
def m20_2 : List Bool := [false, false, false, true, false, false, false, false, false, false, false, false, true, true, true, true, true, true, true, true, true, true, true]
def r20_2 : EC := b20_2
def r20_1 : EC := EC.seq b20_1 r20_2
def r20_0 : EC := EC.seq b20_0 r20_1
def e20 : EFun := EFun.mk 23 [] r20_0
theorem c20 : cFun Tryd.prog 2 (fun _ => false) Tryd.f20 = some e20 := by kernel_rfl
theorem x20 : Tryd.prog.funcs[20]? = some Tryd.f20 := by kernel_rfl
theorem n20 : (Tryd.f20.name == "runtime.NumGoroutine") = false := by kernel_rfl
/-! 21: word.Size -/
def b21_0 : EC := EC.ops false [EOper.mk (some 2) (EOp.mv (Opd.c (V.bool false))) none]
def m21_0 : List Bool := [false, false, true, false, false, false]
def b21_1 : EC := EC.ops false [EOper.mk (some 3) (EOp.slca 3 1 (Opd.g 0) none none) none, EOper.mk (some 4) (EOp.mv (Opd.t 0)) none, EOper.mk (some 5) (EOp.call (Opd.f
  34) [Opd.t 3, Opd.t 4]) none, EOper.mk (some 2) (EOp.mv (Opd.t 5)) none]
def m21_1 : List Bool := [false, false, true, true, true, true]
def b21_2 : EC := EC.ret
def m21_2 : List Bool := [false, false, false, false, false, false]
def r21_2 : EC := b21_2
def r21_1 : EC := EC.seq b21_1 r21_2
def r21_0 : EC := EC.seq b21_0 r21_1
def e21 : EFun := EFun.mk 6 [ERes.t 2] r21_0
theorem c21 : cFun Tryd.prog 2 (fun _ => false) Tryd.f21 = some e21 := by kernel_rfl
theorem x21 : Tryd.prog.funcs[21]? = some Tryd.f21 := by kernel_rfl
theorem n21 : (Tryd.f21.name == "runtime.NumGoroutine") = false := by kernel_rfl
/-! 22: word.Bytes -/
def l22_0p0 : EC := EC.ops false [EOper.mk (some 11) (EOp.bin .lss (Opd.t 10) (Opd.t 9)) none]
def l22_0m0 : List Bool := [false, false, false, false, false, false, false, false, false, false, false, true, false, false, false, false, false, false, false, false, false, false, false]
def l22_0p1 : EC := EC.cond (Opd.t 11) EC.skip (EC.exit 0)
def l22_0m1 : List Bool := [false, false, false, false, false, false, false, false, false, false, false, false, false, false, false, false, false, false, false, false, false, false, false]
def l22_0p2 : EC := EC.block 1 (EC.seq (EC.ops false [EOper.mk (some 12) (EOp.mv (Opd.t 10)) none, EOper.mk (some 5) (EOp.mv (Opd.t 12)) none]) (EC.ops false [EOper.mk
  (some 13) (EOp.mv (Opd.t 4)) none, EOper.mk (some 14) (EOp.mv (Opd.t 0)) none, EOper.mk (some 15) (EOp.mv (Opd.t 5)) none, EOper.mk (some 16) (EOp.bin .mul (Opd.c (V.int
  .i64 (8))) (Opd.t 15)) none, EOper.mk (some 17) (EOp.bin .shr (Opd.t 14) (Opd.t 16)) none, EOper.mk (some 18) (EOp.conv .u8 (Opd.t 17)) none, EOper.mk (some 19)
  (EOp.bslice 5 1 [V.int .u8 (0)] [(0, 1, Opd.t 18)]) none, EOper.mk (some 20) (EOp.app 5 1 1 [V.int .u8 (0)] (Opd.t 13) (Opd.t 19)) none, EOper.mk (some 4) (EOp.mv (Opd.t
  20)) none]))
def l22_0m2 : List Bool := [false, false, false, false, true, true, false, false, false, false, false, false, true, true, true, true, true, true, true, true, true, false, false]
def l22_0p3 : EC := EC.ops false [EOper.mk (some 21) (EOp.bin .add (Opd.t 10) (Opd.c (V.int .i64 (1)))) none, EOper.mk (some 10) (EOp.mv (Opd.t 21)) none]
def l22_0m3 : List Bool := [false, false, false, false, false, false, false, false, false, false, true, false, false, false, false, false, false, false, false, false, false, true, false]
def l22_0r3 : EC := l22_0p3
def l22_0r2 : EC := EC.seq l22_0p2 l22_0r3
def l22_0r1 : EC := EC.seq l22_0p1 l22_0r2
def l22_0r0 : EC := EC.seq l22_0p0 l22_0r1
def l22_0 : EC := l22_0r0
def b22_0 : EC := EC.ops false [EOper.mk (some 4) (EOp.mv (Opd.c (V.sl none 0 0))) none]
def m22_0 : List Bool := [false, false, false, false, true, false, false, false, false, false, false, false, false, false, false, false, false, false, false, false, false, false, false]
def b22_1 : EC := EC.seq (EC.ops false [EOper.mk (some 6) (EOp.mv (Opd.t 1)) none, EOper.mk (some 7) (EOp.call (Opd.f 21) [Opd.t 6]) none, EOper.mk (some 8) (EOp.un .not
  (Opd.t 7)) none]) (EC.cond (Opd.t 8) (EC.seq (EC.ops false [EOper.mk (some 4) (EOp.mv (Opd.c (V.sl none 0 0))) none]) EC.ret) EC.skip)
def m22_1 : List Bool := [false, false, false, false, true, false, true, true, true, false, false, false, false, false, false, false, false, false, false, false, false, false, false]
def b22_2 : EC := EC.seq (EC.ops false [EOper.mk (some 9) (EOp.mv (Opd.t 1)) none, EOper.mk (some 10) (EOp.mv (Opd.c (V.int .i64 (0)))) none]) (EC.block 0 (EC.loop l22_0))
def m22_2 : List Bool := [false, false, false, false, true, true, false, false, false, true, true, true, true, true, true, true, true, true, true, true, true, true, false]
def b22_3 : EC := EC.ops false [EOper.mk (some 22) (EOp.mv (Opd.t 4)) none, EOper.mk (some 4) (EOp.mv (Opd.t 22)) none]
def m22_3 : List Bool := [false, false, false, false, true, false, false, false, false, false, false, false, false, false, false, false, false, false, false, false, false, false, true]
def b22_4 : EC := EC.ret
def m22_4 : List Bool := [false, false, false, false, false, false, false, false, false, false, false, false, false, false, false, false, false, false, false, false, false, false, false]
def r22_4 : EC := b22_4
def r22_3 : EC := EC.seq b22_3 r22_4
def r22_2 : EC := EC.seq b22_2 r22_3
def r22_1 : EC := EC.seq b22_1 r22_2
def r22_0 : EC := EC.seq b22_0 r22_1
def e22 : EFun := EFun.mk 23 [ERes.t 4] r22_0
theorem c22 : cFun Tryd.prog 2 (fun _ => false) Tryd.f22 = some e22 := by kernel_rfl
theorem x22 : Tryd.prog.funcs[22]? = some Tryd.f22 := by kernel_rfl
theorem n22 : (Tryd.f22.name == "runtime.NumGoroutine") = false := by kernel_rfl
/-! 24: ram.Ram.there -/
def b24_0 : EC := EC.ops false [EOper.mk (some 6) (EOp.mv (Opd.c (V.bool false))) none]
def m24_0 : List Bool := [false, false, false, false, false, false, true, false, false, false, false, false, false, false, false, false, false]
def b24_1 : EC := EC.ops false [EOper.mk (some 7) (EOp.mv (Opd.t 0)) none, EOper.mk (some 8) (EOp.eqp true (Opd.t 7) (Opd.c (V.ptr none))) none, EOper.mk (some 9) (EOp.mv
  (Opd.t 8)) none, EOper.mk (some 10) (EOp.mv (Opd.t 0)) (some (9, true)), EOper.mk (some 11) (EOp.nck (Opd.t 10)) (some (9, true)), EOper.mk (some 12) (EOp.fa 0 (Opd.t
  11)) (some (9, true)), EOper.mk (some 13) (EOp.mv (Opd.t 1)) (some (9, true)), EOper.mk (some 14) (EOp.mv (Opd.t 2)) (some (9, true)), EOper.mk (some 15) (EOp.call
  (Opd.f 36) [Opd.t 12, Opd.t 13, Opd.t 14]) (some (9, true)), EOper.mk (some 16) (EOp.pick (Opd.t 9) (Opd.t 15) (Opd.c (V.bool false))) none, EOper.mk (some 6) (EOp.mv
  (Opd.t 16)) none]
def m24_1 : List Bool := [false, false, false, false, false, false, true, true, true, true, true, true, true, true, true, true, true]
def b24_2 : EC := EC.ret
def m24_2 : List Bool := [false, false, false, false, false, false, false, false, false, false, false, false, false, false, false, false, false]
def r24_2 : EC := b24_2
def r24_1 : EC := EC.seq b24_1 r24_2
def r24_0 : EC := EC.seq b24_0 r24_1
def e24 : EFun := EFun.mk 17 [ERes.t 6] r24_0
theorem c24 : cFun Tryd.prog 2 (fun _ => false) Tryd.f24 = some e24 := by kernel_rfl
theorem x24 : Tryd.prog.funcs[24]? = some Tryd.f24 := by kernel_rfl
theorem n24 : (Tryd.f24.name == "runtime.NumGoroutine") = false := by kernel_rfl
/-! 25: ram.words.turn -/
def e25 : EFun := EFun.mk 23 [] (EC.opsT [EOper.mk (some 6) (EOp.mv (Opd.t 0)) none, EOper.mk (some 7) (EOp.nck (Opd.t 6)) none, EOper.mk (some 8) (EOp.fa 0 (Opd.t 7))
  none, EOper.mk (some 9) (EOp.ld false 1 (Opd.t 8)) none, EOper.mk (some 10) (EOp.mv (Opd.t 1)) none, EOper.mk (some 11) (EOp.bin .quo (Opd.t 10) (Opd.c (V.int .i64
  (4)))) none, EOper.mk (some 12) (EOp.mv (Opd.t 2)) none, EOper.mk (some 13) (EOp.mv (Opd.t 0)) none, EOper.mk (some 14) (EOp.nck (Opd.t 13)) none, EOper.mk (some 15)
  (EOp.fa 0 (Opd.t 14)) none, EOper.mk (some 16) (EOp.ld false 1 (Opd.t 15)) none, EOper.mk (some 17) (EOp.mv (Opd.t 1)) none, EOper.mk (some 18) (EOp.bin .quo (Opd.t 17)
  (Opd.c (V.int .i64 (4)))) none, EOper.mk (some 19) (EOp.ixs 1 (Opd.t 16) (Opd.t 18)) none, EOper.mk (some 20) (EOp.ld false 1 (Opd.t 19)) none, EOper.mk (some 21)
  (EOp.call (Opd.t 12) [Opd.t 20]) none, EOper.mk (some 22) (EOp.ixs 1 (Opd.t 9) (Opd.t 11)) none] [] [EOper.mk none (EOp.st 1 (Opd.t 22) (Opd.t 21)) none])
theorem c25 : cFun Tryd.prog 2 (fun _ => false) Tryd.f25 = some e25 := by kernel_rfl
theorem x25 : Tryd.prog.funcs[25]? = some Tryd.f25 := by kernel_rfl
theorem n25 : (Tryd.f25.name == "runtime.NumGoroutine") = false := by kernel_rfl
/-! 26: ram.Ram.Write$1 -/
def b26_0 : EC := EC.ops false [EOper.mk (some 5) (EOp.mv (Opd.c (V.int .u32 (0)))) none]
def m26_0 : List Bool := [false, false, false, false, false, true, false, false, false, false, false, false, false, false, false, false]
def b26_1 : EC := EC.ops false [EOper.mk (some 7) (EOp.mv (Opd.t 0)) none, EOper.mk (some 8) (EOp.ld false 1 (Opd.t 1)) none, EOper.mk (some 9) (EOp.conv .u32 (Opd.t 8))
  none, EOper.mk (some 10) (EOp.ld false 1 (Opd.t 2)) none, EOper.mk (some 11) (EOp.ld false 1 (Opd.t 3)) none, EOper.mk (some 12) (EOp.call (Opd.f 27) [Opd.t 7, Opd.t 9,
  Opd.t 10, Opd.t 11]) none, EOper.mk (some 6) (EOp.mv (Opd.t 12)) none, EOper.mk (some 13) (EOp.ext (Opd.t 6) 0) none, EOper.mk (some 14) (EOp.ext (Opd.t 6) 1) none,
  EOper.mk (some 0) (EOp.mv (Opd.t 13)) none]
def m26_1 : List Bool := [true, false, false, false, false, false, true, true, true, true, true, true, true, true, true, false]
def b26_2 : EC := EC.ops false [EOper.mk (some 15) (EOp.mv (Opd.t 0)) none, EOper.mk (some 5) (EOp.mv (Opd.t 15)) none]
def m26_2 : List Bool := [false, false, false, false, false, true, false, false, false, false, false, false, false, false, false, true]
def b26_3 : EC := EC.ret
def m26_3 : List Bool := [false, false, false, false, false, false, false, false, false, false, false, false, false, false, false, false]
def r26_3 : EC := b26_3
def r26_2 : EC := EC.seq b26_2 r26_3
def r26_1 : EC := EC.seq b26_1 r26_2
def r26_0 : EC := EC.seq b26_0 r26_1
def e26 : EFun := EFun.mk 16 [ERes.t 5] r26_0
theorem c26 : cFun Tryd.prog 2 (fun _ => false) Tryd.f26 = some e26 := by kernel_rfl
theorem x26 : Tryd.prog.funcs[26]? = some Tryd.f26 := by kernel_rfl
theorem n26 : (Tryd.f26.name == "runtime.NumGoroutine") = false := by kernel_rfl
/-! 27: lane.Put -/
def b27_0 : EC := EC.ops false [EOper.mk (some 4) (EOp.box false 23 (Opd.t 0)) none, EOper.mk (some 7) (EOp.box false 23 (Opd.t 3)) none, EOper.mk (some 8) (EOp.mv (Opd.c
  (V.int .u32 (0)))) none, EOper.mk (some 9) (EOp.mv (Opd.c (V.bool false))) none]
def m27_0 : List Bool := [false, false, false, false, true, false, false, true, true, true, false, false, false, false, false, false, false, false, false, false]
def b27_1 : EC := EC.ops false [EOper.mk (some 11) (EOp.mv (Opd.t 1)) none, EOper.mk (some 12) (EOp.build [V.int .u32 (0)] [(0, 1, Opd.t 11)]) none, EOper.mk (some 13)
  (EOp.mv (Opd.t 2)) none, EOper.mk (some 14) (EOp.build [V.int .u32 (0), V.int .i64 (0)] [(0, 1, Opd.t 12), (1, 1, Opd.t 13)]) none, EOper.mk (some 10) (EOp.alloc false
  77 [V.int .u32 (0), V.int .i64 (0)]) none, EOper.mk none (EOp.st 2 (Opd.t 10) (Opd.t 14)) none]
def m27_1 : List Bool := [false, false, false, false, false, false, false, false, false, false, true, true, true, true, true, false, false, false, false, false]
def b27_2 : EC := EC.ops false [EOper.mk (some 15) (EOp.ld true 2 (Opd.t 10)) none, EOper.mk (some 16) (EOp.mkfn 38 [] [Opd.t 10, Opd.t 4, Opd.t 7]) none, EOper.mk (some
  17) (EOp.call (Opd.f 37) [Opd.t 15, Opd.t 16]) none, EOper.mk (some 18) (EOp.ext (Opd.t 17) 0) none, EOper.mk (some 19) (EOp.ext (Opd.t 17) 1) none, EOper.mk (some 8)
  (EOp.mv (Opd.t 18)) none, EOper.mk (some 9) (EOp.mv (Opd.t 19)) none]
def m27_2 : List Bool := [false, false, false, false, false, false, false, false, true, true, false, false, false, false, false, true, true, true, true, true]
def b27_3 : EC := EC.ret
def m27_3 : List Bool := [false, false, false, false, false, false, false, false, false, false, false, false, false, false, false, false, false, false, false, false]
def r27_3 : EC := b27_3
def r27_2 : EC := EC.seq b27_2 r27_3
def r27_1 : EC := EC.seq b27_1 r27_2
def r27_0 : EC := EC.seq b27_0 r27_1
def e27 : EFun := EFun.mk 20 [ERes.t 8, ERes.t 9] r27_0
theorem c27 : cFun Tryd.prog 2 (fun d => d == 4 || d == 7 || d == 10) Tryd.f27 = some e27 := by kernel_rfl
theorem x27 : Tryd.prog.funcs[27]? = some Tryd.f27 := by kernel_rfl
theorem n27 : (Tryd.f27.name == "runtime.NumGoroutine") = false := by kernel_rfl
/-! 28: lane.Take -/
def b28_0 : EC := EC.ops false [EOper.mk (some 3) (EOp.box false 23 (Opd.t 0)) none, EOper.mk (some 6) (EOp.mv (Opd.c (V.int .u32 (0)))) none, EOper.mk (some 7) (EOp.mv
  (Opd.c (V.bool false))) none]
def m28_0 : List Bool := [false, false, false, true, false, false, true, true, false, false, false, false, false, false, false, false, false, false]
def b28_1 : EC := EC.ops false [EOper.mk (some 9) (EOp.mv (Opd.t 1)) none, EOper.mk (some 10) (EOp.build [V.int .u32 (0)] [(0, 1, Opd.t 9)]) none, EOper.mk (some 11)
  (EOp.mv (Opd.t 2)) none, EOper.mk (some 12) (EOp.build [V.int .u32 (0), V.int .i64 (0)] [(0, 1, Opd.t 10), (1, 1, Opd.t 11)]) none, EOper.mk (some 8) (EOp.alloc false 77
  [V.int .u32 (0), V.int .i64 (0)]) none, EOper.mk none (EOp.st 2 (Opd.t 8) (Opd.t 12)) none]
def m28_1 : List Bool := [false, false, false, false, false, false, false, false, true, true, true, true, true, false, false, false, false, false]
def b28_2 : EC := EC.ops false [EOper.mk (some 13) (EOp.ld true 2 (Opd.t 8)) none, EOper.mk (some 14) (EOp.mkfn 40 [] [Opd.t 8, Opd.t 3]) none, EOper.mk (some 15)
  (EOp.call (Opd.f 37) [Opd.t 13, Opd.t 14]) none, EOper.mk (some 16) (EOp.ext (Opd.t 15) 0) none, EOper.mk (some 17) (EOp.ext (Opd.t 15) 1) none, EOper.mk (some 6)
  (EOp.mv (Opd.t 16)) none, EOper.mk (some 7) (EOp.mv (Opd.t 17)) none]
def m28_2 : List Bool := [false, false, false, false, false, false, true, true, false, false, false, false, false, true, true, true, true, true]
def b28_3 : EC := EC.ret
def m28_3 : List Bool := [false, false, false, false, false, false, false, false, false, false, false, false, false, false, false, false, false, false]
def r28_3 : EC := b28_3
def r28_2 : EC := EC.seq b28_2 r28_3
def r28_1 : EC := EC.seq b28_1 r28_2
def r28_0 : EC := EC.seq b28_0 r28_1
def e28 : EFun := EFun.mk 18 [ERes.t 6, ERes.t 7] r28_0
theorem c28 : cFun Tryd.prog 2 (fun d => d == 3 || d == 8) Tryd.f28 = some e28 := by kernel_rfl
theorem x28 : Tryd.prog.funcs[28]? = some Tryd.f28 := by kernel_rfl
theorem n28 : (Tryd.f28.name == "runtime.NumGoroutine") = false := by kernel_rfl
/-! 29: septumref09.Ram.Read -/
def b29_0 : EC := EC.ops false [EOper.mk (some 6) (EOp.mv (Opd.c (V.int .u32 (0)))) none, EOper.mk (some 7) (EOp.mv (Opd.c (V.bool false))) none]
def m29_0 : List Bool := [false, false, false, false, false, false, true, true, false, false, false, false, false, false, false, false, false, false, false, false, false, false, false, false, false, false, false, false, false]
def b29_1 : EC := EC.seq (EC.ops false [EOper.mk (some 10) (EOp.mv (Opd.t 0)) none, EOper.mk (some 11) (EOp.mv (Opd.t 1)) none, EOper.mk (some 12) (EOp.mv (Opd.t 2)) none,
  EOper.mk (some 13) (EOp.call (Opd.f 30) [Opd.t 10, Opd.t 11, Opd.t 12]) none, EOper.mk (some 14) (EOp.un .not (Opd.t 13)) none]) (EC.cond (Opd.t 14) (EC.seq (EC.ops
  false [EOper.mk (some 6) (EOp.mv (Opd.c (V.int .u32 (0)))) none, EOper.mk (some 7) (EOp.mv (Opd.c (V.bool false))) none]) EC.ret) EC.skip)
def m29_1 : List Bool := [false, false, false, false, false, false, true, true, false, false, true, true, true, true, true, false, false, false, false, false, false, false, false, false, false, false, false, false, false]
def b29_2 : EC := EC.ops false [EOper.mk (some 16) (EOp.mv (Opd.t 0)) none, EOper.mk (some 17) (EOp.nck (Opd.t 16)) none, EOper.mk (some 18) (EOp.fa 0 (Opd.t 17)) none,
  EOper.mk (some 19) (EOp.ld false 1 (Opd.t 18)) none, EOper.mk (some 20) (EOp.mv (Opd.t 1)) none, EOper.mk (some 21) (EOp.mv (Opd.t 1)) none, EOper.mk (some 22) (EOp.mv
  (Opd.t 2)) none, EOper.mk (some 23) (EOp.bin .add (Opd.t 21) (Opd.t 22)) none, EOper.mk (some 24) (EOp.slc 1 (Opd.t 19) (some (Opd.t 20)) (some (Opd.t 23))) none,
  EOper.mk (some 25) (EOp.call (Opd.f 42) [Opd.t 24]) none, EOper.mk (some 15) (EOp.mv (Opd.t 25)) none, EOper.mk (some 26) (EOp.ext (Opd.t 15) 0) none, EOper.mk (some 27)
  (EOp.ext (Opd.t 15) 1) none, EOper.mk (some 8) (EOp.mv (Opd.t 26)) none, EOper.mk (some 9) (EOp.mv (Opd.t 27)) none]
def m29_2 : List Bool := [false, false, false, false, false, false, false, false, true, true, false, false, false, false, false, true, true, true, true, true, true, true, true, true, true, true, true, true, false]
def b29_3 : EC := EC.ops false [EOper.mk (some 28) (EOp.mv (Opd.t 8)) none, EOper.mk (some 6) (EOp.mv (Opd.t 28)) none, EOper.mk (some 7) (EOp.mv (Opd.c (V.bool true)))
  none]
def m29_3 : List Bool := [false, false, false, false, false, false, true, true, false, false, false, false, false, false, false, false, false, false, false, false, false, false, false, false, false, false, false, false, true]
def b29_4 : EC := EC.ret
def m29_4 : List Bool := [false, false, false, false, false, false, false, false, false, false, false, false, false, false, false, false, false, false, false, false, false, false, false, false, false, false, false, false, false]
def r29_4 : EC := b29_4
def r29_3 : EC := EC.seq b29_3 r29_4
def r29_2 : EC := EC.seq b29_2 r29_3
def r29_1 : EC := EC.seq b29_1 r29_2
def r29_0 : EC := EC.seq b29_0 r29_1
def e29 : EFun := EFun.mk 29 [ERes.t 6, ERes.t 7] r29_0
theorem c29 : cFun Tryd.prog 2 (fun _ => false) Tryd.f29 = some e29 := by kernel_rfl
theorem x29 : Tryd.prog.funcs[29]? = some Tryd.f29 := by kernel_rfl
theorem n29 : (Tryd.f29.name == "runtime.NumGoroutine") = false := by kernel_rfl
/-! 30: septumref09.Ram.place -/
def b30_0 : EC := EC.ops false [EOper.mk (some 6) (EOp.mv (Opd.c (V.bool false))) none]
def m30_0 : List Bool := [false, false, false, false, false, false, true, false, false, false, false, false, false, false, false, false, false, false, false, false, false, false, false, false, false, false, false, false]
def b30_1 : EC := EC.ops false [EOper.mk (some 7) (EOp.mv (Opd.t 2)) none, EOper.mk (some 8) (EOp.call (Opd.f 43) [Opd.t 7]) none, EOper.mk (some 9) (EOp.mv (Opd.t 8))
  none, EOper.mk (some 10) (EOp.mv (Opd.t 1)) (some (9, true)), EOper.mk (some 11) (EOp.bin .geq (Opd.t 10) (Opd.c (V.int .i64 (0)))) (some (9, true)), EOper.mk (some 12)
  (EOp.pick (Opd.t 9) (Opd.t 11) (Opd.c (V.bool false))) none, EOper.mk (some 13) (EOp.mv (Opd.t 12)) none, EOper.mk (some 14) (EOp.mv (Opd.t 1)) (some (13, true)),
  EOper.mk (some 15) (EOp.mv (Opd.t 0)) (some (13, true)), EOper.mk (some 16) (EOp.nck (Opd.t 15)) (some (13, true)), EOper.mk (some 17) (EOp.fa 0 (Opd.t 16)) (some (13,
  true)), EOper.mk (some 18) (EOp.ld false 1 (Opd.t 17)) (some (13, true)), EOper.mk (some 19) (EOp.len false (Opd.t 18)) (some (13, true)), EOper.mk (some 20) (EOp.bin
  .lss (Opd.t 14) (Opd.t 19)) (some (13, true)), EOper.mk (some 21) (EOp.pick (Opd.t 13) (Opd.t 20) (Opd.c (V.bool false))) none, EOper.mk (some 22) (EOp.mv (Opd.t 21))
  none, EOper.mk (some 23) (EOp.mv (Opd.t 1)) (some (22, true)), EOper.mk (some 24) (EOp.mv (Opd.t 2)) (some (22, true)), EOper.mk (some 25) (EOp.bin .rem (Opd.t 23)
  (Opd.t 24)) (some (22, true)), EOper.mk (some 26) (EOp.bin .eql (Opd.t 25) (Opd.c (V.int .i64 (0)))) (some (22, true)), EOper.mk (some 27) (EOp.pick (Opd.t 22) (Opd.t
  26) (Opd.c (V.bool false))) none, EOper.mk (some 6) (EOp.mv (Opd.t 27)) none]
def m30_1 : List Bool := [false, false, false, false, false, false, true, true, true, true, true, true, true, true, true, true, true, true, true, true, true, true, true, true, true, true, true, true]
def b30_2 : EC := EC.ret
def m30_2 : List Bool := [false, false, false, false, false, false, false, false, false, false, false, false, false, false, false, false, false, false, false, false, false, false, false, false, false, false, false, false]
def r30_2 : EC := b30_2
def r30_1 : EC := EC.seq b30_1 r30_2
def r30_0 : EC := EC.seq b30_0 r30_1
def e30 : EFun := EFun.mk 28 [ERes.t 6] r30_0
theorem c30 : cFun Tryd.prog 2 (fun _ => false) Tryd.f30 = some e30 := by kernel_rfl
theorem x30 : Tryd.prog.funcs[30]? = some Tryd.f30 := by kernel_rfl
theorem n30 : (Tryd.f30.name == "runtime.NumGoroutine") = false := by kernel_rfl
/-! 31: septumref01.Bytes -/
def l31_0p0 : EC := EC.seq (EC.ops false [EOper.mk (some 7) (EOp.mv (Opd.t 6)) none, EOper.mk (some 8) (EOp.mv (Opd.t 1)) none, EOper.mk (some 9) (EOp.bin .lss (Opd.t 7)
  (Opd.t 8)) none, EOper.mk (some 10) (EOp.mv (Opd.t 9)) none, EOper.mk (some 11) (EOp.mv (Opd.t 1)) (some (10, true)), EOper.mk (some 12) (EOp.call (Opd.f 43) [Opd.t 11])
  (some (10, true)), EOper.mk (some 13) (EOp.pick (Opd.t 10) (Opd.t 12) (Opd.c (V.bool false))) none]) (EC.cond (Opd.t 13) EC.skip (EC.exit 0))
def l31_0m0 : List Bool := [false, false, false, false, false, false, false, true, true, true, true, true, true, true, false, false, false, false, false, false, false, false, false, false, false]
def l31_0p1 : EC := EC.block 1 (EC.seq (EC.ops false [EOper.mk (some 16) (EOp.mv (Opd.t 5)) none, EOper.mk (some 17) (EOp.mv (Opd.t 0)) none, EOper.mk (some 18) (EOp.bin
  .rem (Opd.t 17) (Opd.c (V.int .u32 (256)))) none, EOper.mk (some 19) (EOp.conv .u8 (Opd.t 18)) none, EOper.mk (some 20) (EOp.bslice 5 1 [V.int .u8 (0)] [(0, 1, Opd.t
  19)]) none, EOper.mk (some 21) (EOp.app 5 1 1 [V.int .u8 (0)] (Opd.t 16) (Opd.t 20)) none, EOper.mk (some 5) (EOp.mv (Opd.t 21)) none]) (EC.ops false [EOper.mk (some 22)
  (EOp.mv (Opd.t 0)) none, EOper.mk (some 23) (EOp.bin .quo (Opd.t 22) (Opd.c (V.int .u32 (256)))) none, EOper.mk (some 0) (EOp.mv (Opd.t 23)) none]))
def l31_0m1 : List Bool := [true, false, false, false, false, true, false, false, false, false, false, false, false, false, false, false, true, true, true, true, true, true, true, true, false]
def l31_0p2 : EC := EC.ops false [EOper.mk (some 14) (EOp.mv (Opd.t 6)) none, EOper.mk (some 15) (EOp.bin .add (Opd.t 14) (Opd.c (V.int .i64 (1)))) none, EOper.mk (some 6)
  (EOp.mv (Opd.t 15)) none]
def l31_0m2 : List Bool := [false, false, false, false, false, false, true, false, false, false, false, false, false, false, true, true, false, false, false, false, false, false, false, false, false]
def l31_0r2 : EC := l31_0p2
def l31_0r1 : EC := EC.seq l31_0p1 l31_0r2
def l31_0r0 : EC := EC.seq l31_0p0 l31_0r1
def l31_0 : EC := l31_0r0
def b31_0 : EC := EC.ops false [EOper.mk (some 4) (EOp.mv (Opd.c (V.sl none 0 0))) none]
def m31_0 : List Bool := [false, false, false, false, true, false, false, false, false, false, false, false, false, false, false, false, false, false, false, false, false, false, false, false, false]
def b31_1 : EC := EC.ops false [EOper.mk (some 5) (EOp.mv (Opd.c (V.sl none 0 0))) none]
def m31_1 : List Bool := [false, false, false, false, false, true, false, false, false, false, false, false, false, false, false, false, false, false, false, false, false, false, false, false, false]
def b31_2 : EC := EC.seq (EC.ops false [EOper.mk (some 6) (EOp.mv (Opd.c (V.int .i64 (0)))) none]) (EC.block 0 (EC.loop l31_0))
def m31_2 : List Bool := [true, false, false, false, false, true, true, true, true, true, true, true, true, true, true, true, true, true, true, true, true, true, true, true, false]
def b31_3 : EC := EC.ops false [EOper.mk (some 24) (EOp.mv (Opd.t 5)) none, EOper.mk (some 4) (EOp.mv (Opd.t 24)) none]
def m31_3 : List Bool := [false, false, false, false, true, false, false, false, false, false, false, false, false, false, false, false, false, false, false, false, false, false, false, false, true]
def b31_4 : EC := EC.ret
def m31_4 : List Bool := [false, false, false, false, false, false, false, false, false, false, false, false, false, false, false, false, false, false, false, false, false, false, false, false, false]
def r31_4 : EC := b31_4
def r31_3 : EC := EC.seq b31_3 r31_4
def r31_2 : EC := EC.seq b31_2 r31_3
def r31_1 : EC := EC.seq b31_1 r31_2
def r31_0 : EC := EC.seq b31_0 r31_1
def e31 : EFun := EFun.mk 25 [ERes.t 4] r31_0
theorem c31 : cFun Tryd.prog 2 (fun _ => false) Tryd.f31 = some e31 := by kernel_rfl
theorem x31 : Tryd.prog.funcs[31]? = some Tryd.f31 := by kernel_rfl
theorem n31 : (Tryd.f31.name == "runtime.NumGoroutine") = false := by kernel_rfl
/-! 32: ram.bytes -/
def l32_0p0 : EC := EC.seq (EC.ops false [EOper.mk (some 8) (EOp.mv (Opd.t 5)) none, EOper.mk (some 9) (EOp.mv (Opd.t 0)) none, EOper.mk (some 10) (EOp.bin .lss (Opd.t 8)
  (Opd.t 9)) none]) (EC.cond (Opd.t 10) EC.skip (EC.exit 0))
def l32_0m0 : List Bool := [false, false, false, false, false, false, false, false, true, true, true, false, false, false, false, false, false, false, false, false, false, false, false, false]
def l32_0p1 : EC := EC.block 1 (EC.seq (EC.ops false [EOper.mk (some 14) (EOp.mv (Opd.t 1)) none, EOper.mk (some 15) (EOp.mv (Opd.t 5)) none, EOper.mk (some 16) (EOp.call
  (Opd.t 14) [Opd.t 15, Opd.c (V.int .i64 (4))]) none, EOper.mk (some 13) (EOp.mv (Opd.t 16)) none, EOper.mk (some 17) (EOp.ext (Opd.t 13) 0) none, EOper.mk (some 18)
  (EOp.ext (Opd.t 13) 1) none, EOper.mk (some 6) (EOp.mv (Opd.t 17)) none, EOper.mk (some 7) (EOp.mv (Opd.t 18)) none]) (EC.ops false [EOper.mk (some 19) (EOp.mv (Opd.t
  4)) none, EOper.mk (some 20) (EOp.mv (Opd.t 6)) none, EOper.mk (some 21) (EOp.call (Opd.f 22) [Opd.t 20, Opd.c (V.int .i64 (4))]) none, EOper.mk (some 22) (EOp.app 5 1 1
  [V.int .u8 (0)] (Opd.t 19) (Opd.t 21)) none, EOper.mk (some 4) (EOp.mv (Opd.t 22)) none]))
def l32_0m1 : List Bool := [false, false, false, false, true, false, true, true, false, false, false, false, false, true, true, true, true, true, true, true, true, true, true, false]
def l32_0p2 : EC := EC.ops false [EOper.mk (some 11) (EOp.mv (Opd.t 5)) none, EOper.mk (some 12) (EOp.bin .add (Opd.t 11) (Opd.c (V.int .i64 (4)))) none, EOper.mk (some 5)
  (EOp.mv (Opd.t 12)) none]
def l32_0m2 : List Bool := [false, false, false, false, false, true, false, false, false, false, false, true, true, false, false, false, false, false, false, false, false, false, false, false]
def l32_0r2 : EC := l32_0p2
def l32_0r1 : EC := EC.seq l32_0p1 l32_0r2
def l32_0r0 : EC := EC.seq l32_0p0 l32_0r1
def l32_0 : EC := l32_0r0
def b32_0 : EC := EC.ops false [EOper.mk (some 4) (EOp.mv (Opd.c (V.sl none 0 0))) none]
def m32_0 : List Bool := [false, false, false, false, true, false, false, false, false, false, false, false, false, false, false, false, false, false, false, false, false, false, false, false]
def b32_1 : EC := EC.seq (EC.ops false [EOper.mk (some 5) (EOp.mv (Opd.c (V.int .i64 (0)))) none]) (EC.block 0 (EC.loop l32_0))
def m32_1 : List Bool := [false, false, false, false, true, true, true, true, true, true, true, true, true, true, true, true, true, true, true, true, true, true, true, false]
def b32_2 : EC := EC.ops false [EOper.mk (some 23) (EOp.mv (Opd.t 4)) none, EOper.mk (some 4) (EOp.mv (Opd.t 23)) none]
def m32_2 : List Bool := [false, false, false, false, true, false, false, false, false, false, false, false, false, false, false, false, false, false, false, false, false, false, false, true]
def b32_3 : EC := EC.ret
def m32_3 : List Bool := [false, false, false, false, false, false, false, false, false, false, false, false, false, false, false, false, false, false, false, false, false, false, false, false]
def r32_3 : EC := b32_3
def r32_2 : EC := EC.seq b32_2 r32_3
def r32_1 : EC := EC.seq b32_1 r32_2
def r32_0 : EC := EC.seq b32_0 r32_1
def e32 : EFun := EFun.mk 24 [ERes.t 4] r32_0
theorem c32 : cFun Tryd.prog 2 (fun _ => false) Tryd.f32 = some e32 := by kernel_rfl
theorem x32 : Tryd.prog.funcs[32]? = some Tryd.f32 := by kernel_rfl
theorem n32 : (Tryd.f32.name == "runtime.NumGoroutine") = false := by kernel_rfl
/-! 33: septumkit.markByte -/
def b33_0 : EC := EC.ops false [EOper.mk (some 4) (EOp.mv (Opd.c (V.int .u8 (0)))) none]
def m33_0 : List Bool := [false, false, false, false, true, false, false, false, false, false, false, false]
def b33_1 : EC := EC.ops false [EOper.mk (some 5) (EOp.mv (Opd.t 0)) none, EOper.mk (some 6) (EOp.mv (Opd.t 1)) none, EOper.mk (some 7) (EOp.call (Opd.f 44) [Opd.t 5,
  Opd.t 6]) none, EOper.mk (some 8) (EOp.conv .u64 (Opd.t 7)) none, EOper.mk (some 9) (EOp.bin .mul (Opd.t 8) (Opd.c (V.int .u64 (11400714819323198485)))) none, EOper.mk
  (some 10) (EOp.bin .shr (Opd.t 9) (Opd.c (V.int .u64 (56)))) none, EOper.mk (some 11) (EOp.conv .u8 (Opd.t 10)) none, EOper.mk (some 4) (EOp.mv (Opd.t 11)) none]
def m33_1 : List Bool := [false, false, false, false, true, true, true, true, true, true, true, true]
def b33_2 : EC := EC.ret
def m33_2 : List Bool := [false, false, false, false, false, false, false, false, false, false, false, false]
def r33_2 : EC := b33_2
def r33_1 : EC := EC.seq b33_1 r33_2
def r33_0 : EC := EC.seq b33_0 r33_1
def e33 : EFun := EFun.mk 12 [ERes.t 4] r33_0
theorem c33 : cFun Tryd.prog 2 (fun _ => false) Tryd.f33 = some e33 := by kernel_rfl
theorem x33 : Tryd.prog.funcs[33]? = some Tryd.f33 := by kernel_rfl
theorem n33 : (Tryd.f33.name == "runtime.NumGoroutine") = false := by kernel_rfl
/-! 34: slices.Contains:int -/
def b34_0 : EC := EC.ops false [EOper.mk (some 4) (EOp.mv (Opd.c (V.bool false))) none]
def m34_0 : List Bool := [false, false, false, false, true, false, false, false, false]
def b34_1 : EC := EC.ops false [EOper.mk (some 5) (EOp.mv (Opd.t 0)) none, EOper.mk (some 6) (EOp.mv (Opd.t 1)) none, EOper.mk (some 7) (EOp.call (Opd.f 45) [Opd.t 5,
  Opd.t 6]) none, EOper.mk (some 8) (EOp.bin .geq (Opd.t 7) (Opd.c (V.int .i64 (0)))) none, EOper.mk (some 4) (EOp.mv (Opd.t 8)) none]
def m34_1 : List Bool := [false, false, false, false, true, true, true, true, true]
def b34_2 : EC := EC.ret
def m34_2 : List Bool := [false, false, false, false, false, false, false, false, false]
def r34_2 : EC := b34_2
def r34_1 : EC := EC.seq b34_1 r34_2
def r34_0 : EC := EC.seq b34_0 r34_1
def e34 : EFun := EFun.mk 9 [ERes.t 4] r34_0
theorem c34 : cFun Tryd.prog 2 (fun _ => false) Tryd.f34 = some e34 := by kernel_rfl
theorem x34 : Tryd.prog.funcs[34]? = some Tryd.f34 := by kernel_rfl
theorem n34 : (Tryd.f34.name == "runtime.NumGoroutine") = false := by kernel_rfl
/-! 35: slices.Backward:byte -/
def b35_0 : EC := EC.ops false [EOper.mk (some 1) (EOp.box false 42 (Opd.t 0)) none, EOper.mk (some 2) (EOp.mv (Opd.c V.nilf)) none]
def m35_0 : List Bool := [false, true, true, false]
def b35_1 : EC := EC.ops false [EOper.mk (some 3) (EOp.mkfn 46 [] [Opd.t 1]) none, EOper.mk (some 2) (EOp.mv (Opd.t 3)) none]
def m35_1 : List Bool := [false, false, true, true]
def b35_2 : EC := EC.ret
def m35_2 : List Bool := [false, false, false, false]
def r35_2 : EC := b35_2
def r35_1 : EC := EC.seq b35_1 r35_2
def r35_0 : EC := EC.seq b35_0 r35_1
def e35 : EFun := EFun.mk 4 [ERes.t 2] r35_0
theorem c35 : cFun Tryd.prog 2 (fun d => d == 1) Tryd.f35 = some e35 := by kernel_rfl
theorem x35 : Tryd.prog.funcs[35]? = some Tryd.f35 := by kernel_rfl
theorem n35 : (Tryd.f35.name == "runtime.NumGoroutine") = false := by kernel_rfl
/-! 36: ram.words.has -/
def b36_0 : EC := EC.ops false [EOper.mk (some 6) (EOp.mv (Opd.c (V.bool false))) none]
def m36_0 : List Bool := [false, false, false, false, false, false, true, false, false, false, false, false, false, false, false, false, false, false, false, false, false, false, false, false, false]
def b36_1 : EC := EC.ops false [EOper.mk (some 7) (EOp.mv (Opd.t 1)) none, EOper.mk (some 8) (EOp.bin .geq (Opd.t 7) (Opd.c (V.int .i64 (0)))) none, EOper.mk (some 9)
  (EOp.mv (Opd.t 8)) none, EOper.mk (some 10) (EOp.mv (Opd.t 1)) (some (9, true)), EOper.mk (some 11) (EOp.mv (Opd.t 0)) (some (9, true)), EOper.mk (some 12) (EOp.nck
  (Opd.t 11)) (some (9, true)), EOper.mk (some 13) (EOp.fa 0 (Opd.t 12)) (some (9, true)), EOper.mk (some 14) (EOp.ld false 1 (Opd.t 13)) (some (9, true)), EOper.mk (some
  15) (EOp.len false (Opd.t 14)) (some (9, true)), EOper.mk (some 16) (EOp.bin .mul (Opd.c (V.int .i64 (4))) (Opd.t 15)) (some (9, true)), EOper.mk (some 17) (EOp.bin .lss
  (Opd.t 10) (Opd.t 16)) (some (9, true)), EOper.mk (some 18) (EOp.pick (Opd.t 9) (Opd.t 17) (Opd.c (V.bool false))) none, EOper.mk (some 19) (EOp.mv (Opd.t 18)) none,
  EOper.mk (some 20) (EOp.mv (Opd.t 1)) (some (19, true)), EOper.mk (some 21) (EOp.conv .u32 (Opd.t 20)) (some (19, true)), EOper.mk (some 22) (EOp.mv (Opd.t 2)) (some
  (19, true)), EOper.mk (some 23) (EOp.call (Opd.f 47) [Opd.t 21, Opd.t 22]) (some (19, true)), EOper.mk (some 24) (EOp.pick (Opd.t 19) (Opd.t 23) (Opd.c (V.bool false)))
  none, EOper.mk (some 6) (EOp.mv (Opd.t 24)) none]
def m36_1 : List Bool := [false, false, false, false, false, false, true, true, true, true, true, true, true, true, true, true, true, true, true, true, true, true, true, true, true]
def b36_2 : EC := EC.ret
def m36_2 : List Bool := [false, false, false, false, false, false, false, false, false, false, false, false, false, false, false, false, false, false, false, false, false, false, false, false, false]
def r36_2 : EC := b36_2
def r36_1 : EC := EC.seq b36_1 r36_2
def r36_0 : EC := EC.seq b36_0 r36_1
def e36 : EFun := EFun.mk 25 [ERes.t 6] r36_0
theorem c36 : cFun Tryd.prog 2 (fun _ => false) Tryd.f36 = some e36 := by kernel_rfl
theorem x36 : Tryd.prog.funcs[36]? = some Tryd.f36 := by kernel_rfl
theorem n36 : (Tryd.f36.name == "runtime.NumGoroutine") = false := by kernel_rfl
/-! 37: lane.place.told -/
def b37_0 : EC := EC.ops false [EOper.mk (some 2) (EOp.box true 77 (Opd.t 0)) none, EOper.mk (some 4) (EOp.mv (Opd.c (V.int .u32 (0)))) none, EOper.mk (some 5) (EOp.mv
  (Opd.c (V.bool false))) none]
def m37_0 : List Bool := [false, false, true, false, true, true, false, false, false, false, false]
def b37_1 : EC := EC.seq (EC.ops false [EOper.mk (some 6) (EOp.ld true 2 (Opd.t 2)) none, EOper.mk (some 7) (EOp.call (Opd.f 48) [Opd.t 6]) none, EOper.mk (some 8) (EOp.un
  .not (Opd.t 7)) none]) (EC.cond (Opd.t 8) (EC.seq (EC.ops false [EOper.mk (some 4) (EOp.mv (Opd.c (V.int .u32 (0)))) none, EOper.mk (some 5) (EOp.mv (Opd.c (V.bool
  false))) none]) EC.ret) EC.skip)
def m37_1 : List Bool := [false, false, false, false, true, true, true, true, true, false, false]
def b37_2 : EC := EC.ops false [EOper.mk (some 9) (EOp.mv (Opd.t 1)) none, EOper.mk (some 10) (EOp.call (Opd.t 9) []) none, EOper.mk (some 4) (EOp.mv (Opd.t 10)) none,
  EOper.mk (some 5) (EOp.mv (Opd.c (V.bool true))) none]
def m37_2 : List Bool := [false, false, false, false, true, true, false, false, false, true, true]
def b37_3 : EC := EC.ret
def m37_3 : List Bool := [false, false, false, false, false, false, false, false, false, false, false]
def r37_3 : EC := b37_3
def r37_2 : EC := EC.seq b37_2 r37_3
def r37_1 : EC := EC.seq b37_1 r37_2
def r37_0 : EC := EC.seq b37_0 r37_1
def e37 : EFun := EFun.mk 11 [ERes.t 4, ERes.t 5] r37_0
theorem c37 : cFun Tryd.prog 2 (fun _ => false) Tryd.f37 = some e37 := by kernel_rfl
theorem x37 : Tryd.prog.funcs[37]? = some Tryd.f37 := by kernel_rfl
theorem n37 : (Tryd.f37.name == "runtime.NumGoroutine") = false := by kernel_rfl
/-! 38: lane.Put$1 -/
def b38_0 : EC := EC.ops false [EOper.mk (some 3) (EOp.mv (Opd.c (V.int .u32 (0)))) none]
def m38_0 : List Bool := [false, false, false, true, false, false, false, false]
def b38_1 : EC := EC.ops false [EOper.mk (some 4) (EOp.ld true 2 (Opd.t 0)) none, EOper.mk (some 5) (EOp.ld false 1 (Opd.t 1)) none, EOper.mk (some 6) (EOp.ld false 1
  (Opd.t 2)) none, EOper.mk (some 7) (EOp.call (Opd.f 39) [Opd.t 4, Opd.t 5, Opd.t 6]) none, EOper.mk (some 3) (EOp.mv (Opd.t 7)) none]
def m38_1 : List Bool := [false, false, false, true, true, true, true, true]
def b38_2 : EC := EC.ret
def m38_2 : List Bool := [false, false, false, false, false, false, false, false]
def r38_2 : EC := b38_2
def r38_1 : EC := EC.seq b38_1 r38_2
def r38_0 : EC := EC.seq b38_0 r38_1
def e38 : EFun := EFun.mk 8 [ERes.t 3] r38_0
theorem c38 : cFun Tryd.prog 2 (fun _ => false) Tryd.f38 = some e38 := by kernel_rfl
theorem x38 : Tryd.prog.funcs[38]? = some Tryd.f38 := by kernel_rfl
theorem n38 : (Tryd.f38.name == "runtime.NumGoroutine") = false := by kernel_rfl
/-! 39: lane.place.put -/
def b39_0 : EC := EC.ops false [EOper.mk (some 3) (EOp.box true 77 (Opd.t 0)) none, EOper.mk (some 6) (EOp.mv (Opd.c (V.int .u32 (0)))) none]
def m39_0 : List Bool := [false, false, false, true, false, false, true, false, false, false, false, false, false, false, false, false, false, false, false, false, false, false]
def b39_1 : EC := EC.ops false [EOper.mk (some 8) (EOp.ld true 2 (Opd.t 3)) none, EOper.mk (some 9) (EOp.call (Opd.f 50) [Opd.t 8]) none, EOper.mk (some 10) (EOp.call
  (Opd.f 49) [Opd.t 9]) none, EOper.mk (some 7) (EOp.mv (Opd.t 10)) none]
def m39_1 : List Bool := [false, false, false, false, false, false, false, true, true, true, true, false, false, false, false, false, false, false, false, false, false, false]
def b39_2 : EC := EC.ops false [EOper.mk (some 11) (EOp.mv (Opd.t 1)) none, EOper.mk (some 12) (EOp.mv (Opd.t 7)) none, EOper.mk (some 13) (EOp.bin .andNot (Opd.t 11)
  (Opd.t 12)) none, EOper.mk (some 14) (EOp.mv (Opd.t 2)) none, EOper.mk (some 15) (EOp.fa 0 (Opd.t 3)) none, EOper.mk (some 16) (EOp.ld true 1 (Opd.t 15)) none, EOper.mk
  (some 17) (EOp.call (Opd.f 51) [Opd.t 16]) none, EOper.mk (some 18) (EOp.bin .shl (Opd.t 14) (Opd.t 17)) none, EOper.mk (some 19) (EOp.mv (Opd.t 7)) none, EOper.mk (some
  20) (EOp.bin .and (Opd.t 18) (Opd.t 19)) none, EOper.mk (some 21) (EOp.bin .or (Opd.t 13) (Opd.t 20)) none, EOper.mk (some 6) (EOp.mv (Opd.t 21)) none]
def m39_2 : List Bool := [false, false, false, false, false, false, true, false, false, false, false, true, true, true, true, true, true, true, true, true, true, true]
def b39_3 : EC := EC.ret
def m39_3 : List Bool := [false, false, false, false, false, false, false, false, false, false, false, false, false, false, false, false, false, false, false, false, false, false]
def r39_3 : EC := b39_3
def r39_2 : EC := EC.seq b39_2 r39_3
def r39_1 : EC := EC.seq b39_1 r39_2
def r39_0 : EC := EC.seq b39_0 r39_1
def e39 : EFun := EFun.mk 22 [ERes.t 6] r39_0
theorem c39 : cFun Tryd.prog 2 (fun _ => false) Tryd.f39 = some e39 := by kernel_rfl
theorem x39 : Tryd.prog.funcs[39]? = some Tryd.f39 := by kernel_rfl
theorem n39 : (Tryd.f39.name == "runtime.NumGoroutine") = false := by kernel_rfl
/-! 40: lane.Take$1 -/
def b40_0 : EC := EC.ops false [EOper.mk (some 2) (EOp.mv (Opd.c (V.int .u32 (0)))) none]
def m40_0 : List Bool := [false, false, true, false, false, false]
def b40_1 : EC := EC.ops false [EOper.mk (some 3) (EOp.ld true 2 (Opd.t 0)) none, EOper.mk (some 4) (EOp.ld false 1 (Opd.t 1)) none, EOper.mk (some 5) (EOp.call (Opd.f 41)
  [Opd.t 3, Opd.t 4]) none, EOper.mk (some 2) (EOp.mv (Opd.t 5)) none]
def m40_1 : List Bool := [false, false, true, true, true, true]
def b40_2 : EC := EC.ret
def m40_2 : List Bool := [false, false, false, false, false, false]
def r40_2 : EC := b40_2
def r40_1 : EC := EC.seq b40_1 r40_2
def r40_0 : EC := EC.seq b40_0 r40_1
def e40 : EFun := EFun.mk 6 [ERes.t 2] r40_0
theorem c40 : cFun Tryd.prog 2 (fun _ => false) Tryd.f40 = some e40 := by kernel_rfl
theorem x40 : Tryd.prog.funcs[40]? = some Tryd.f40 := by kernel_rfl
theorem n40 : (Tryd.f40.name == "runtime.NumGoroutine") = false := by kernel_rfl
/-! 41: lane.place.take -/
def b41_0 : EC := EC.ops false [EOper.mk (some 2) (EOp.box true 77 (Opd.t 0)) none, EOper.mk (some 4) (EOp.mv (Opd.c (V.int .u32 (0)))) none]
def m41_0 : List Bool := [false, false, true, false, true, false, false, false, false, false, false, false, false, false]
def b41_1 : EC := EC.ops true [EOper.mk (some 5) (EOp.mv (Opd.t 1)) none, EOper.mk (some 6) (EOp.ld true 2 (Opd.t 2)) none, EOper.mk (some 7) (EOp.call (Opd.f 50) [Opd.t
  6]) none, EOper.mk (some 8) (EOp.call (Opd.f 49) [Opd.t 7]) none, EOper.mk (some 9) (EOp.bin .and (Opd.t 5) (Opd.t 8)) none, EOper.mk (some 10) (EOp.fa 0 (Opd.t 2))
  none, EOper.mk (some 11) (EOp.ld true 1 (Opd.t 10)) none, EOper.mk (some 12) (EOp.call (Opd.f 51) [Opd.t 11]) none, EOper.mk (some 13) (EOp.bin .shr (Opd.t 9) (Opd.t
  12)) none, EOper.mk (some 4) (EOp.mv (Opd.t 13)) none]
def m41_1 : List Bool := [false, false, false, false, true, true, true, true, true, true, true, true, true, true]
def b41_2 : EC := EC.ret
def m41_2 : List Bool := [false, false, false, false, false, false, false, false, false, false, false, false, false, false]
def r41_2 : EC := b41_2
def r41_1 : EC := EC.seq b41_1 r41_2
def r41_0 : EC := EC.seq b41_0 r41_1
def e41 : EFun := EFun.mk 14 [ERes.t 4] r41_0
theorem c41 : cFun Tryd.prog 2 (fun _ => false) Tryd.f41 = some e41 := by kernel_rfl
theorem x41 : Tryd.prog.funcs[41]? = some Tryd.f41 := by kernel_rfl
theorem n41 : (Tryd.f41.name == "runtime.NumGoroutine") = false := by kernel_rfl
/-! 42: septumref01.Of -/
def l42_0p0 : EC := EC.seq (EC.ops false [EOper.mk (some 13) (EOp.mv (Opd.t 5)) none, EOper.mk (some 14) (EOp.bin .geq (Opd.t 13) (Opd.c (V.int .i64 (0)))) none]) (EC.cond
  (Opd.t 14) EC.skip (EC.exit 0))
def l42_0m0 : List Bool := [false, false, false, false, false, false, false, false, false, false, false, false, false, true, true, false, false, false, false, false, false, false, false, false, false, false]
def l42_0p1 : EC := EC.block 1 (EC.ops false [EOper.mk (some 17) (EOp.mv (Opd.t 4)) none, EOper.mk (some 18) (EOp.bin .mul (Opd.c (V.int .u32 (256))) (Opd.t 17)) none,
  EOper.mk (some 19) (EOp.mv (Opd.t 0)) none, EOper.mk (some 20) (EOp.mv (Opd.t 5)) none, EOper.mk (some 21) (EOp.ixs 1 (Opd.t 19) (Opd.t 20)) none, EOper.mk (some 22)
  (EOp.ld false 1 (Opd.t 21)) none, EOper.mk (some 23) (EOp.conv .u32 (Opd.t 22)) none, EOper.mk (some 24) (EOp.bin .add (Opd.t 18) (Opd.t 23)) none, EOper.mk (some 4)
  (EOp.mv (Opd.t 24)) none])
def l42_0m1 : List Bool := [false, false, false, false, true, false, false, false, false, false, false, false, false, false, false, false, false, true, true, true, true, true, true, true, true, false]
def l42_0p2 : EC := EC.ops false [EOper.mk (some 15) (EOp.mv (Opd.t 5)) none, EOper.mk (some 16) (EOp.bin .sub (Opd.t 15) (Opd.c (V.int .i64 (1)))) none, EOper.mk (some 5)
  (EOp.mv (Opd.t 16)) none]
def l42_0m2 : List Bool := [false, false, false, false, false, true, false, false, false, false, false, false, false, false, false, true, true, false, false, false, false, false, false, false, false, false]
def l42_0r2 : EC := l42_0p2
def l42_0r1 : EC := EC.seq l42_0p1 l42_0r2
def l42_0r0 : EC := EC.seq l42_0p0 l42_0r1
def l42_0 : EC := l42_0r0
def b42_0 : EC := EC.ops false [EOper.mk (some 2) (EOp.mv (Opd.c (V.int .u32 (0)))) none, EOper.mk (some 3) (EOp.mv (Opd.c (V.bool false))) none]
def m42_0 : List Bool := [false, false, true, true, false, false, false, false, false, false, false, false, false, false, false, false, false, false, false, false, false, false, false, false, false, false]
def b42_1 : EC := EC.seq (EC.ops false [EOper.mk (some 6) (EOp.mv (Opd.t 0)) none, EOper.mk (some 7) (EOp.len false (Opd.t 6)) none, EOper.mk (some 8) (EOp.call (Opd.f 43)
  [Opd.t 7]) none, EOper.mk (some 9) (EOp.un .not (Opd.t 8)) none]) (EC.cond (Opd.t 9) (EC.seq (EC.ops false [EOper.mk (some 2) (EOp.mv (Opd.c (V.int .u32 (0)))) none,
  EOper.mk (some 3) (EOp.mv (Opd.c (V.bool false))) none]) EC.ret) EC.skip)
def m42_1 : List Bool := [false, false, true, true, false, false, true, true, true, true, false, false, false, false, false, false, false, false, false, false, false, false, false, false, false, false]
def b42_2 : EC := EC.ops false [EOper.mk (some 4) (EOp.mv (Opd.c (V.int .u32 (0)))) none]
def m42_2 : List Bool := [false, false, false, false, true, false, false, false, false, false, false, false, false, false, false, false, false, false, false, false, false, false, false, false, false, false]
def b42_3 : EC := EC.seq (EC.ops false [EOper.mk (some 10) (EOp.mv (Opd.t 0)) none, EOper.mk (some 11) (EOp.len false (Opd.t 10)) none, EOper.mk (some 12) (EOp.bin .sub
  (Opd.t 11) (Opd.c (V.int .i64 (1)))) none, EOper.mk (some 5) (EOp.mv (Opd.t 12)) none]) (EC.block 0 (EC.loop l42_0))
def m42_3 : List Bool := [false, false, false, false, true, true, false, false, false, false, true, true, true, true, true, true, true, true, true, true, true, true, true, true, true, false]
def b42_4 : EC := EC.ops false [EOper.mk (some 25) (EOp.mv (Opd.t 4)) none, EOper.mk (some 2) (EOp.mv (Opd.t 25)) none, EOper.mk (some 3) (EOp.mv (Opd.c (V.bool true)))
  none]
def m42_4 : List Bool := [false, false, true, true, false, false, false, false, false, false, false, false, false, false, false, false, false, false, false, false, false, false, false, false, false, true]
def b42_5 : EC := EC.ret
def m42_5 : List Bool := [false, false, false, false, false, false, false, false, false, false, false, false, false, false, false, false, false, false, false, false, false, false, false, false, false, false]
def r42_5 : EC := b42_5
def r42_4 : EC := EC.seq b42_4 r42_5
def r42_3 : EC := EC.seq b42_3 r42_4
def r42_2 : EC := EC.seq b42_2 r42_3
def r42_1 : EC := EC.seq b42_1 r42_2
def r42_0 : EC := EC.seq b42_0 r42_1
def e42 : EFun := EFun.mk 26 [ERes.t 2, ERes.t 3] r42_0
theorem c42 : cFun Tryd.prog 2 (fun _ => false) Tryd.f42 = some e42 := by kernel_rfl
theorem x42 : Tryd.prog.funcs[42]? = some Tryd.f42 := by kernel_rfl
theorem n42 : (Tryd.f42.name == "runtime.NumGoroutine") = false := by kernel_rfl
/-! 43: septumref01.Size -/
def b43_0 : EC := EC.ops false [EOper.mk (some 2) (EOp.mv (Opd.c (V.bool false))) none]
def m43_0 : List Bool := [false, false, true, false, false, false, false, false, false, false, false, false, false]
def b43_1 : EC := EC.ops false [EOper.mk (some 3) (EOp.mv (Opd.t 0)) none, EOper.mk (some 4) (EOp.bin .eql (Opd.t 3) (Opd.c (V.int .i64 (1)))) none, EOper.mk (some 5)
  (EOp.mv (Opd.t 4)) none, EOper.mk (some 6) (EOp.mv (Opd.t 0)) (some (5, false)), EOper.mk (some 7) (EOp.bin .eql (Opd.t 6) (Opd.c (V.int .i64 (2)))) (some (5, false)),
  EOper.mk (some 8) (EOp.pick (Opd.t 5) (Opd.c (V.bool true)) (Opd.t 7)) none, EOper.mk (some 9) (EOp.mv (Opd.t 8)) none, EOper.mk (some 10) (EOp.mv (Opd.t 0)) (some (9,
  false)), EOper.mk (some 11) (EOp.bin .eql (Opd.t 10) (Opd.c (V.int .i64 (4)))) (some (9, false)), EOper.mk (some 12) (EOp.pick (Opd.t 9) (Opd.c (V.bool true)) (Opd.t
  11)) none, EOper.mk (some 2) (EOp.mv (Opd.t 12)) none]
def m43_1 : List Bool := [false, false, true, true, true, true, true, true, true, true, true, true, true]
def b43_2 : EC := EC.ret
def m43_2 : List Bool := [false, false, false, false, false, false, false, false, false, false, false, false, false]
def r43_2 : EC := b43_2
def r43_1 : EC := EC.seq b43_1 r43_2
def r43_0 : EC := EC.seq b43_0 r43_1
def e43 : EFun := EFun.mk 13 [ERes.t 2] r43_0
theorem c43 : cFun Tryd.prog 2 (fun _ => false) Tryd.f43 = some e43 := by kernel_rfl
theorem x43 : Tryd.prog.funcs[43]? = some Tryd.f43 := by kernel_rfl
theorem n43 : (Tryd.f43.name == "runtime.NumGoroutine") = false := by kernel_rfl
/-! 44: septumkit.mark -/
def b44_0 : EC := EC.ops false [EOper.mk (some 4) (EOp.mv (Opd.c (V.int .i64 (0)))) none]
def m44_0 : List Bool := [false, false, false, false, true, false, false, false, false, false]
def b44_1 : EC := EC.ops false [EOper.mk (some 5) (EOp.mv (Opd.t 0)) none, EOper.mk (some 6) (EOp.bin .add (Opd.t 5) (Opd.c (V.int .i64 (7)))) none, EOper.mk (some 7)
  (EOp.bin .mul (Opd.c (V.int .i64 (1000003))) (Opd.t 6)) none, EOper.mk (some 8) (EOp.mv (Opd.t 1)) none, EOper.mk (some 9) (EOp.bin .add (Opd.t 7) (Opd.t 8)) none,
  EOper.mk (some 4) (EOp.mv (Opd.t 9)) none]
def m44_1 : List Bool := [false, false, false, false, true, true, true, true, true, true]
def b44_2 : EC := EC.ret
def m44_2 : List Bool := [false, false, false, false, false, false, false, false, false, false]
def r44_2 : EC := b44_2
def r44_1 : EC := EC.seq b44_1 r44_2
def r44_0 : EC := EC.seq b44_0 r44_1
def e44 : EFun := EFun.mk 10 [ERes.t 4] r44_0
theorem c44 : cFun Tryd.prog 2 (fun _ => false) Tryd.f44 = some e44 := by kernel_rfl
theorem x44 : Tryd.prog.funcs[44]? = some Tryd.f44 := by kernel_rfl
theorem n44 : (Tryd.f44.name == "runtime.NumGoroutine") = false := by kernel_rfl
/-! 45: slices.Index:int -/
def l45_0p0 : EC := EC.ops false [EOper.mk (some 9) (EOp.bin .lss (Opd.t 8) (Opd.t 7)) none]
def l45_0m0 : List Bool := [false, false, false, false, false, false, false, false, false, true, false, false, false, false, false, false, false, false, false]
def l45_0p1 : EC := EC.cond (Opd.t 9) EC.skip (EC.exit 0)
def l45_0m1 : List Bool := [false, false, false, false, false, false, false, false, false, false, false, false, false, false, false, false, false, false, false]
def l45_0p2 : EC := EC.block 1 (EC.seq (EC.ops false [EOper.mk (some 10) (EOp.mv (Opd.t 8)) none, EOper.mk (some 5) (EOp.mv (Opd.t 10)) none]) (EC.seq (EC.ops false
  [EOper.mk (some 11) (EOp.mv (Opd.t 1)) none, EOper.mk (some 12) (EOp.mv (Opd.t 0)) none, EOper.mk (some 13) (EOp.mv (Opd.t 5)) none, EOper.mk (some 14) (EOp.ixs 1 (Opd.t
  12) (Opd.t 13)) none, EOper.mk (some 15) (EOp.ld false 1 (Opd.t 14)) none, EOper.mk (some 16) (EOp.bin .eql (Opd.t 11) (Opd.t 15)) none]) (EC.cond (Opd.t 16) (EC.seq
  (EC.ops false [EOper.mk (some 17) (EOp.mv (Opd.t 5)) none, EOper.mk (some 4) (EOp.mv (Opd.t 17)) none]) EC.ret) EC.skip)))
def l45_0m2 : List Bool := [false, false, false, false, true, true, false, false, false, false, true, true, true, true, true, true, true, true, false]
def l45_0p3 : EC := EC.ops false [EOper.mk (some 18) (EOp.bin .add (Opd.t 8) (Opd.c (V.int .i64 (1)))) none, EOper.mk (some 8) (EOp.mv (Opd.t 18)) none]
def l45_0m3 : List Bool := [false, false, false, false, false, false, false, false, true, false, false, false, false, false, false, false, false, false, true]
def l45_0r3 : EC := l45_0p3
def l45_0r2 : EC := EC.seq l45_0p2 l45_0r3
def l45_0r1 : EC := EC.seq l45_0p1 l45_0r2
def l45_0r0 : EC := EC.seq l45_0p0 l45_0r1
def l45_0 : EC := l45_0r0
def b45_0 : EC := EC.ops false [EOper.mk (some 4) (EOp.mv (Opd.c (V.int .i64 (0)))) none]
def m45_0 : List Bool := [false, false, false, false, true, false, false, false, false, false, false, false, false, false, false, false, false, false, false]
def b45_1 : EC := EC.seq (EC.ops false [EOper.mk (some 6) (EOp.mv (Opd.t 0)) none, EOper.mk (some 7) (EOp.len false (Opd.t 6)) none, EOper.mk (some 8) (EOp.mv (Opd.c
  (V.int .i64 (0)))) none]) (EC.block 0 (EC.loop l45_0))
def m45_1 : List Bool := [false, false, false, false, true, true, true, true, true, true, true, true, true, true, true, true, true, true, true]
def b45_2 : EC := EC.ops false [EOper.mk (some 4) (EOp.mv (Opd.c (V.int .i64 (-1)))) none]
def m45_2 : List Bool := [false, false, false, false, true, false, false, false, false, false, false, false, false, false, false, false, false, false, false]
def b45_3 : EC := EC.ret
def m45_3 : List Bool := [false, false, false, false, false, false, false, false, false, false, false, false, false, false, false, false, false, false, false]
def r45_3 : EC := b45_3
def r45_2 : EC := EC.seq b45_2 r45_3
def r45_1 : EC := EC.seq b45_1 r45_2
def r45_0 : EC := EC.seq b45_0 r45_1
def e45 : EFun := EFun.mk 19 [ERes.t 4] r45_0
theorem c45 : cFun Tryd.prog 2 (fun _ => false) Tryd.f45 = some e45 := by kernel_rfl
theorem x45 : Tryd.prog.funcs[45]? = some Tryd.f45 := by kernel_rfl
theorem n45 : (Tryd.f45.name == "runtime.NumGoroutine") = false := by kernel_rfl
/-! 46: slices.Backward[[]byte,byte]$1 -/
def l46_0p0 : EC := EC.seq (EC.ops false [EOper.mk (some 7) (EOp.mv (Opd.t 3)) none, EOper.mk (some 8) (EOp.bin .geq (Opd.t 7) (Opd.c (V.int .i64 (0)))) none]) (EC.cond
  (Opd.t 8) EC.skip (EC.exit 0))
def l46_0m0 : List Bool := [false, false, false, false, false, false, false, true, true, false, false, false, false, false, false, false, false, false, false]
def l46_0p1 : EC := EC.block 1 (EC.seq (EC.ops false [EOper.mk (some 11) (EOp.mv (Opd.t 0)) none, EOper.mk (some 12) (EOp.mv (Opd.t 3)) none, EOper.mk (some 13) (EOp.ld
  false 1 (Opd.t 1)) none, EOper.mk (some 14) (EOp.mv (Opd.t 3)) none, EOper.mk (some 15) (EOp.ixs 1 (Opd.t 13) (Opd.t 14)) none, EOper.mk (some 16) (EOp.ld false 1 (Opd.t
  15)) none, EOper.mk (some 17) (EOp.call (Opd.t 11) [Opd.t 12, Opd.t 16]) none, EOper.mk (some 18) (EOp.un .not (Opd.t 17)) none]) (EC.cond (Opd.t 18) EC.ret EC.skip))
def l46_0m1 : List Bool := [false, false, false, false, false, false, false, false, false, false, false, true, true, true, true, true, true, true, true]
def l46_0p2 : EC := EC.ops false [EOper.mk (some 9) (EOp.mv (Opd.t 3)) none, EOper.mk (some 10) (EOp.bin .sub (Opd.t 9) (Opd.c (V.int .i64 (1)))) none, EOper.mk (some 3)
  (EOp.mv (Opd.t 10)) none]
def l46_0m2 : List Bool := [false, false, false, true, false, false, false, false, false, true, true, false, false, false, false, false, false, false, false]
def l46_0r2 : EC := l46_0p2
def l46_0r1 : EC := EC.seq l46_0p1 l46_0r2
def l46_0r0 : EC := EC.seq l46_0p0 l46_0r1
def l46_0 : EC := l46_0r0
def b46_0 : EC := EC.ops false [EOper.mk (some 4) (EOp.ld false 1 (Opd.t 1)) none, EOper.mk (some 5) (EOp.len false (Opd.t 4)) none, EOper.mk (some 6) (EOp.bin .sub (Opd.t
  5) (Opd.c (V.int .i64 (1)))) none, EOper.mk (some 3) (EOp.mv (Opd.t 6)) none]
def m46_0 : List Bool := [false, false, false, true, true, true, true, false, false, false, false, false, false, false, false, false, false, false, false]
def b46_1 : EC := EC.block 0 (EC.loop l46_0)
def m46_1 : List Bool := [false, false, false, true, false, false, false, true, true, true, true, true, true, true, true, true, true, true, true]
def r46_1 : EC := b46_1
def r46_0 : EC := EC.seq b46_0 r46_1
def e46 : EFun := EFun.mk 19 [] r46_0
theorem c46 : cFun Tryd.prog 2 (fun _ => false) Tryd.f46 = some e46 := by kernel_rfl
theorem x46 : Tryd.prog.funcs[46]? = some Tryd.f46 := by kernel_rfl
theorem n46 : (Tryd.f46.name == "runtime.NumGoroutine") = false := by kernel_rfl
/-! 47: lane.Aligned -/
def b47_0 : EC := EC.ops false [EOper.mk (some 4) (EOp.mv (Opd.c (V.bool false))) none]
def m47_0 : List Bool := [false, false, false, false, true, false, false, false, false, false]
def b47_1 : EC := EC.ops false [EOper.mk (some 5) (EOp.mv (Opd.t 0)) none, EOper.mk (some 6) (EOp.build [V.int .u32 (0)] [(0, 1, Opd.t 5)]) none, EOper.mk (some 7) (EOp.mv
  (Opd.t 1)) none, EOper.mk (some 8) (EOp.build [V.int .u32 (0), V.int .i64 (0)] [(0, 1, Opd.t 6), (1, 1, Opd.t 7)]) none, EOper.mk (some 9) (EOp.call (Opd.f 48) [Opd.t
  8]) none, EOper.mk (some 4) (EOp.mv (Opd.t 9)) none]
def m47_1 : List Bool := [false, false, false, false, true, true, true, true, true, true]
def b47_2 : EC := EC.ret
def m47_2 : List Bool := [false, false, false, false, false, false, false, false, false, false]
def r47_2 : EC := b47_2
def r47_1 : EC := EC.seq b47_1 r47_2
def r47_0 : EC := EC.seq b47_0 r47_1
def e47 : EFun := EFun.mk 10 [ERes.t 4] r47_0
theorem c47 : cFun Tryd.prog 2 (fun _ => false) Tryd.f47 = some e47 := by kernel_rfl
theorem x47 : Tryd.prog.funcs[47]? = some Tryd.f47 := by kernel_rfl
theorem n47 : (Tryd.f47.name == "runtime.NumGoroutine") = false := by kernel_rfl
/-! 48: lane.place.right -/
def b48_0 : EC := EC.ops false [EOper.mk (some 1) (EOp.box true 77 (Opd.t 0)) none, EOper.mk (some 2) (EOp.mv (Opd.c (V.bool false))) none]
def m48_0 : List Bool := [false, true, true, false, false, false, false, false, false, false, false, false, false, false, false, false]
def b48_1 : EC := EC.ops false [EOper.mk (some 3) (EOp.fa 1 (Opd.t 1)) none, EOper.mk (some 4) (EOp.ld false 1 (Opd.t 3)) none, EOper.mk (some 5) (EOp.call (Opd.f 21)
  [Opd.t 4]) none, EOper.mk (some 6) (EOp.mv (Opd.t 5)) none, EOper.mk (some 7) (EOp.fa 0 (Opd.t 1)) (some (6, true)), EOper.mk (some 8) (EOp.fa 0 (Opd.t 7)) (some (6,
  true)), EOper.mk (some 9) (EOp.ld false 1 (Opd.t 8)) (some (6, true)), EOper.mk (some 10) (EOp.conv .i64 (Opd.t 9)) (some (6, true)), EOper.mk (some 11) (EOp.fa 1 (Opd.t
  1)) (some (6, true)), EOper.mk (some 12) (EOp.ld false 1 (Opd.t 11)) (some (6, true)), EOper.mk (some 13) (EOp.bin .rem (Opd.t 10) (Opd.t 12)) (some (6, true)), EOper.mk
  (some 14) (EOp.bin .eql (Opd.t 13) (Opd.c (V.int .i64 (0)))) (some (6, true)), EOper.mk (some 15) (EOp.pick (Opd.t 6) (Opd.t 14) (Opd.c (V.bool false))) none, EOper.mk
  (some 2) (EOp.mv (Opd.t 15)) none]
def m48_1 : List Bool := [false, false, true, true, true, true, true, true, true, true, true, true, true, true, true, true]
def b48_2 : EC := EC.ret
def m48_2 : List Bool := [false, false, false, false, false, false, false, false, false, false, false, false, false, false, false, false]
def r48_2 : EC := b48_2
def r48_1 : EC := EC.seq b48_1 r48_2
def r48_0 : EC := EC.seq b48_0 r48_1
def e48 : EFun := EFun.mk 16 [ERes.t 2] r48_0
theorem c48 : cFun Tryd.prog 2 (fun _ => false) Tryd.f48 = some e48 := by kernel_rfl
theorem x48 : Tryd.prog.funcs[48]? = some Tryd.f48 := by kernel_rfl
theorem n48 : (Tryd.f48.name == "runtime.NumGoroutine") = false := by kernel_rfl
/-! 49: lane.Wide -/
def l49_0p0 : EC := EC.ops false [EOper.mk (some 7) (EOp.bin .lss (Opd.t 6) (Opd.c (V.int .i64 (4)))) none]
def l49_0m0 : List Bool := [false, false, false, false, false, false, false, true, false, false, false, false, false, false, false, false, false, false, false, false]
def l49_0p1 : EC := EC.cond (Opd.t 7) EC.skip (EC.exit 0)
def l49_0m1 : List Bool := [false, false, false, false, false, false, false, false, false, false, false, false, false, false, false, false, false, false, false, false]
def l49_0p2 : EC := EC.block 1 (EC.seq (EC.ops false [EOper.mk (some 8) (EOp.mv (Opd.t 6)) none, EOper.mk (some 9) (EOp.idx false 4 1 (Opd.t 5) (Opd.t 6)) none, EOper.mk
  (some 3) (EOp.mv (Opd.t 8)) none, EOper.mk (some 4) (EOp.mv (Opd.t 9)) none]) (EC.seq (EC.ops false [EOper.mk (some 10) (EOp.mv (Opd.t 0)) none, EOper.mk (some 11)
  (EOp.mv (Opd.t 3)) none, EOper.mk (some 12) (EOp.bin .shr (Opd.t 10) (Opd.t 11)) none, EOper.mk (some 13) (EOp.bin .and (Opd.t 12) (Opd.c (V.int .u32 (1)))) none,
  EOper.mk (some 14) (EOp.bin .eql (Opd.t 13) (Opd.c (V.int .u32 (1)))) none]) (EC.cond (Opd.t 14) (EC.ops false [EOper.mk (some 15) (EOp.mv (Opd.t 2)) none, EOper.mk
  (some 16) (EOp.mv (Opd.t 4)) none, EOper.mk (some 17) (EOp.bin .or (Opd.t 15) (Opd.t 16)) none, EOper.mk (some 2) (EOp.mv (Opd.t 17)) none]) EC.skip)))
def l49_0m2 : List Bool := [false, false, true, true, true, false, false, false, true, true, true, true, true, true, true, true, true, true, false, false]
def l49_0p3 : EC := EC.ops false [EOper.mk (some 18) (EOp.bin .add (Opd.t 6) (Opd.c (V.int .i64 (1)))) none, EOper.mk (some 6) (EOp.mv (Opd.t 18)) none]
def l49_0m3 : List Bool := [false, false, false, false, false, false, true, false, false, false, false, false, false, false, false, false, false, false, true, false]
def l49_0r3 : EC := l49_0p3
def l49_0r2 : EC := EC.seq l49_0p2 l49_0r3
def l49_0r1 : EC := EC.seq l49_0p1 l49_0r2
def l49_0r0 : EC := EC.seq l49_0p0 l49_0r1
def l49_0 : EC := l49_0r0
def b49_0 : EC := EC.ops false [EOper.mk (some 2) (EOp.mv (Opd.c (V.int .u32 (0)))) none]
def m49_0 : List Bool := [false, false, true, false, false, false, false, false, false, false, false, false, false, false, false, false, false, false, false, false]
def b49_1 : EC := EC.seq (EC.ops false [EOper.mk (some 5) (EOp.ld true 4 (Opd.g 1)) none, EOper.mk (some 6) (EOp.mv (Opd.c (V.int .i64 (0)))) none]) (EC.block 0 (EC.loop
  l49_0))
def m49_1 : List Bool := [false, false, true, true, true, true, true, true, true, true, true, true, true, true, true, true, true, true, true, false]
def b49_2 : EC := EC.ops false [EOper.mk (some 19) (EOp.mv (Opd.t 2)) none, EOper.mk (some 2) (EOp.mv (Opd.t 19)) none]
def m49_2 : List Bool := [false, false, true, false, false, false, false, false, false, false, false, false, false, false, false, false, false, false, false, true]
def b49_3 : EC := EC.ret
def m49_3 : List Bool := [false, false, false, false, false, false, false, false, false, false, false, false, false, false, false, false, false, false, false, false]
def r49_3 : EC := b49_3
def r49_2 : EC := EC.seq b49_2 r49_3
def r49_1 : EC := EC.seq b49_1 r49_2
def r49_0 : EC := EC.seq b49_0 r49_1
def e49 : EFun := EFun.mk 20 [ERes.t 2] r49_0
theorem c49 : cFun Tryd.prog 2 (fun _ => false) Tryd.f49 = some e49 := by kernel_rfl
theorem x49 : Tryd.prog.funcs[49]? = some Tryd.f49 := by kernel_rfl
theorem n49 : (Tryd.f49.name == "runtime.NumGoroutine") = false := by kernel_rfl
/-! 50: lane.place.mask -/
def b50_0 : EC := EC.ops false [EOper.mk (some 1) (EOp.box true 77 (Opd.t 0)) none, EOper.mk (some 2) (EOp.mv (Opd.c (V.int .u32 (0)))) none]
def m50_0 : List Bool := [false, true, true, false, false, false, false, false, false, false, false]
def b50_1 : EC := EC.ops true [EOper.mk (some 3) (EOp.fa 1 (Opd.t 1)) none, EOper.mk (some 4) (EOp.ld false 1 (Opd.t 3)) none, EOper.mk (some 5) (EOp.bin .shl (Opd.c
  (V.int .u32 (1))) (Opd.t 4)) none, EOper.mk (some 6) (EOp.bin .sub (Opd.t 5) (Opd.c (V.int .u32 (1)))) none, EOper.mk (some 7) (EOp.fa 0 (Opd.t 1)) none, EOper.mk (some
  8) (EOp.ld true 1 (Opd.t 7)) none, EOper.mk (some 9) (EOp.call (Opd.f 52) [Opd.t 8]) none, EOper.mk (some 10) (EOp.bin .shl (Opd.t 6) (Opd.t 9)) none, EOper.mk (some 2)
  (EOp.mv (Opd.t 10)) none]
def m50_1 : List Bool := [false, false, true, true, true, true, true, true, true, true, true]
def b50_2 : EC := EC.ret
def m50_2 : List Bool := [false, false, false, false, false, false, false, false, false, false, false]
def r50_2 : EC := b50_2
def r50_1 : EC := EC.seq b50_1 r50_2
def r50_0 : EC := EC.seq b50_0 r50_1
def e50 : EFun := EFun.mk 11 [ERes.t 2] r50_0
theorem c50 : cFun Tryd.prog 2 (fun _ => false) Tryd.f50 = some e50 := by kernel_rfl
theorem x50 : Tryd.prog.funcs[50]? = some Tryd.f50 := by kernel_rfl
theorem n50 : (Tryd.f50.name == "runtime.NumGoroutine") = false := by kernel_rfl
/-! 51: lane.address.shift -/
def b51_0 : EC := EC.ops false [EOper.mk (some 1) (EOp.box true 75 (Opd.t 0)) none, EOper.mk (some 2) (EOp.mv (Opd.c (V.int .i64 (0)))) none]
def m51_0 : List Bool := [false, true, true, false, false, false]
def b51_1 : EC := EC.ops false [EOper.mk (some 3) (EOp.ld true 1 (Opd.t 1)) none, EOper.mk (some 4) (EOp.call (Opd.f 52) [Opd.t 3]) none, EOper.mk (some 5) (EOp.bin .mul
  (Opd.c (V.int .i64 (8))) (Opd.t 4)) none, EOper.mk (some 2) (EOp.mv (Opd.t 5)) none]
def m51_1 : List Bool := [false, false, true, true, true, true]
def b51_2 : EC := EC.ret
def m51_2 : List Bool := [false, false, false, false, false, false]
def r51_2 : EC := b51_2
def r51_1 : EC := EC.seq b51_1 r51_2
def r51_0 : EC := EC.seq b51_0 r51_1
def e51 : EFun := EFun.mk 6 [ERes.t 2] r51_0
theorem c51 : cFun Tryd.prog 2 (fun _ => false) Tryd.f51 = some e51 := by kernel_rfl
theorem x51 : Tryd.prog.funcs[51]? = some Tryd.f51 := by kernel_rfl
theorem n51 : (Tryd.f51.name == "runtime.NumGoroutine") = false := by kernel_rfl
/-! 52: lane.address.lane -/
def b52_0 : EC := EC.ops false [EOper.mk (some 1) (EOp.box true 75 (Opd.t 0)) none, EOper.mk (some 2) (EOp.mv (Opd.c (V.int .i64 (0)))) none]
def m52_0 : List Bool := [false, true, true, false, false, false, false]
def b52_1 : EC := EC.ops false [EOper.mk (some 3) (EOp.fa 0 (Opd.t 1)) none, EOper.mk (some 4) (EOp.ld false 1 (Opd.t 3)) none, EOper.mk (some 5) (EOp.bin .and (Opd.t 4)
  (Opd.c (V.int .u32 (3)))) none, EOper.mk (some 6) (EOp.conv .i64 (Opd.t 5)) none, EOper.mk (some 2) (EOp.mv (Opd.t 6)) none]
def m52_1 : List Bool := [false, false, true, true, true, true, true]
def b52_2 : EC := EC.ret
def m52_2 : List Bool := [false, false, false, false, false, false, false]
def r52_2 : EC := b52_2
def r52_1 : EC := EC.seq b52_1 r52_2
def r52_0 : EC := EC.seq b52_0 r52_1
def e52 : EFun := EFun.mk 7 [ERes.t 2] r52_0
theorem c52 : cFun Tryd.prog 2 (fun _ => false) Tryd.f52 = some e52 := by kernel_rfl
theorem x52 : Tryd.prog.funcs[52]? = some Tryd.f52 := by kernel_rfl
theorem n52 : (Tryd.f52.name == "runtime.NumGoroutine") = false := by kernel_rfl
end Go.Ev
