/- dev: forms (printed by forms.py) -/
import Derived.Test.YtjabpdepaldkfaaChecked
import Derived.Test.YtjabpdepaldkfaaEvV
set_option linter.all false
namespace Go.Ev
open Go Go.Proofs
set_option maxRecDepth 1000000
/-! 3: septumlaw17.SlotFair -/
def l3_0p0 : EC := EC.seq (EC.ops false [EOper.mk (some 35) (EOp.mv (Opd.t 8)) none, EOper.mk (some 36) (EOp.mv (Opd.t 0)) none, EOper.mk (some 37) (EOp.len false (Opd.t
  36)) none, EOper.mk (some 38) (EOp.bin .lss (Opd.t 35) (Opd.t 37)) none]) (EC.cond (Opd.t 38) EC.skip (EC.exit 0))
def l3_0p1 : EC := EC.block 1 (EC.seq (EC.ops false [EOper.mk (some 41) (EOp.mv (Opd.t 0)) none, EOper.mk (some 42) (EOp.mv (Opd.t 2)) none, EOper.mk (some 43) (EOp.mv
  (Opd.t 8)) none, EOper.mk (some 44) (EOp.bin .add (Opd.t 42) (Opd.t 43)) none, EOper.mk (some 45) (EOp.call (Opd.f 7) [Opd.t 41, Opd.t 44]) none, EOper.mk (some 46)
  (EOp.mv (Opd.t 1)) none, EOper.mk (some 47) (EOp.bin .eql (Opd.t 45) (Opd.t 46)) none]) (EC.cond (Opd.t 47) (EC.ops false [EOper.mk (some 48) (EOp.mv (Opd.t 7)) none,
  EOper.mk (some 49) (EOp.bin .add (Opd.t 48) (Opd.c (V.int .i64 (1)))) none, EOper.mk (some 7) (EOp.mv (Opd.t 49)) none]) EC.skip))
def l3_0p2 : EC := EC.ops false [EOper.mk (some 39) (EOp.mv (Opd.t 8)) none, EOper.mk (some 40) (EOp.bin .add (Opd.t 39) (Opd.c (V.int .i64 (1)))) none, EOper.mk (some 8)
  (EOp.mv (Opd.t 40)) none]
def l3_0r2 : EC := l3_0p2
def l3_0r1 : EC := EC.seq l3_0p1 l3_0r2
def l3_0r0 : EC := EC.seq l3_0p0 l3_0r1
def l3_0 : EC := l3_0r0
def l3_1p0 : EC := EC.seq (EC.ops false [EOper.mk (some 114) (EOp.mv (Opd.t 11)) none, EOper.mk (some 115) (EOp.mv (Opd.t 9)) none, EOper.mk (some 116) (EOp.bin .lss
  (Opd.t 114) (Opd.t 115)) none]) (EC.cond (Opd.t 116) EC.skip (EC.exit 2))
def l3_1p1 : EC := EC.block 3 (EC.seq (EC.ops false [EOper.mk (some 119) (EOp.mv (Opd.t 0)) none, EOper.mk (some 120) (EOp.mv (Opd.t 11)) none, EOper.mk (some 121)
  (EOp.call (Opd.f 7) [Opd.t 119, Opd.t 120]) none, EOper.mk (some 122) (EOp.mv (Opd.t 1)) none, EOper.mk (some 123) (EOp.bin .eql (Opd.t 121) (Opd.t 122)) none]) (EC.cond
  (Opd.t 123) (EC.seq (EC.ops false [EOper.mk (some 6) (EOp.mv (Opd.c (V.bool false))) none]) EC.ret) EC.skip))
def l3_1p2 : EC := EC.ops false [EOper.mk (some 117) (EOp.mv (Opd.t 11)) none, EOper.mk (some 118) (EOp.bin .add (Opd.t 117) (Opd.c (V.int .i64 (1)))) none, EOper.mk (some
  11) (EOp.mv (Opd.t 118)) none]
def l3_1r2 : EC := l3_1p2
def l3_1r1 : EC := EC.seq l3_1p1 l3_1r2
def l3_1r0 : EC := EC.seq l3_1p0 l3_1r1
def l3_1 : EC := l3_1r0
def b3_0 : EC := EC.ops false [EOper.mk (some 6) (EOp.mv (Opd.c (V.bool false))) none]
def b3_1 : EC := EC.seq (EC.ops false [EOper.mk (some 14) (EOp.call (Opd.f 5) []) none, EOper.mk (some 15) (EOp.un .not (Opd.t 14)) none]) (EC.cond (Opd.t 15) (EC.seq
  (EC.ops false [EOper.mk (some 6) (EOp.mv (Opd.c (V.bool false))) none]) EC.ret) EC.skip)
def b3_2 : EC := EC.seq (EC.ops false [EOper.mk (some 16) (EOp.mv (Opd.t 0)) none, EOper.mk (some 17) (EOp.call (Opd.f 6) [Opd.t 16]) none, EOper.mk (some 18) (EOp.un .not
  (Opd.t 17)) none, EOper.mk (some 19) (EOp.mv (Opd.t 18)) none, EOper.mk (some 20) (EOp.mv (Opd.t 1)) (some (19, false)), EOper.mk (some 21) (EOp.bin .lss (Opd.t 20)
  (Opd.c (V.int .i64 (0)))) (some (19, false)), EOper.mk (some 22) (EOp.pick (Opd.t 19) (Opd.c (V.bool true)) (Opd.t 21)) none, EOper.mk (some 23) (EOp.mv (Opd.t 22))
  none, EOper.mk (some 24) (EOp.mv (Opd.t 1)) (some (23, false)), EOper.mk (some 25) (EOp.bin .gtr (Opd.t 24) (Opd.c (V.int .i64 (7)))) (some (23, false)), EOper.mk (some
  26) (EOp.pick (Opd.t 23) (Opd.c (V.bool true)) (Opd.t 25)) none, EOper.mk (some 27) (EOp.mv (Opd.t 26)) none, EOper.mk (some 28) (EOp.mv (Opd.t 2)) (some (27, false)),
  EOper.mk (some 29) (EOp.bin .lss (Opd.t 28) (Opd.c (V.int .i64 (0)))) (some (27, false)), EOper.mk (some 30) (EOp.pick (Opd.t 27) (Opd.c (V.bool true)) (Opd.t 29)) none,
  EOper.mk (some 31) (EOp.mv (Opd.t 30)) none, EOper.mk (some 32) (EOp.mv (Opd.t 2)) (some (31, false)), EOper.mk (some 33) (EOp.bin .gtr (Opd.t 32) (Opd.c (V.int .i64
  (1099511627576)))) (some (31, false)), EOper.mk (some 34) (EOp.pick (Opd.t 31) (Opd.c (V.bool true)) (Opd.t 33)) none]) (EC.cond (Opd.t 34) (EC.seq (EC.ops false
  [EOper.mk (some 6) (EOp.mv (Opd.c (V.bool true))) none]) EC.ret) EC.skip)
def b3_3 : EC := EC.ops false [EOper.mk (some 7) (EOp.mv (Opd.c (V.int .i64 (0)))) none]
def b3_4 : EC := EC.seq (EC.ops false [EOper.mk (some 8) (EOp.mv (Opd.c (V.int .i64 (0)))) none]) (EC.block 0 (EC.loop l3_0))
def b3_5 : EC := EC.ops false [EOper.mk (some 51) (EOp.mv (Opd.t 0)) none, EOper.mk (some 52) (EOp.mv (Opd.t 1)) none, EOper.mk (some 53) (EOp.mv (Opd.t 2)) none, EOper.mk
  (some 54) (EOp.call (Opd.f 8) [Opd.t 51, Opd.t 52, Opd.t 53]) none, EOper.mk (some 50) (EOp.mv (Opd.t 54)) none, EOper.mk (some 55) (EOp.ext (Opd.t 50) 0) none, EOper.mk
  (some 56) (EOp.ext (Opd.t 50) 1) none, EOper.mk (some 9) (EOp.mv (Opd.t 55)) none, EOper.mk (some 10) (EOp.mv (Opd.t 56)) none]
def b3_6 : EC := EC.seq (EC.ops false [EOper.mk (some 57) (EOp.mv (Opd.t 7)) none, EOper.mk (some 58) (EOp.mv (Opd.t 0)) none, EOper.mk (some 59) (EOp.mv (Opd.t 1)) none,
  EOper.mk (some 60) (EOp.call (Opd.f 9) [Opd.t 58, Opd.t 59]) none, EOper.mk (some 61) (EOp.bin .neq (Opd.t 57) (Opd.t 60)) none, EOper.mk (some 62) (EOp.mv (Opd.t 61))
  none, EOper.mk (some 63) (EOp.mv (Opd.t 10)) (some (62, false)), EOper.mk (some 64) (EOp.mv (Opd.t 7)) (some (62, false)), EOper.mk (some 65) (EOp.bin .gtr (Opd.t 64)
  (Opd.c (V.int .i64 (0)))) (some (62, false)), EOper.mk (some 66) (EOp.eqb true (Opd.t 63) (Opd.t 65)) (some (62, false)), EOper.mk (some 67) (EOp.pick (Opd.t 62) (Opd.c
  (V.bool true)) (Opd.t 66)) none]) (EC.cond (Opd.t 67) (EC.seq (EC.ops false [EOper.mk (some 6) (EOp.mv (Opd.c (V.bool false))) none]) EC.ret) EC.skip)
def b3_7 : EC := EC.seq (EC.ops false [EOper.mk (some 68) (EOp.mv (Opd.t 10)) none, EOper.mk (some 69) (EOp.un .not (Opd.t 68)) none]) (EC.cond (Opd.t 69) (EC.seq (EC.ops
  false [EOper.mk (some 70) (EOp.mv (Opd.t 9)) none, EOper.mk (some 71) (EOp.bin .eql (Opd.t 70) (Opd.c (V.int .i64 (0)))) none, EOper.mk (some 72) (EOp.mv (Opd.t 71))
  none, EOper.mk (some 73) (EOp.mv (Opd.t 0)) (some (72, true)), EOper.mk (some 74) (EOp.mv (Opd.t 1)) (some (72, true)), EOper.mk (some 75) (EOp.call (Opd.f 10) [Opd.t
  73, Opd.t 74]) (some (72, true)), EOper.mk (some 76) (EOp.bin .eql (Opd.t 75) (Opd.c (V.int .i64 (-1)))) (some (72, true)), EOper.mk (some 77) (EOp.pick (Opd.t 72)
  (Opd.t 76) (Opd.c (V.bool false))) none, EOper.mk (some 6) (EOp.mv (Opd.t 77)) none]) EC.ret) EC.skip)
def b3_8 : EC := EC.seq (EC.ops false [EOper.mk (some 78) (EOp.mv (Opd.t 9)) none, EOper.mk (some 79) (EOp.mv (Opd.t 2)) none, EOper.mk (some 80) (EOp.bin .lss (Opd.t 78)
  (Opd.t 79)) none, EOper.mk (some 81) (EOp.mv (Opd.t 80)) none, EOper.mk (some 82) (EOp.mv (Opd.t 9)) (some (81, false)), EOper.mk (some 83) (EOp.mv (Opd.t 2)) (some (81,
  false)), EOper.mk (some 84) (EOp.bin .sub (Opd.t 82) (Opd.t 83)) (some (81, false)), EOper.mk (some 85) (EOp.mv (Opd.t 0)) (some (81, false)), EOper.mk (some 86)
  (EOp.len false (Opd.t 85)) (some (81, false)), EOper.mk (some 87) (EOp.bin .geq (Opd.t 84) (Opd.t 86)) (some (81, false)), EOper.mk (some 88) (EOp.pick (Opd.t 81) (Opd.c
  (V.bool true)) (Opd.t 87)) none, EOper.mk (some 89) (EOp.mv (Opd.t 88)) none, EOper.mk (some 90) (EOp.mv (Opd.t 9)) (some (89, false)), EOper.mk (some 91) (EOp.mv (Opd.t
  2)) (some (89, false)), EOper.mk (some 92) (EOp.bin .sub (Opd.t 90) (Opd.t 91)) (some (89, false)), EOper.mk (some 93) (EOp.mv (Opd.t 0)) (some (89, false)), EOper.mk
  (some 94) (EOp.mv (Opd.t 1)) (some (89, false)), EOper.mk (some 95) (EOp.call (Opd.f 10) [Opd.t 93, Opd.t 94]) (some (89, false)), EOper.mk (some 96) (EOp.bin .gtr
  (Opd.t 92) (Opd.t 95)) (some (89, false)), EOper.mk (some 97) (EOp.pick (Opd.t 89) (Opd.c (V.bool true)) (Opd.t 96)) none, EOper.mk (some 98) (EOp.mv (Opd.t 97)) none,
  EOper.mk (some 99) (EOp.mv (Opd.t 0)) (some (98, false)), EOper.mk (some 100) (EOp.mv (Opd.t 1)) (some (98, false)), EOper.mk (some 101) (EOp.call (Opd.f 10) [Opd.t 99,
  Opd.t 100]) (some (98, false)), EOper.mk (some 102) (EOp.mv (Opd.t 0)) (some (98, false)), EOper.mk (some 103) (EOp.len false (Opd.t 102)) (some (98, false)), EOper.mk
  (some 104) (EOp.bin .geq (Opd.t 101) (Opd.t 103)) (some (98, false)), EOper.mk (some 105) (EOp.pick (Opd.t 98) (Opd.c (V.bool true)) (Opd.t 104)) none, EOper.mk (some
  106) (EOp.mv (Opd.t 105)) none, EOper.mk (some 107) (EOp.mv (Opd.t 0)) (some (106, false)), EOper.mk (some 108) (EOp.mv (Opd.t 9)) (some (106, false)), EOper.mk (some
  109) (EOp.call (Opd.f 7) [Opd.t 107, Opd.t 108]) (some (106, false)), EOper.mk (some 110) (EOp.mv (Opd.t 1)) (some (106, false)), EOper.mk (some 111) (EOp.bin .neq
  (Opd.t 109) (Opd.t 110)) (some (106, false)), EOper.mk (some 112) (EOp.pick (Opd.t 106) (Opd.c (V.bool true)) (Opd.t 111)) none]) (EC.cond (Opd.t 112) (EC.seq (EC.ops
  false [EOper.mk (some 6) (EOp.mv (Opd.c (V.bool false))) none]) EC.ret) EC.skip)
def b3_9 : EC := EC.seq (EC.ops false [EOper.mk (some 113) (EOp.mv (Opd.t 2)) none, EOper.mk (some 11) (EOp.mv (Opd.t 113)) none]) (EC.block 2 (EC.loop l3_1))
def b3_10 : EC := EC.ops false [EOper.mk (some 125) (EOp.mv (Opd.t 0)) none, EOper.mk (some 126) (EOp.mv (Opd.t 1)) none, EOper.mk (some 127) (EOp.mv (Opd.t 9)) none,
  EOper.mk (some 128) (EOp.bin .add (Opd.t 127) (Opd.c (V.int .i64 (1)))) none, EOper.mk (some 129) (EOp.call (Opd.f 8) [Opd.t 125, Opd.t 126, Opd.t 128]) none, EOper.mk
  (some 124) (EOp.mv (Opd.t 129)) none, EOper.mk (some 130) (EOp.ext (Opd.t 124) 0) none, EOper.mk (some 131) (EOp.ext (Opd.t 124) 1) none, EOper.mk (some 12) (EOp.mv
  (Opd.t 130)) none, EOper.mk (some 13) (EOp.mv (Opd.t 131)) none]
def b3_11 : EC := EC.ops false [EOper.mk (some 132) (EOp.mv (Opd.t 12)) none, EOper.mk (some 133) (EOp.mv (Opd.t 9)) none, EOper.mk (some 134) (EOp.bin .gtr (Opd.t 132)
  (Opd.t 133)) none, EOper.mk (some 135) (EOp.mv (Opd.t 134)) none, EOper.mk (some 136) (EOp.mv (Opd.t 12)) (some (135, true)), EOper.mk (some 137) (EOp.mv (Opd.t 9))
  (some (135, true)), EOper.mk (some 138) (EOp.bin .sub (Opd.t 136) (Opd.t 137)) (some (135, true)), EOper.mk (some 139) (EOp.mv (Opd.t 0)) (some (135, true)), EOper.mk
  (some 140) (EOp.len false (Opd.t 139)) (some (135, true)), EOper.mk (some 141) (EOp.bin .leq (Opd.t 138) (Opd.t 140)) (some (135, true)), EOper.mk (some 142) (EOp.pick
  (Opd.t 135) (Opd.t 141) (Opd.c (V.bool false))) none, EOper.mk (some 143) (EOp.mv (Opd.t 142)) none, EOper.mk (some 144) (EOp.mv (Opd.t 0)) (some (143, true)), EOper.mk
  (some 145) (EOp.mv (Opd.t 9)) (some (143, true)), EOper.mk (some 146) (EOp.mv (Opd.t 0)) (some (143, true)), EOper.mk (some 147) (EOp.len false (Opd.t 146)) (some (143,
  true)), EOper.mk (some 148) (EOp.bin .add (Opd.t 145) (Opd.t 147)) (some (143, true)), EOper.mk (some 149) (EOp.call (Opd.f 7) [Opd.t 144, Opd.t 148]) (some (143,
  true)), EOper.mk (some 150) (EOp.mv (Opd.t 1)) (some (143, true)), EOper.mk (some 151) (EOp.bin .eql (Opd.t 149) (Opd.t 150)) (some (143, true)), EOper.mk (some 152)
  (EOp.pick (Opd.t 143) (Opd.t 151) (Opd.c (V.bool false))) none, EOper.mk (some 6) (EOp.mv (Opd.t 152)) none]
def b3_12 : EC := EC.ret
def r3_12 : EC := b3_12
def r3_11 : EC := EC.seq b3_11 r3_12
def r3_10 : EC := EC.seq b3_10 r3_11
def r3_9 : EC := EC.seq b3_9 r3_10
def r3_8 : EC := EC.seq b3_8 r3_9
def r3_7 : EC := EC.seq b3_7 r3_8
def r3_6 : EC := EC.seq b3_6 r3_7
def r3_5 : EC := EC.seq b3_5 r3_6
def r3_4 : EC := EC.seq b3_4 r3_5
def r3_3 : EC := EC.seq b3_3 r3_4
def r3_2 : EC := EC.seq b3_2 r3_3
def r3_1 : EC := EC.seq b3_1 r3_2
def r3_0 : EC := EC.seq b3_0 r3_1
def e3 : EFun := EFun.mk 153 [ERes.t 6] r3_0
theorem c3 : cFun Try.prog 0 (fun _ => false) Try.f3 = some e3 := by kernel_rfl
theorem x3 : Try.prog.funcs[3]? = some Try.f3 := by kernel_rfl
theorem n3 : (Try.f3.name == "runtime.NumGoroutine") = false := by kernel_rfl
/-! 4: septumlaw17.SlotWait -/
def l4_0p0 : EC := EC.seq (EC.ops false [EOper.mk (some 28) (EOp.mv (Opd.t 6)) none, EOper.mk (some 29) (EOp.mv (Opd.t 0)) none, EOper.mk (some 30) (EOp.len false (Opd.t
  29)) none, EOper.mk (some 31) (EOp.bin .lss (Opd.t 28) (Opd.t 30)) none]) (EC.cond (Opd.t 31) EC.skip (EC.exit 0))
def l4_0p1 : EC := EC.block 1 (EC.seq (EC.ops false [EOper.mk (some 35) (EOp.mv (Opd.t 0)) none, EOper.mk (some 36) (EOp.mv (Opd.t 1)) none, EOper.mk (some 37) (EOp.mv
  (Opd.t 6)) none, EOper.mk (some 38) (EOp.call (Opd.f 8) [Opd.t 35, Opd.t 36, Opd.t 37]) none, EOper.mk (some 34) (EOp.mv (Opd.t 38)) none, EOper.mk (some 39) (EOp.ext
  (Opd.t 34) 0) none, EOper.mk (some 40) (EOp.ext (Opd.t 34) 1) none, EOper.mk (some 7) (EOp.mv (Opd.t 39)) none, EOper.mk (some 8) (EOp.mv (Opd.t 40)) none]) (EC.ops
  false [EOper.mk (some 41) (EOp.mv (Opd.t 5)) none, EOper.mk (some 42) (EOp.mv (Opd.t 7)) none, EOper.mk (some 43) (EOp.mv (Opd.t 6)) none, EOper.mk (some 44) (EOp.bin
  .sub (Opd.t 42) (Opd.t 43)) none, EOper.mk (some 45) (EOp.mm true (Opd.t 41) (Opd.t 44)) none, EOper.mk (some 5) (EOp.mv (Opd.t 45)) none]))
def l4_0p2 : EC := EC.ops false [EOper.mk (some 32) (EOp.mv (Opd.t 6)) none, EOper.mk (some 33) (EOp.bin .add (Opd.t 32) (Opd.c (V.int .i64 (1)))) none, EOper.mk (some 6)
  (EOp.mv (Opd.t 33)) none]
def l4_0r2 : EC := l4_0p2
def l4_0r1 : EC := EC.seq l4_0p1 l4_0r2
def l4_0r0 : EC := EC.seq l4_0p0 l4_0r1
def l4_0 : EC := l4_0r0
def b4_0 : EC := EC.ops false [EOper.mk (some 4) (EOp.mv (Opd.c (V.bool false))) none]
def b4_1 : EC := EC.seq (EC.ops false [EOper.mk (some 9) (EOp.call (Opd.f 5) []) none, EOper.mk (some 10) (EOp.un .not (Opd.t 9)) none]) (EC.cond (Opd.t 10) (EC.seq
  (EC.ops false [EOper.mk (some 4) (EOp.mv (Opd.c (V.bool false))) none]) EC.ret) EC.skip)
def b4_2 : EC := EC.seq (EC.ops false [EOper.mk (some 11) (EOp.mv (Opd.t 0)) none, EOper.mk (some 12) (EOp.call (Opd.f 6) [Opd.t 11]) none, EOper.mk (some 13) (EOp.un .not
  (Opd.t 12)) none, EOper.mk (some 14) (EOp.mv (Opd.t 13)) none, EOper.mk (some 15) (EOp.mv (Opd.t 1)) (some (14, false)), EOper.mk (some 16) (EOp.bin .lss (Opd.t 15)
  (Opd.c (V.int .i64 (0)))) (some (14, false)), EOper.mk (some 17) (EOp.pick (Opd.t 14) (Opd.c (V.bool true)) (Opd.t 16)) none, EOper.mk (some 18) (EOp.mv (Opd.t 17))
  none, EOper.mk (some 19) (EOp.mv (Opd.t 1)) (some (18, false)), EOper.mk (some 20) (EOp.bin .gtr (Opd.t 19) (Opd.c (V.int .i64 (7)))) (some (18, false)), EOper.mk (some
  21) (EOp.pick (Opd.t 18) (Opd.c (V.bool true)) (Opd.t 20)) none, EOper.mk (some 22) (EOp.mv (Opd.t 21)) none, EOper.mk (some 23) (EOp.mv (Opd.t 0)) (some (22, false)),
  EOper.mk (some 24) (EOp.mv (Opd.t 1)) (some (22, false)), EOper.mk (some 25) (EOp.call (Opd.f 9) [Opd.t 23, Opd.t 24]) (some (22, false)), EOper.mk (some 26) (EOp.bin
  .eql (Opd.t 25) (Opd.c (V.int .i64 (0)))) (some (22, false)), EOper.mk (some 27) (EOp.pick (Opd.t 22) (Opd.c (V.bool true)) (Opd.t 26)) none]) (EC.cond (Opd.t 27)
  (EC.seq (EC.ops false [EOper.mk (some 4) (EOp.mv (Opd.c (V.bool true))) none]) EC.ret) EC.skip)
def b4_3 : EC := EC.ops false [EOper.mk (some 5) (EOp.mv (Opd.c (V.int .i64 (0)))) none]
def b4_4 : EC := EC.seq (EC.ops false [EOper.mk (some 6) (EOp.mv (Opd.c (V.int .i64 (0)))) none]) (EC.block 0 (EC.loop l4_0))
def b4_5 : EC := EC.ops false [EOper.mk (some 46) (EOp.mv (Opd.t 0)) none, EOper.mk (some 47) (EOp.mv (Opd.t 1)) none, EOper.mk (some 48) (EOp.call (Opd.f 10) [Opd.t 46,
  Opd.t 47]) none, EOper.mk (some 49) (EOp.mv (Opd.t 5)) none, EOper.mk (some 50) (EOp.bin .eql (Opd.t 48) (Opd.t 49)) none, EOper.mk (some 4) (EOp.mv (Opd.t 50)) none]
def b4_6 : EC := EC.ret
def r4_6 : EC := b4_6
def r4_5 : EC := EC.seq b4_5 r4_6
def r4_4 : EC := EC.seq b4_4 r4_5
def r4_3 : EC := EC.seq b4_3 r4_4
def r4_2 : EC := EC.seq b4_2 r4_3
def r4_1 : EC := EC.seq b4_1 r4_2
def r4_0 : EC := EC.seq b4_0 r4_1
def e4 : EFun := EFun.mk 51 [ERes.t 4] r4_0
theorem c4 : cFun Try.prog 0 (fun _ => false) Try.f4 = some e4 := by kernel_rfl
theorem n4 : (Try.f4.name == "runtime.NumGoroutine") = false := by kernel_rfl
/-! 5: septumlaw17.awake -/
def b5_0 : EC := EC.ops false [EOper.mk (some 0) (EOp.mv (Opd.c (V.bool false))) none]
def b5_1 : EC := EC.ops false [EOper.mk (some 4) (EOp.bslice 3 4 [V.int .i64 (0), V.int .i64 (0), V.int .i64 (0), V.int .i64 (0)] [(0, 1, Opd.c (V.int .i64 (0))), (1, 1,
  Opd.c (V.int .i64 (1))), (2, 1, Opd.c (V.int .i64 (-1))), (3, 1, Opd.c (V.int .i64 (1)))]) none, EOper.mk (some 1) (EOp.mv (Opd.t 4)) none]
def b5_2 : EC := EC.ops false [EOper.mk (some 6) (EOp.mv (Opd.t 1)) none, EOper.mk (some 7) (EOp.call (Opd.f 8) [Opd.t 6, Opd.c (V.int .i64 (0)), Opd.c (V.int .i64 (1))])
  none, EOper.mk (some 5) (EOp.mv (Opd.t 7)) none, EOper.mk (some 8) (EOp.ext (Opd.t 5) 0) none, EOper.mk (some 9) (EOp.ext (Opd.t 5) 1) none, EOper.mk (some 2) (EOp.mv
  (Opd.t 8)) none, EOper.mk (some 3) (EOp.mv (Opd.t 9)) none]
def b5_3 : EC := EC.ops false [EOper.mk (some 10) (EOp.mv (Opd.t 1)) none, EOper.mk (some 11) (EOp.call (Opd.f 7) [Opd.t 10, Opd.c (V.int .i64 (6))]) none, EOper.mk (some
  12) (EOp.bin .eql (Opd.t 11) (Opd.c (V.int .i64 (-1)))) none, EOper.mk (some 13) (EOp.mv (Opd.t 12)) none, EOper.mk (some 14) (EOp.mv (Opd.t 2)) (some (13, true)),
  EOper.mk (some 15) (EOp.bin .eql (Opd.t 14) (Opd.c (V.int .i64 (4)))) (some (13, true)), EOper.mk (some 16) (EOp.pick (Opd.t 13) (Opd.t 15) (Opd.c (V.bool false))) none,
  EOper.mk (some 17) (EOp.mv (Opd.t 16)) none, EOper.mk (some 18) (EOp.mv (Opd.t 3)) (some (17, true)), EOper.mk (some 19) (EOp.pick (Opd.t 17) (Opd.t 18) (Opd.c (V.bool
  false))) none, EOper.mk (some 20) (EOp.mv (Opd.t 19)) none, EOper.mk (some 21) (EOp.mv (Opd.t 1)) (some (20, true)), EOper.mk (some 22) (EOp.call (Opd.f 10) [Opd.t 21,
  Opd.c (V.int .i64 (0))]) (some (20, true)), EOper.mk (some 23) (EOp.bin .eql (Opd.t 22) (Opd.c (V.int .i64 (3)))) (some (20, true)), EOper.mk (some 24) (EOp.pick (Opd.t
  20) (Opd.t 23) (Opd.c (V.bool false))) none, EOper.mk (some 25) (EOp.mv (Opd.t 24)) none, EOper.mk (some 26) (EOp.mv (Opd.t 1)) (some (25, true)), EOper.mk (some 27)
  (EOp.call (Opd.f 10) [Opd.t 26, Opd.c (V.int .i64 (1))]) (some (25, true)), EOper.mk (some 28) (EOp.bin .eql (Opd.t 27) (Opd.c (V.int .i64 (1)))) (some (25, true)),
  EOper.mk (some 29) (EOp.pick (Opd.t 25) (Opd.t 28) (Opd.c (V.bool false))) none, EOper.mk (some 30) (EOp.mv (Opd.t 29)) none, EOper.mk (some 31) (EOp.mv (Opd.t 1)) (some
  (30, true)), EOper.mk (some 32) (EOp.call (Opd.f 9) [Opd.t 31, Opd.c (V.int .i64 (1))]) (some (30, true)), EOper.mk (some 33) (EOp.bin .eql (Opd.t 32) (Opd.c (V.int .i64
  (2)))) (some (30, true)), EOper.mk (some 34) (EOp.pick (Opd.t 30) (Opd.t 33) (Opd.c (V.bool false))) none, EOper.mk (some 35) (EOp.mv (Opd.t 34)) none, EOper.mk (some
  36) (EOp.mv (Opd.t 1)) (some (35, true)), EOper.mk (some 37) (EOp.call (Opd.f 12) [Opd.t 36, Opd.c (V.int .i64 (1))]) (some (35, true)), EOper.mk (some 38) (EOp.bslice 3
  4 [V.int .i64 (0), V.int .i64 (0), V.int .i64 (0), V.int .i64 (0)] [(0, 1, Opd.c (V.int .i64 (1))), (1, 1, Opd.c (V.int .i64 (-1))), (2, 1, Opd.c (V.int .i64 (1))), (3,
  1, Opd.c (V.int .i64 (0)))]) (some (35, true)), EOper.mk (some 39) (EOp.call (Opd.f 11) [Opd.t 37, Opd.t 38]) (some (35, true)), EOper.mk (some 40) (EOp.pick (Opd.t 35)
  (Opd.t 39) (Opd.c (V.bool false))) none, EOper.mk (some 0) (EOp.mv (Opd.t 40)) none]
def b5_4 : EC := EC.ret
def r5_4 : EC := b5_4
def r5_3 : EC := EC.seq b5_3 r5_4
def r5_2 : EC := EC.seq b5_2 r5_3
def r5_1 : EC := EC.seq b5_1 r5_2
def r5_0 : EC := EC.seq b5_0 r5_1
def e5 : EFun := EFun.mk 41 [ERes.t 0] r5_0
theorem c5 : cFun Try.prog 0 (fun _ => false) Try.f5 = some e5 := by kernel_rfl
theorem x5 : Try.prog.funcs[5]? = some Try.f5 := by kernel_rfl
theorem n5 : (Try.f5.name == "runtime.NumGoroutine") = false := by kernel_rfl
/-! 6: slot.Right -/
def b6_0 : EC := EC.ops false [EOper.mk (some 2) (EOp.mv (Opd.c (V.bool false))) none]
def b6_1 : EC := EC.ops false [EOper.mk (some 3) (EOp.mv (Opd.t 0)) none, EOper.mk (some 4) (EOp.len false (Opd.t 3)) none, EOper.mk (some 5) (EOp.bin .gtr (Opd.t 4)
  (Opd.c (V.int .i64 (0)))) none, EOper.mk (some 6) (EOp.mv (Opd.t 5)) none, EOper.mk (some 7) (EOp.mv (Opd.t 0)) (some (6, true)), EOper.mk (some 8) (EOp.len false (Opd.t
  7)) (some (6, true)), EOper.mk (some 9) (EOp.bin .leq (Opd.t 8) (Opd.c (V.int .i64 (32)))) (some (6, true)), EOper.mk (some 10) (EOp.pick (Opd.t 6) (Opd.t 9) (Opd.c
  (V.bool false))) none, EOper.mk (some 11) (EOp.mv (Opd.t 10)) none, EOper.mk (some 12) (EOp.mv (Opd.t 0)) (some (11, true)), EOper.mk (some 13) (EOp.call (Opd.f 13)
  [Opd.t 12, Opd.f 14]) (some (11, true)), EOper.mk (some 14) (EOp.pick (Opd.t 11) (Opd.t 13) (Opd.c (V.bool false))) none, EOper.mk (some 2) (EOp.mv (Opd.t 14)) none]
def b6_2 : EC := EC.ret
def r6_2 : EC := b6_2
def r6_1 : EC := EC.seq b6_1 r6_2
def r6_0 : EC := EC.seq b6_0 r6_1
def e6 : EFun := EFun.mk 15 [ERes.t 2] r6_0
theorem c6 : cFun Try.prog 0 (fun _ => false) Try.f6 = some e6 := by kernel_rfl
theorem x6 : Try.prog.funcs[6]? = some Try.f6 := by kernel_rfl
theorem n6 : (Try.f6.name == "runtime.NumGoroutine") = false := by kernel_rfl
/-! 7: slot.Owner -/
def b7_0 : EC := EC.ops false [EOper.mk (some 4) (EOp.mv (Opd.c (V.int .i64 (0)))) none]
def b7_1 : EC := EC.seq (EC.ops false [EOper.mk (some 5) (EOp.mv (Opd.t 0)) none, EOper.mk (some 6) (EOp.mv (Opd.t 1)) none, EOper.mk (some 7) (EOp.bslice 3 1 [V.int .i64
  (0)] [(0, 1, Opd.t 6)]) none, EOper.mk (some 8) (EOp.call (Opd.f 15) [Opd.t 5, Opd.c (V.int .i64 (0)), Opd.t 7]) none, EOper.mk (some 9) (EOp.un .not (Opd.t 8)) none])
  (EC.cond (Opd.t 9) (EC.seq (EC.ops false [EOper.mk (some 4) (EOp.mv (Opd.c (V.int .i64 (-1)))) none]) EC.ret) EC.skip)
def b7_2 : EC := EC.ops false [EOper.mk (some 10) (EOp.mv (Opd.t 0)) none, EOper.mk (some 11) (EOp.mv (Opd.t 1)) none, EOper.mk (some 12) (EOp.mv (Opd.t 0)) none, EOper.mk
  (some 13) (EOp.len false (Opd.t 12)) none, EOper.mk (some 14) (EOp.bin .rem (Opd.t 11) (Opd.t 13)) none, EOper.mk (some 15) (EOp.ixs 1 (Opd.t 10) (Opd.t 14)) none,
  EOper.mk (some 16) (EOp.ld false 1 (Opd.t 15)) none, EOper.mk (some 4) (EOp.mv (Opd.t 16)) none]
def b7_3 : EC := EC.ret
def r7_3 : EC := b7_3
def r7_2 : EC := EC.seq b7_2 r7_3
def r7_1 : EC := EC.seq b7_1 r7_2
def r7_0 : EC := EC.seq b7_0 r7_1
def e7 : EFun := EFun.mk 17 [ERes.t 4] r7_0
theorem c7 : cFun Try.prog 0 (fun _ => false) Try.f7 = some e7 := by kernel_rfl
theorem x7 : Try.prog.funcs[7]? = some Try.f7 := by kernel_rfl
theorem n7 : (Try.f7.name == "runtime.NumGoroutine") = false := by kernel_rfl
/-! 8: slot.Next -/
def b8_0 : EC := EC.ops false [EOper.mk (some 6) (EOp.mv (Opd.c (V.int .i64 (0)))) none, EOper.mk (some 7) (EOp.mv (Opd.c (V.bool false))) none]
def b8_1 : EC := EC.seq (EC.ops false [EOper.mk (some 9) (EOp.mv (Opd.t 0)) none, EOper.mk (some 10) (EOp.mv (Opd.t 1)) none, EOper.mk (some 11) (EOp.mv (Opd.t 2)) none,
  EOper.mk (some 12) (EOp.bslice 3 1 [V.int .i64 (0)] [(0, 1, Opd.t 11)]) none, EOper.mk (some 13) (EOp.call (Opd.f 15) [Opd.t 9, Opd.t 10, Opd.t 12]) none, EOper.mk (some
  14) (EOp.un .not (Opd.t 13)) none]) (EC.cond (Opd.t 14) (EC.seq (EC.ops false [EOper.mk (some 6) (EOp.mv (Opd.c (V.int .i64 (0)))) none, EOper.mk (some 7) (EOp.mv (Opd.c
  (V.bool false))) none]) EC.ret) EC.skip)
def b8_2 : EC := EC.ops false [EOper.mk (some 15) (EOp.mv (Opd.t 0)) none, EOper.mk (some 16) (EOp.mv (Opd.t 1)) none, EOper.mk (some 17) (EOp.mv (Opd.t 2)) none, EOper.mk
  (some 18) (EOp.call (Opd.f 16) [Opd.t 15, Opd.t 16, Opd.t 17]) none, EOper.mk (some 8) (EOp.mv (Opd.t 18)) none]
def b8_3 : EC := EC.seq (EC.ops false [EOper.mk (some 19) (EOp.mv (Opd.t 8)) none, EOper.mk (some 20) (EOp.bin .lss (Opd.t 19) (Opd.c (V.int .i64 (0)))) none]) (EC.cond
  (Opd.t 20) (EC.seq (EC.ops false [EOper.mk (some 6) (EOp.mv (Opd.c (V.int .i64 (0)))) none, EOper.mk (some 7) (EOp.mv (Opd.c (V.bool false))) none]) EC.ret) EC.skip)
def b8_4 : EC := EC.ops false [EOper.mk (some 21) (EOp.mv (Opd.t 2)) none, EOper.mk (some 22) (EOp.mv (Opd.t 8)) none, EOper.mk (some 23) (EOp.bin .add (Opd.t 21) (Opd.t
  22)) none, EOper.mk (some 6) (EOp.mv (Opd.t 23)) none, EOper.mk (some 7) (EOp.mv (Opd.c (V.bool true))) none]
def b8_5 : EC := EC.ret
def r8_5 : EC := b8_5
def r8_4 : EC := EC.seq b8_4 r8_5
def r8_3 : EC := EC.seq b8_3 r8_4
def r8_2 : EC := EC.seq b8_2 r8_3
def r8_1 : EC := EC.seq b8_1 r8_2
def r8_0 : EC := EC.seq b8_0 r8_1
def e8 : EFun := EFun.mk 24 [ERes.t 6, ERes.t 7] r8_0
theorem c8 : cFun Try.prog 0 (fun _ => false) Try.f8 = some e8 := by kernel_rfl
theorem x8 : Try.prog.funcs[8]? = some Try.f8 := by kernel_rfl
theorem n8 : (Try.f8.name == "runtime.NumGoroutine") = false := by kernel_rfl
/-! 10: slot.Wait -/
def l10_0p0 : EC := EC.ops false [EOper.mk (some 14) (EOp.bin .lss (Opd.t 13) (Opd.t 12)) none]
def l10_0p1 : EC := EC.cond (Opd.t 14) EC.skip (EC.exit 0)
def l10_0p2 : EC := EC.block 1 (EC.seq (EC.ops false [EOper.mk (some 15) (EOp.mv (Opd.t 13)) none, EOper.mk (some 6) (EOp.mv (Opd.t 15)) none]) (EC.ops false [EOper.mk
  (some 16) (EOp.mv (Opd.t 5)) none, EOper.mk (some 17) (EOp.mv (Opd.t 0)) none, EOper.mk (some 18) (EOp.mv (Opd.t 1)) none, EOper.mk (some 19) (EOp.mv (Opd.t 6)) none,
  EOper.mk (some 20) (EOp.call (Opd.f 16) [Opd.t 17, Opd.t 18, Opd.t 19]) none, EOper.mk (some 21) (EOp.mm true (Opd.t 16) (Opd.t 20)) none, EOper.mk (some 5) (EOp.mv
  (Opd.t 21)) none]))
def l10_0p3 : EC := EC.ops false [EOper.mk (some 22) (EOp.bin .add (Opd.t 13) (Opd.c (V.int .i64 (1)))) none, EOper.mk (some 13) (EOp.mv (Opd.t 22)) none]
def l10_0r3 : EC := l10_0p3
def l10_0r2 : EC := EC.seq l10_0p2 l10_0r3
def l10_0r1 : EC := EC.seq l10_0p1 l10_0r2
def l10_0r0 : EC := EC.seq l10_0p0 l10_0r1
def l10_0 : EC := l10_0r0
def b10_0 : EC := EC.ops false [EOper.mk (some 4) (EOp.mv (Opd.c (V.int .i64 (0)))) none]
def b10_1 : EC := EC.seq (EC.ops false [EOper.mk (some 7) (EOp.mv (Opd.t 0)) none, EOper.mk (some 8) (EOp.mv (Opd.t 1)) none, EOper.mk (some 9) (EOp.call (Opd.f 15) [Opd.t
  7, Opd.t 8, Opd.c (V.sl none 0 0)]) none, EOper.mk (some 10) (EOp.un .not (Opd.t 9)) none]) (EC.cond (Opd.t 10) (EC.seq (EC.ops false [EOper.mk (some 4) (EOp.mv (Opd.c
  (V.int .i64 (-1)))) none]) EC.ret) EC.skip)
def b10_2 : EC := EC.ops false [EOper.mk (some 5) (EOp.mv (Opd.c (V.int .i64 (-1)))) none]
def b10_3 : EC := EC.seq (EC.ops false [EOper.mk (some 11) (EOp.mv (Opd.t 0)) none, EOper.mk (some 12) (EOp.len false (Opd.t 11)) none, EOper.mk (some 13) (EOp.mv (Opd.c
  (V.int .i64 (0)))) none]) (EC.block 0 (EC.loop l10_0))
def b10_4 : EC := EC.ops false [EOper.mk (some 23) (EOp.mv (Opd.t 5)) none, EOper.mk (some 4) (EOp.mv (Opd.t 23)) none]
def b10_5 : EC := EC.ret
def r10_5 : EC := b10_5
def r10_4 : EC := EC.seq b10_4 r10_5
def r10_3 : EC := EC.seq b10_3 r10_4
def r10_2 : EC := EC.seq b10_2 r10_3
def r10_1 : EC := EC.seq b10_1 r10_2
def r10_0 : EC := EC.seq b10_0 r10_1
def e10 : EFun := EFun.mk 24 [ERes.t 4] r10_0
theorem c10 : cFun Try.prog 0 (fun _ => false) Try.f10 = some e10 := by kernel_rfl
theorem x10 : Try.prog.funcs[10]? = some Try.f10 := by kernel_rfl
theorem n10 : (Try.f10.name == "runtime.NumGoroutine") = false := by kernel_rfl
/-! 11: septumkit.SameInts -/
def l11_0p0 : EC := EC.seq (EC.ops false [EOper.mk (some 11) (EOp.mv (Opd.t 5)) none, EOper.mk (some 12) (EOp.mv (Opd.t 0)) none, EOper.mk (some 13) (EOp.len false (Opd.t
  12)) none, EOper.mk (some 14) (EOp.bin .lss (Opd.t 11) (Opd.t 13)) none]) (EC.cond (Opd.t 14) EC.skip (EC.exit 0))
def l11_0p1 : EC := EC.block 1 (EC.seq (EC.ops true [EOper.mk (some 17) (EOp.mv (Opd.t 0)) none, EOper.mk (some 18) (EOp.mv (Opd.t 5)) none, EOper.mk (some 19) (EOp.ixs 1
  (Opd.t 17) (Opd.t 18)) none, EOper.mk (some 20) (EOp.ld false 1 (Opd.t 19)) none, EOper.mk (some 21) (EOp.mv (Opd.t 1)) none, EOper.mk (some 22) (EOp.mv (Opd.t 5)) none,
  EOper.mk (some 23) (EOp.ixs 1 (Opd.t 21) (Opd.t 22)) none, EOper.mk (some 24) (EOp.ld false 1 (Opd.t 23)) none, EOper.mk (some 25) (EOp.bin .neq (Opd.t 20) (Opd.t 24))
  none]) (EC.cond (Opd.t 25) (EC.seq (EC.ops false [EOper.mk (some 4) (EOp.mv (Opd.c (V.bool false))) none]) EC.ret) EC.skip))
def l11_0p2 : EC := EC.ops false [EOper.mk (some 15) (EOp.mv (Opd.t 5)) none, EOper.mk (some 16) (EOp.bin .add (Opd.t 15) (Opd.c (V.int .i64 (1)))) none, EOper.mk (some 5)
  (EOp.mv (Opd.t 16)) none]
def l11_0r2 : EC := l11_0p2
def l11_0r1 : EC := EC.seq l11_0p1 l11_0r2
def l11_0r0 : EC := EC.seq l11_0p0 l11_0r1
def l11_0 : EC := l11_0r0
def b11_0 : EC := EC.ops false [EOper.mk (some 4) (EOp.mv (Opd.c (V.bool false))) none]
def b11_1 : EC := EC.seq (EC.ops false [EOper.mk (some 6) (EOp.mv (Opd.t 0)) none, EOper.mk (some 7) (EOp.len false (Opd.t 6)) none, EOper.mk (some 8) (EOp.mv (Opd.t 1))
  none, EOper.mk (some 9) (EOp.len false (Opd.t 8)) none, EOper.mk (some 10) (EOp.bin .neq (Opd.t 7) (Opd.t 9)) none]) (EC.cond (Opd.t 10) (EC.seq (EC.ops false [EOper.mk
  (some 4) (EOp.mv (Opd.c (V.bool false))) none]) EC.ret) EC.skip)
def b11_2 : EC := EC.seq (EC.ops false [EOper.mk (some 5) (EOp.mv (Opd.c (V.int .i64 (0)))) none]) (EC.block 0 (EC.loop l11_0))
def b11_3 : EC := EC.ops false [EOper.mk (some 4) (EOp.mv (Opd.c (V.bool true))) none]
def b11_4 : EC := EC.ret
def r11_4 : EC := b11_4
def r11_3 : EC := EC.seq b11_3 r11_4
def r11_2 : EC := EC.seq b11_2 r11_3
def r11_1 : EC := EC.seq b11_1 r11_2
def r11_0 : EC := EC.seq b11_0 r11_1
def e11 : EFun := EFun.mk 26 [ERes.t 4] r11_0
theorem c11 : cFun Try.prog 0 (fun _ => false) Try.f11 = some e11 := by kernel_rfl
theorem x11 : Try.prog.funcs[11]? = some Try.f11 := by kernel_rfl
theorem n11 : (Try.f11.name == "runtime.NumGoroutine") = false := by kernel_rfl
/-! 12: slot.Turn -/
def b12_0 : EC := EC.ops false [EOper.mk (some 4) (EOp.mv (Opd.c (V.sl none 0 0))) none]
def b12_1 : EC := EC.seq (EC.ops false [EOper.mk (some 6) (EOp.mv (Opd.t 0)) none, EOper.mk (some 7) (EOp.call (Opd.f 6) [Opd.t 6]) none, EOper.mk (some 8) (EOp.un .not
  (Opd.t 7)) none]) (EC.cond (Opd.t 8) (EC.seq (EC.ops false [EOper.mk (some 4) (EOp.mv (Opd.c (V.sl none 0 0))) none]) EC.ret) EC.skip)
def b12_2 : EC := EC.ops false [EOper.mk (some 9) (EOp.mv (Opd.t 1)) none, EOper.mk (some 10) (EOp.mv (Opd.t 0)) none, EOper.mk (some 11) (EOp.len false (Opd.t 10)) none,
  EOper.mk (some 12) (EOp.bin .rem (Opd.t 9) (Opd.t 11)) none, EOper.mk (some 5) (EOp.mv (Opd.t 12)) none]
def b12_3 : EC := EC.seq (EC.ops false [EOper.mk (some 13) (EOp.mv (Opd.t 5)) none, EOper.mk (some 14) (EOp.bin .lss (Opd.t 13) (Opd.c (V.int .i64 (0)))) none]) (EC.cond
  (Opd.t 14) (EC.ops false [EOper.mk (some 15) (EOp.mv (Opd.t 5)) none, EOper.mk (some 16) (EOp.mv (Opd.t 0)) none, EOper.mk (some 17) (EOp.len false (Opd.t 16)) none,
  EOper.mk (some 18) (EOp.bin .add (Opd.t 15) (Opd.t 17)) none, EOper.mk (some 5) (EOp.mv (Opd.t 18)) none]) EC.skip)
def b12_4 : EC := EC.opsX (Sch.sil (EOper.mk (some 19) (EOp.mv (Opd.t 0)) none) (Sch.sil (EOper.mk (some 20) (EOp.mv (Opd.t 5)) none) (Sch.sil (EOper.mk (some 21) (EOp.slc
  1 (Opd.t 19) (some (Opd.t 20)) none) none) (Sch.sil (EOper.mk (some 22) (EOp.mv (Opd.t 0)) none) (Sch.sil (EOper.mk (some 23) (EOp.mv (Opd.t 5)) none) (Sch.sil (EOper.mk
  (some 24) (EOp.slc 1 (Opd.t 22) none (some (Opd.t 23))) none) (Sch.op (EOper.mk (some 25) (EOp.bslice 22 2 [V.sl none 0 0, V.sl none 0 0] [(0, 1, Opd.t 21), (1, 1, Opd.t
  24)]) none) (Sch.op (EOper.mk (some 26) (EOp.call (Opd.f 18) [Opd.t 25]) none) (Sch.sil (EOper.mk (some 4) (EOp.mv (Opd.t 26)) none) Sch.done)))))))))
def b12_5 : EC := EC.ret
def r12_5 : EC := b12_5
def r12_4 : EC := EC.seq b12_4 r12_5
def r12_3 : EC := EC.seq b12_3 r12_4
def r12_2 : EC := EC.seq b12_2 r12_3
def r12_1 : EC := EC.seq b12_1 r12_2
def r12_0 : EC := EC.seq b12_0 r12_1
def e12 : EFun := EFun.mk 27 [ERes.t 4] r12_0
theorem c12 : cFun Try.prog 0 (fun d => d == 3000000) Try.f12 = some e12 := by kernel_rfl
theorem x12 : Try.prog.funcs[12]? = some Try.f12 := by kernel_rfl
theorem n12 : (Try.f12.name == "runtime.NumGoroutine") = false := by kernel_rfl
/-! 13: slot.all:int -/
def b13_0 : EC := EC.ops false [EOper.mk (some 3) (EOp.box false 33 (Opd.t 1)) none, EOper.mk (some 4) (EOp.mv (Opd.c (V.bool false))) none]
def b13_1 : EC := EC.ops false [EOper.mk (some 5) (EOp.mv (Opd.t 0)) none, EOper.mk (some 6) (EOp.mkfn 20 [] [Opd.t 3]) none, EOper.mk (some 7) (EOp.call (Opd.f 19) [Opd.t
  5, Opd.t 6]) none, EOper.mk (some 8) (EOp.un .not (Opd.t 7)) none, EOper.mk (some 4) (EOp.mv (Opd.t 8)) none]
def b13_2 : EC := EC.ret
def r13_2 : EC := b13_2
def r13_1 : EC := EC.seq b13_1 r13_2
def r13_0 : EC := EC.seq b13_0 r13_1
def e13 : EFun := EFun.mk 9 [ERes.t 4] r13_0
theorem c13 : cFun Try.prog 0 (fun d => d == 3) Try.f13 = some e13 := by kernel_rfl
theorem x13 : Try.prog.funcs[13]? = some Try.f13 := by kernel_rfl
theorem n13 : (Try.f13.name == "runtime.NumGoroutine") = false := by kernel_rfl
/-! 14: slot.Right$1 -/
def b14_0 : EC := EC.ops false [EOper.mk (some 2) (EOp.mv (Opd.c (V.bool false))) none]
def b14_1 : EC := EC.ops false [EOper.mk (some 3) (EOp.mv (Opd.t 0)) none, EOper.mk (some 4) (EOp.bin .geq (Opd.t 3) (Opd.c (V.int .i64 (-1)))) none, EOper.mk (some 5)
  (EOp.mv (Opd.t 4)) none, EOper.mk (some 6) (EOp.mv (Opd.t 0)) (some (5, true)), EOper.mk (some 7) (EOp.bin .lss (Opd.t 6) (Opd.c (V.int .i64 (8)))) (some (5, true)),
  EOper.mk (some 8) (EOp.pick (Opd.t 5) (Opd.t 7) (Opd.c (V.bool false))) none, EOper.mk (some 2) (EOp.mv (Opd.t 8)) none]
def b14_2 : EC := EC.ret
def r14_2 : EC := b14_2
def r14_1 : EC := EC.seq b14_1 r14_2
def r14_0 : EC := EC.seq b14_0 r14_1
def e14 : EFun := EFun.mk 9 [ERes.t 2] r14_0
theorem c14 : cFun Try.prog 0 (fun _ => false) Try.f14 = some e14 := by kernel_rfl
theorem x14 : Try.prog.funcs[14]? = some Try.f14 := by kernel_rfl
theorem n14 : (Try.f14.name == "runtime.NumGoroutine") = false := by kernel_rfl
/-! 15: slot.may -/
def b15_0 : EC := EC.ops false [EOper.mk (some 6) (EOp.mv (Opd.c (V.bool false))) none]
def b15_1 : EC := EC.ops false [EOper.mk (some 7) (EOp.mv (Opd.t 0)) none, EOper.mk (some 8) (EOp.call (Opd.f 6) [Opd.t 7]) none, EOper.mk (some 9) (EOp.mv (Opd.t 8))
  none, EOper.mk (some 10) (EOp.mv (Opd.t 1)) (some (9, true)), EOper.mk (some 11) (EOp.bin .geq (Opd.t 10) (Opd.c (V.int .i64 (0)))) (some (9, true)), EOper.mk (some 12)
  (EOp.pick (Opd.t 9) (Opd.t 11) (Opd.c (V.bool false))) none, EOper.mk (some 13) (EOp.mv (Opd.t 12)) none, EOper.mk (some 14) (EOp.mv (Opd.t 1)) (some (13, true)),
  EOper.mk (some 15) (EOp.bin .lss (Opd.t 14) (Opd.c (V.int .i64 (8)))) (some (13, true)), EOper.mk (some 16) (EOp.pick (Opd.t 13) (Opd.t 15) (Opd.c (V.bool false))) none,
  EOper.mk (some 17) (EOp.mv (Opd.t 16)) none, EOper.mk (some 18) (EOp.mv (Opd.t 2)) (some (17, true)), EOper.mk (some 19) (EOp.call (Opd.f 13) [Opd.t 18, Opd.f 21]) (some
  (17, true)), EOper.mk (some 20) (EOp.pick (Opd.t 17) (Opd.t 19) (Opd.c (V.bool false))) none, EOper.mk (some 6) (EOp.mv (Opd.t 20)) none]
def b15_2 : EC := EC.ret
def r15_2 : EC := b15_2
def r15_1 : EC := EC.seq b15_1 r15_2
def r15_0 : EC := EC.seq b15_0 r15_1
def e15 : EFun := EFun.mk 21 [ERes.t 6] r15_0
theorem c15 : cFun Try.prog 0 (fun _ => false) Try.f15 = some e15 := by kernel_rfl
theorem x15 : Try.prog.funcs[15]? = some Try.f15 := by kernel_rfl
theorem n15 : (Try.f15.name == "runtime.NumGoroutine") = false := by kernel_rfl
/-! 16: slot.ahead -/
def b16_0 : EC := EC.ops false [EOper.mk (some 6) (EOp.mv (Opd.c (V.int .i64 (0)))) none]
def b16_1 : EC := EC.ops false [EOper.mk (some 9) (EOp.mv (Opd.t 2)) none, EOper.mk (some 10) (EOp.mv (Opd.t 0)) none, EOper.mk (some 11) (EOp.len false (Opd.t 10)) none,
  EOper.mk (some 12) (EOp.bin .rem (Opd.t 9) (Opd.t 11)) none, EOper.mk (some 2) (EOp.mv (Opd.t 12)) none]
def b16_2 : EC := EC.seq (EC.ops false [EOper.mk (some 13) (EOp.mv (Opd.t 0)) none, EOper.mk (some 14) (EOp.mv (Opd.t 2)) none, EOper.mk (some 15) (EOp.slc 1 (Opd.t 13)
  (some (Opd.t 14)) none) none, EOper.mk (some 16) (EOp.mv (Opd.t 1)) none, EOper.mk (some 17) (EOp.call (Opd.f 22) [Opd.t 15, Opd.t 16]) none, EOper.mk (some 7) (EOp.mv
  (Opd.t 17)) none]) (EC.seq (EC.ops false [EOper.mk (some 18) (EOp.mv (Opd.t 7)) none, EOper.mk (some 19) (EOp.bin .geq (Opd.t 18) (Opd.c (V.int .i64 (0)))) none])
  (EC.cond (Opd.t 19) (EC.seq (EC.ops false [EOper.mk (some 20) (EOp.mv (Opd.t 7)) none, EOper.mk (some 6) (EOp.mv (Opd.t 20)) none]) EC.ret) EC.skip))
def b16_3 : EC := EC.seq (EC.ops false [EOper.mk (some 21) (EOp.mv (Opd.t 0)) none, EOper.mk (some 22) (EOp.mv (Opd.t 2)) none, EOper.mk (some 23) (EOp.slc 1 (Opd.t 21)
  none (some (Opd.t 22))) none, EOper.mk (some 24) (EOp.mv (Opd.t 1)) none, EOper.mk (some 25) (EOp.call (Opd.f 22) [Opd.t 23, Opd.t 24]) none, EOper.mk (some 8) (EOp.mv
  (Opd.t 25)) none]) (EC.seq (EC.ops false [EOper.mk (some 26) (EOp.mv (Opd.t 8)) none, EOper.mk (some 27) (EOp.bin .geq (Opd.t 26) (Opd.c (V.int .i64 (0)))) none])
  (EC.cond (Opd.t 27) (EC.seq (EC.ops false [EOper.mk (some 28) (EOp.mv (Opd.t 0)) none, EOper.mk (some 29) (EOp.len false (Opd.t 28)) none, EOper.mk (some 30) (EOp.mv
  (Opd.t 2)) none, EOper.mk (some 31) (EOp.bin .sub (Opd.t 29) (Opd.t 30)) none, EOper.mk (some 32) (EOp.mv (Opd.t 8)) none, EOper.mk (some 33) (EOp.bin .add (Opd.t 31)
  (Opd.t 32)) none, EOper.mk (some 6) (EOp.mv (Opd.t 33)) none]) EC.ret) EC.skip))
def b16_4 : EC := EC.ops false [EOper.mk (some 6) (EOp.mv (Opd.c (V.int .i64 (-1)))) none]
def b16_5 : EC := EC.ret
def r16_5 : EC := b16_5
def r16_4 : EC := EC.seq b16_4 r16_5
def r16_3 : EC := EC.seq b16_3 r16_4
def r16_2 : EC := EC.seq b16_2 r16_3
def r16_1 : EC := EC.seq b16_1 r16_2
def r16_0 : EC := EC.seq b16_0 r16_1
def e16 : EFun := EFun.mk 34 [ERes.t 6] r16_0
theorem c16 : cFun Try.prog 0 (fun _ => false) Try.f16 = some e16 := by kernel_rfl
theorem x16 : Try.prog.funcs[16]? = some Try.f16 := by kernel_rfl
theorem n16 : (Try.f16.name == "runtime.NumGoroutine") = false := by kernel_rfl
/-! 17: slot.of -/
theorem x17 : Try.prog.funcs[17]? = some Try.f17 := by kernel_rfl
/-! 18: slices.Concat:int -/
def l18_0p0 : EC := EC.ops false [EOper.mk (some 12) (EOp.bin .lss (Opd.t 11) (Opd.t 10)) none]
def l18_0p1 : EC := EC.cond (Opd.t 12) EC.skip (EC.exit 0)
def l18_0p2 : EC := EC.block 1 (EC.seq (EC.ops false [EOper.mk (some 13) (EOp.ixs 1 (Opd.t 9) (Opd.t 11)) none, EOper.mk (some 14) (EOp.ld false 1 (Opd.t 13)) none,
  EOper.mk (some 5) (EOp.mv (Opd.t 14)) none]) (EC.seq (EC.ops false [EOper.mk (some 15) (EOp.mv (Opd.t 3)) none, EOper.mk (some 16) (EOp.mv (Opd.t 5)) none, EOper.mk
  (some 17) (EOp.len false (Opd.t 16)) none, EOper.mk (some 18) (EOp.bin .add (Opd.t 15) (Opd.t 17)) none, EOper.mk (some 3) (EOp.mv (Opd.t 18)) none]) (EC.seq (EC.ops
  false [EOper.mk (some 19) (EOp.mv (Opd.t 3)) none, EOper.mk (some 20) (EOp.bin .lss (Opd.t 19) (Opd.c (V.int .i64 (0)))) none]) (EC.cond (Opd.t 20) (EC.ops false
  [EOper.mk (some 21) EOp.stuck none, EOper.mk none EOp.stuck none]) EC.skip))))
def l18_0p3 : EC := EC.ops false [EOper.mk (some 22) (EOp.bin .add (Opd.t 11) (Opd.c (V.int .i64 (1)))) none, EOper.mk (some 11) (EOp.mv (Opd.t 22)) none]
def l18_0r3 : EC := l18_0p3
def l18_0r2 : EC := EC.seq l18_0p2 l18_0r3
def l18_0r1 : EC := EC.seq l18_0p1 l18_0r2
def l18_0r0 : EC := EC.seq l18_0p0 l18_0r1
def l18_0 : EC := l18_0r0
def l18_1p0 : EC := EC.ops false [EOper.mk (some 28) (EOp.bin .lss (Opd.t 27) (Opd.t 26)) none]
def l18_1p1 : EC := EC.cond (Opd.t 28) EC.skip (EC.exit 2)
def l18_1p2 : EC := EC.block 3 (EC.seq (EC.ops false [EOper.mk (some 29) (EOp.ixs 1 (Opd.t 25) (Opd.t 27)) none, EOper.mk (some 30) (EOp.ld false 1 (Opd.t 29)) none,
  EOper.mk (some 8) (EOp.mv (Opd.t 30)) none]) (EC.ops false [EOper.mk (some 31) (EOp.mv (Opd.t 6)) none, EOper.mk (some 32) (EOp.mv (Opd.t 8)) none, EOper.mk (some 33)
  (EOp.app 3 1 8 [V.int .i64 (0)] (Opd.t 31) (Opd.t 32)) none, EOper.mk (some 6) (EOp.mv (Opd.t 33)) none]))
def l18_1p3 : EC := EC.ops false [EOper.mk (some 34) (EOp.bin .add (Opd.t 27) (Opd.c (V.int .i64 (1)))) none, EOper.mk (some 27) (EOp.mv (Opd.t 34)) none]
def l18_1r3 : EC := l18_1p3
def l18_1r2 : EC := EC.seq l18_1p2 l18_1r3
def l18_1r1 : EC := EC.seq l18_1p1 l18_1r2
def l18_1r0 : EC := EC.seq l18_1p0 l18_1r1
def l18_1 : EC := l18_1r0
def b18_0 : EC := EC.ops false [EOper.mk (some 2) (EOp.mv (Opd.c (V.sl none 0 0))) none]
def b18_1 : EC := EC.ops false [EOper.mk (some 3) (EOp.mv (Opd.c (V.int .i64 (0)))) none]
def b18_2 : EC := EC.seq (EC.ops false [EOper.mk (some 9) (EOp.mv (Opd.t 0)) none, EOper.mk (some 10) (EOp.len false (Opd.t 9)) none, EOper.mk (some 11) (EOp.mv (Opd.c
  (V.int .i64 (0)))) none]) (EC.block 0 (EC.loop l18_0))
def b18_3 : EC := EC.ops false [EOper.mk (some 23) (EOp.mv (Opd.t 3)) none, EOper.mk (some 24) (EOp.call (Opd.f 24) [Opd.c (V.sl none 0 0), Opd.t 23]) none, EOper.mk (some
  6) (EOp.mv (Opd.t 24)) none]
def b18_4 : EC := EC.seq (EC.ops false [EOper.mk (some 25) (EOp.mv (Opd.t 0)) none, EOper.mk (some 26) (EOp.len false (Opd.t 25)) none, EOper.mk (some 27) (EOp.mv (Opd.c
  (V.int .i64 (0)))) none]) (EC.block 2 (EC.loop l18_1))
def b18_5 : EC := EC.ops false [EOper.mk (some 35) (EOp.mv (Opd.t 6)) none, EOper.mk (some 2) (EOp.mv (Opd.t 35)) none]
def b18_6 : EC := EC.ret
def r18_6 : EC := b18_6
def r18_5 : EC := EC.seq b18_5 r18_6
def r18_4 : EC := EC.seq b18_4 r18_5
def r18_3 : EC := EC.seq b18_3 r18_4
def r18_2 : EC := EC.seq b18_2 r18_3
def r18_1 : EC := EC.seq b18_1 r18_2
def r18_0 : EC := EC.seq b18_0 r18_1
def e18 : EFun := EFun.mk 36 [ERes.t 2] r18_0
theorem c18 : cFun Try.prog 0 (fun _ => false) Try.f18 = some e18 := by kernel_rfl
theorem x18 : Try.prog.funcs[18]? = some Try.f18 := by kernel_rfl
theorem n18 : (Try.f18.name == "runtime.NumGoroutine") = false := by kernel_rfl
/-! 19: slices.ContainsFunc:int -/
def b19_0 : EC := EC.ops false [EOper.mk (some 4) (EOp.mv (Opd.c (V.bool false))) none]
def b19_1 : EC := EC.ops false [EOper.mk (some 5) (EOp.mv (Opd.t 0)) none, EOper.mk (some 6) (EOp.mv (Opd.t 1)) none, EOper.mk (some 7) (EOp.call (Opd.f 25) [Opd.t 5,
  Opd.t 6]) none, EOper.mk (some 8) (EOp.bin .geq (Opd.t 7) (Opd.c (V.int .i64 (0)))) none, EOper.mk (some 4) (EOp.mv (Opd.t 8)) none]
def b19_2 : EC := EC.ret
def r19_2 : EC := b19_2
def r19_1 : EC := EC.seq b19_1 r19_2
def r19_0 : EC := EC.seq b19_0 r19_1
def e19 : EFun := EFun.mk 9 [ERes.t 4] r19_0
theorem c19 : cFun Try.prog 0 (fun _ => false) Try.f19 = some e19 := by kernel_rfl
theorem x19 : Try.prog.funcs[19]? = some Try.f19 := by kernel_rfl
theorem n19 : (Try.f19.name == "runtime.NumGoroutine") = false := by kernel_rfl
/-! 20: slot.all[int]$1 -/
def b20_0 : EC := EC.ops false [EOper.mk (some 3) (EOp.mv (Opd.c (V.bool false))) none]
def b20_1 : EC := EC.ops false [EOper.mk (some 4) (EOp.ld false 1 (Opd.t 1)) none, EOper.mk (some 5) (EOp.mv (Opd.t 0)) none, EOper.mk (some 6) (EOp.call (Opd.t 4) [Opd.t
  5]) none, EOper.mk (some 7) (EOp.un .not (Opd.t 6)) none, EOper.mk (some 3) (EOp.mv (Opd.t 7)) none]
def b20_2 : EC := EC.ret
def r20_2 : EC := b20_2
def r20_1 : EC := EC.seq b20_1 r20_2
def r20_0 : EC := EC.seq b20_0 r20_1
def e20 : EFun := EFun.mk 8 [ERes.t 3] r20_0
theorem c20 : cFun Try.prog 0 (fun _ => false) Try.f20 = some e20 := by kernel_rfl
theorem x20 : Try.prog.funcs[20]? = some Try.f20 := by kernel_rfl
theorem n20 : (Try.f20.name == "runtime.NumGoroutine") = false := by kernel_rfl
/-! 21: slot.may$1 -/
def b21_0 : EC := EC.ops false [EOper.mk (some 2) (EOp.mv (Opd.c (V.bool false))) none]
def b21_1 : EC := EC.ops false [EOper.mk (some 3) (EOp.mv (Opd.t 0)) none, EOper.mk (some 4) (EOp.bin .geq (Opd.t 3) (Opd.c (V.int .i64 (0)))) none, EOper.mk (some 5)
  (EOp.mv (Opd.t 4)) none, EOper.mk (some 6) (EOp.mv (Opd.t 0)) (some (5, true)), EOper.mk (some 7) (EOp.bin .leq (Opd.t 6) (Opd.c (V.int .i64 (1099511627776)))) (some (5,
  true)), EOper.mk (some 8) (EOp.pick (Opd.t 5) (Opd.t 7) (Opd.c (V.bool false))) none, EOper.mk (some 2) (EOp.mv (Opd.t 8)) none]
def b21_2 : EC := EC.ret
def r21_2 : EC := b21_2
def r21_1 : EC := EC.seq b21_1 r21_2
def r21_0 : EC := EC.seq b21_0 r21_1
def e21 : EFun := EFun.mk 9 [ERes.t 2] r21_0
theorem c21 : cFun Try.prog 0 (fun _ => false) Try.f21 = some e21 := by kernel_rfl
theorem x21 : Try.prog.funcs[21]? = some Try.f21 := by kernel_rfl
theorem n21 : (Try.f21.name == "runtime.NumGoroutine") = false := by kernel_rfl
/-! 22: slices.Index:int -/
def l22_0p0 : EC := EC.ops false [EOper.mk (some 9) (EOp.bin .lss (Opd.t 8) (Opd.t 7)) none]
def l22_0p1 : EC := EC.cond (Opd.t 9) EC.skip (EC.exit 0)
def l22_0p2 : EC := EC.block 1 (EC.seq (EC.ops false [EOper.mk (some 10) (EOp.mv (Opd.t 8)) none, EOper.mk (some 5) (EOp.mv (Opd.t 10)) none]) (EC.seq (EC.ops false
  [EOper.mk (some 11) (EOp.mv (Opd.t 1)) none, EOper.mk (some 12) (EOp.mv (Opd.t 0)) none, EOper.mk (some 13) (EOp.mv (Opd.t 5)) none, EOper.mk (some 14) (EOp.ixs 1 (Opd.t
  12) (Opd.t 13)) none, EOper.mk (some 15) (EOp.ld false 1 (Opd.t 14)) none, EOper.mk (some 16) (EOp.bin .eql (Opd.t 11) (Opd.t 15)) none]) (EC.cond (Opd.t 16) (EC.seq
  (EC.ops false [EOper.mk (some 17) (EOp.mv (Opd.t 5)) none, EOper.mk (some 4) (EOp.mv (Opd.t 17)) none]) EC.ret) EC.skip)))
def l22_0p3 : EC := EC.ops false [EOper.mk (some 18) (EOp.bin .add (Opd.t 8) (Opd.c (V.int .i64 (1)))) none, EOper.mk (some 8) (EOp.mv (Opd.t 18)) none]
def l22_0r3 : EC := l22_0p3
def l22_0r2 : EC := EC.seq l22_0p2 l22_0r3
def l22_0r1 : EC := EC.seq l22_0p1 l22_0r2
def l22_0r0 : EC := EC.seq l22_0p0 l22_0r1
def l22_0 : EC := l22_0r0
def b22_0 : EC := EC.ops false [EOper.mk (some 4) (EOp.mv (Opd.c (V.int .i64 (0)))) none]
def b22_1 : EC := EC.seq (EC.ops false [EOper.mk (some 6) (EOp.mv (Opd.t 0)) none, EOper.mk (some 7) (EOp.len false (Opd.t 6)) none, EOper.mk (some 8) (EOp.mv (Opd.c
  (V.int .i64 (0)))) none]) (EC.block 0 (EC.loop l22_0))
def b22_2 : EC := EC.ops false [EOper.mk (some 4) (EOp.mv (Opd.c (V.int .i64 (-1)))) none]
def b22_3 : EC := EC.ret
def r22_3 : EC := b22_3
def r22_2 : EC := EC.seq b22_2 r22_3
def r22_1 : EC := EC.seq b22_1 r22_2
def r22_0 : EC := EC.seq b22_0 r22_1
def e22 : EFun := EFun.mk 19 [ERes.t 4] r22_0
theorem c22 : cFun Try.prog 0 (fun _ => false) Try.f22 = some e22 := by kernel_rfl
theorem x22 : Try.prog.funcs[22]? = some Try.f22 := by kernel_rfl
theorem n22 : (Try.f22.name == "runtime.NumGoroutine") = false := by kernel_rfl
/-! 23: slot.of$1 -/
theorem x23 : Try.prog.funcs[23]? = some Try.f23 := by kernel_rfl
/-! 24: slices.Grow:int -/
def b24_0 : EC := EC.ops false [EOper.mk (some 4) (EOp.mv (Opd.c (V.sl none 0 0))) none]
def b24_1 : EC := EC.seq (EC.ops false [EOper.mk (some 5) (EOp.mv (Opd.t 1)) none, EOper.mk (some 6) (EOp.bin .lss (Opd.t 5) (Opd.c (V.int .i64 (0)))) none]) (EC.cond
  (Opd.t 6) (EC.ops false [EOper.mk (some 7) EOp.stuck none, EOper.mk none EOp.stuck none]) EC.skip)
def b24_2 : EC := EC.seq (EC.ops false [EOper.mk (some 8) (EOp.mv (Opd.t 1)) none, EOper.mk (some 9) (EOp.mv (Opd.t 0)) none, EOper.mk (some 10) (EOp.capo (Opd.t 9)) none,
  EOper.mk (some 11) (EOp.mv (Opd.t 0)) none, EOper.mk (some 12) (EOp.len false (Opd.t 11)) none, EOper.mk (some 13) (EOp.bin .sub (Opd.t 10) (Opd.t 12)) none, EOper.mk
  (some 14) (EOp.bin .sub (Opd.t 8) (Opd.t 13)) none, EOper.mk (some 1) (EOp.mv (Opd.t 14)) none]) (EC.seq (EC.ops false [EOper.mk (some 15) (EOp.mv (Opd.t 1)) none,
  EOper.mk (some 16) (EOp.bin .gtr (Opd.t 15) (Opd.c (V.int .i64 (0)))) none]) (EC.cond (Opd.t 16) (EC.ops false [EOper.mk (some 17) (EOp.mv (Opd.t 0)) none, EOper.mk
  (some 18) (EOp.mv (Opd.t 0)) none, EOper.mk (some 19) (EOp.capo (Opd.t 18)) none, EOper.mk (some 20) (EOp.slc 1 (Opd.t 17) none (some (Opd.t 19))) none, EOper.mk (some
  21) (EOp.mv (Opd.t 1)) none, EOper.mk (some 22) (EOp.app 3 0 8 [V.int .i64 (0)] (Opd.t 20) (Opd.t 21)) none, EOper.mk (some 23) (EOp.mv (Opd.t 0)) none, EOper.mk (some
  24) (EOp.len false (Opd.t 23)) none, EOper.mk (some 25) (EOp.slc 1 (Opd.t 22) none (some (Opd.t 24))) none, EOper.mk (some 0) (EOp.mv (Opd.t 25)) none]) EC.skip))
def b24_3 : EC := EC.ops false [EOper.mk (some 26) (EOp.mv (Opd.t 0)) none, EOper.mk (some 4) (EOp.mv (Opd.t 26)) none]
def b24_4 : EC := EC.ret
def r24_4 : EC := b24_4
def r24_3 : EC := EC.seq b24_3 r24_4
def r24_2 : EC := EC.seq b24_2 r24_3
def r24_1 : EC := EC.seq b24_1 r24_2
def r24_0 : EC := EC.seq b24_0 r24_1
def e24 : EFun := EFun.mk 27 [ERes.t 4] r24_0
theorem c24 : cFun Try.prog 0 (fun _ => false) Try.f24 = some e24 := by kernel_rfl
theorem x24 : Try.prog.funcs[24]? = some Try.f24 := by kernel_rfl
theorem n24 : (Try.f24.name == "runtime.NumGoroutine") = false := by kernel_rfl
/-! 25: slices.IndexFunc:int -/
def l25_0p0 : EC := EC.ops false [EOper.mk (some 9) (EOp.bin .lss (Opd.t 8) (Opd.t 7)) none]
def l25_0p1 : EC := EC.cond (Opd.t 9) EC.skip (EC.exit 0)
def l25_0p2 : EC := EC.block 1 (EC.seq (EC.ops false [EOper.mk (some 10) (EOp.mv (Opd.t 8)) none, EOper.mk (some 5) (EOp.mv (Opd.t 10)) none]) (EC.seq (EC.ops false
  [EOper.mk (some 11) (EOp.mv (Opd.t 1)) none, EOper.mk (some 12) (EOp.mv (Opd.t 0)) none, EOper.mk (some 13) (EOp.mv (Opd.t 5)) none, EOper.mk (some 14) (EOp.ixs 1 (Opd.t
  12) (Opd.t 13)) none, EOper.mk (some 15) (EOp.ld false 1 (Opd.t 14)) none, EOper.mk (some 16) (EOp.call (Opd.t 11) [Opd.t 15]) none]) (EC.cond (Opd.t 16) (EC.seq (EC.ops
  false [EOper.mk (some 17) (EOp.mv (Opd.t 5)) none, EOper.mk (some 4) (EOp.mv (Opd.t 17)) none]) EC.ret) EC.skip)))
def l25_0p3 : EC := EC.ops false [EOper.mk (some 18) (EOp.bin .add (Opd.t 8) (Opd.c (V.int .i64 (1)))) none, EOper.mk (some 8) (EOp.mv (Opd.t 18)) none]
def l25_0r3 : EC := l25_0p3
def l25_0r2 : EC := EC.seq l25_0p2 l25_0r3
def l25_0r1 : EC := EC.seq l25_0p1 l25_0r2
def l25_0r0 : EC := EC.seq l25_0p0 l25_0r1
def l25_0 : EC := l25_0r0
def b25_0 : EC := EC.ops false [EOper.mk (some 4) (EOp.mv (Opd.c (V.int .i64 (0)))) none]
def b25_1 : EC := EC.seq (EC.ops false [EOper.mk (some 6) (EOp.mv (Opd.t 0)) none, EOper.mk (some 7) (EOp.len false (Opd.t 6)) none, EOper.mk (some 8) (EOp.mv (Opd.c
  (V.int .i64 (0)))) none]) (EC.block 0 (EC.loop l25_0))
def b25_2 : EC := EC.ops false [EOper.mk (some 4) (EOp.mv (Opd.c (V.int .i64 (-1)))) none]
def b25_3 : EC := EC.ret
def r25_3 : EC := b25_3
def r25_2 : EC := EC.seq b25_2 r25_3
def r25_1 : EC := EC.seq b25_1 r25_2
def r25_0 : EC := EC.seq b25_0 r25_1
def e25 : EFun := EFun.mk 19 [ERes.t 4] r25_0
theorem c25 : cFun Try.prog 0 (fun _ => false) Try.f25 = some e25 := by kernel_rfl
theorem x25 : Try.prog.funcs[25]? = some Try.f25 := by kernel_rfl
theorem n25 : (Try.f25.name == "runtime.NumGoroutine") = false := by kernel_rfl
end Go.Ev
