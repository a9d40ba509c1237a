/- dev: forms (printed by forms.py) -/
import Derived.Test.YtkheaekokmomhaaDoorChecked
import Derived.Test.YtkheaekokmomhaaDoorEvV
set_option linter.all false
namespace Go.Ev
open Go Go.Proofs
set_option maxRecDepth 1000000
/-! 3: septumlaw03.LanePlaces -/
def b3_0 : EC := EC.ops false [EOper.mk (some 6) (EOp.mv (Opd.c (V.bool false))) none]
def m3_0 : List Bool := [false, false, false, false, false, false, true, false, false, false, false, false, false, false, false, false, false, false, false, false, false, false, false, false, false, false]
def b3_1 : EC := EC.ops false [EOper.mk (some 7) (EOp.mv (Opd.t 0)) none, EOper.mk (some 8) (EOp.mv (Opd.t 1)) none, EOper.mk (some 9) (EOp.call (Opd.f 8) [Opd.t 7, Opd.t
  8]) none, EOper.mk (some 10) (EOp.mv (Opd.t 9)) none, EOper.mk (some 11) (EOp.mv (Opd.t 0)) (some (10, true)), EOper.mk (some 12) (EOp.mv (Opd.t 1)) (some (10, true)),
  EOper.mk (some 13) (EOp.call (Opd.f 9) [Opd.t 12, Opd.c (V.int .i64 (6))]) (some (10, true)), EOper.mk (some 14) (EOp.call (Opd.f 8) [Opd.t 11, Opd.t 13]) (some (10,
  true)), EOper.mk (some 15) (EOp.pick (Opd.t 10) (Opd.t 14) (Opd.c (V.bool false))) none, EOper.mk (some 16) (EOp.mv (Opd.t 15)) none, EOper.mk (some 17) (EOp.mv (Opd.t
  2)) (some (16, true)), EOper.mk (some 18) (EOp.call (Opd.f 10) [Opd.t 17]) (some (16, true)), EOper.mk (some 19) (EOp.mv (Opd.t 2)) (some (16, true)), EOper.mk (some 20)
  (EOp.call (Opd.f 11) [Opd.t 19]) (some (16, true)), EOper.mk (some 21) (EOp.bin .eql (Opd.t 18) (Opd.t 20)) (some (16, true)), EOper.mk (some 22) (EOp.pick (Opd.t 16)
  (Opd.t 21) (Opd.c (V.bool false))) none, EOper.mk (some 23) (EOp.mv (Opd.t 22)) none, EOper.mk (some 24) (EOp.call (Opd.f 12) []) (some (23, true)), EOper.mk (some 25)
  (EOp.pick (Opd.t 23) (Opd.t 24) (Opd.c (V.bool false))) none, EOper.mk (some 6) (EOp.mv (Opd.t 25)) none]
def m3_1 : List Bool := [false, false, false, false, false, false, true, true, true, true, true, true, true, true, true, true, true, true, true, true, true, true, true, true, true, true]
def b3_2 : EC := EC.ret
def m3_2 : List Bool := [false, false, false, false, false, false, false, false, false, false, false, false, false, false, false, false, false, false, false, false, false, false, false, false, false, false]
def r3_2 : EC := b3_2
def r3_1 : EC := EC.seq b3_1 r3_2
def r3_0 : EC := EC.seq b3_0 r3_1
def e3 : EFun := EFun.mk 26 [ERes.t 6] r3_0
theorem c3 : cFun Tryd.prog 2 (fun _ => false) Tryd.f3 = some e3 := by kernel_rfl
theorem x3 : Tryd.prog.funcs[3]? = some Tryd.f3 := by kernel_rfl
theorem n3 : (Tryd.f3.name == "runtime.NumGoroutine") = false := by kernel_rfl
/-! 4: septumlaw03.LaneMoves -/
def b4_0 : EC := EC.ops false [EOper.mk (some 8) (EOp.mv (Opd.c (V.bool false))) none]
def m4_0 : List Bool := [false, false, false, false, false, false, false, false, true, false, false, false, false, false, false, false, false, false, false, false, false, false, false, false, false]
def b4_1 : EC := EC.ops false [EOper.mk (some 9) (EOp.mv (Opd.t 0)) none, EOper.mk (some 10) (EOp.mv (Opd.t 1)) none, EOper.mk (some 11) (EOp.mv (Opd.t 2)) none, EOper.mk
  (some 12) (EOp.mv (Opd.t 3)) none, EOper.mk (some 13) (EOp.call (Opd.f 13) [Opd.t 9, Opd.t 10, Opd.t 11, Opd.t 12]) none, EOper.mk (some 14) (EOp.mv (Opd.t 13)) none,
  EOper.mk (some 15) (EOp.mv (Opd.t 0)) (some (14, true)), EOper.mk (some 16) (EOp.mv (Opd.t 1)) (some (14, true)), EOper.mk (some 17) (EOp.mv (Opd.t 2)) (some (14,
  true)), EOper.mk (some 18) (EOp.call (Opd.f 9) [Opd.t 17, Opd.c (V.int .i64 (6))]) (some (14, true)), EOper.mk (some 19) (EOp.mv (Opd.t 3)) (some (14, true)), EOper.mk
  (some 20) (EOp.call (Opd.f 13) [Opd.t 15, Opd.t 16, Opd.t 18, Opd.t 19]) (some (14, true)), EOper.mk (some 21) (EOp.pick (Opd.t 14) (Opd.t 20) (Opd.c (V.bool false)))
  none, EOper.mk (some 22) (EOp.mv (Opd.t 21)) none, EOper.mk (some 23) (EOp.call (Opd.f 12) []) (some (22, true)), EOper.mk (some 24) (EOp.pick (Opd.t 22) (Opd.t 23)
  (Opd.c (V.bool false))) none, EOper.mk (some 8) (EOp.mv (Opd.t 24)) none]
def m4_1 : List Bool := [false, false, false, false, false, false, false, false, true, true, true, true, true, true, true, true, true, true, true, true, true, true, true, true, true]
def b4_2 : EC := EC.ret
def m4_2 : List Bool := [false, false, false, false, false, false, false, false, false, false, false, false, false, false, false, false, false, false, false, false, false, false, false, false, false]
def r4_2 : EC := b4_2
def r4_1 : EC := EC.seq b4_1 r4_2
def r4_0 : EC := EC.seq b4_0 r4_1
def e4 : EFun := EFun.mk 25 [ERes.t 8] r4_0
theorem c4 : cFun Tryd.prog 2 (fun _ => false) Tryd.f4 = some e4 := by kernel_rfl
theorem x4 : Tryd.prog.funcs[4]? = some Tryd.f4 := by kernel_rfl
theorem n4 : (Tryd.f4.name == "runtime.NumGoroutine") = false := by kernel_rfl
/-! 5: septumlaw03.LaneEnds -/
def l5_2p0 : EC := EC.seq (EC.ops false [EOper.mk (some 30) (EOp.mv (Opd.t 5)) none, EOper.mk (some 31) (EOp.bin .lss (Opd.t 30) (Opd.c (V.int .i64 (32)))) none]) (EC.cond
  (Opd.t 31) EC.skip (EC.exit 4))
def l5_2m0 : List Bool := [false, false, false, false, false, false, false, false, false, false, false, false, false, false, false, false, false, false, false, false, false, false, false, false, false, false, false, false, false, false, true, true, false, false, false, false, false, false, false, false, false, false, false, false, false, false, false, false, false, false, false, false, false, false, false, false, false, false, false, false, false, false, false, false, false, false, false, false, false, false, false, false, false, false]
def l5_2p1 : EC := EC.block 5 (EC.seq (EC.ops true [EOper.mk (some 34) (EOp.mv (Opd.t 5)) none, EOper.mk (some 35) (EOp.bin .shl (Opd.c (V.int .u32 (1))) (Opd.t 34)) none,
  EOper.mk (some 36) (EOp.mv (Opd.t 4)) none, EOper.mk (some 37) (EOp.mv (Opd.t 1)) none, EOper.mk (some 38) (EOp.mv (Opd.t 2)) none, EOper.mk (some 39) (EOp.ixs 1 (Opd.t
  37) (Opd.t 38)) none, EOper.mk (some 40) (EOp.ld false 1 (Opd.t 39)) none, EOper.mk (some 41) (EOp.mv (Opd.t 5)) none, EOper.mk (some 42) (EOp.bin .shl (Opd.c (V.int
  .u32 (1))) (Opd.t 41)) none, EOper.mk (some 43) (EOp.bin .sub (Opd.c (V.int .u32 (4294967295))) (Opd.t 42)) none, EOper.mk (some 44) (EOp.call (Opd.f 13) [Opd.t 35,
  Opd.t 36, Opd.t 40, Opd.t 43]) none, EOper.mk (some 45) (EOp.un .not (Opd.t 44)) none, EOper.mk (some 46) (EOp.mv (Opd.t 45)) none, EOper.mk (some 47) (EOp.mv (Opd.t 5))
  (some (46, false)), EOper.mk (some 48) (EOp.bin .shl (Opd.c (V.int .u32 (1))) (Opd.t 47)) (some (46, false)), EOper.mk (some 49) (EOp.bin .sub (Opd.c (V.int .u32
  (4294967295))) (Opd.t 48)) (some (46, false)), EOper.mk (some 50) (EOp.mv (Opd.t 4)) (some (46, false)), EOper.mk (some 51) (EOp.mv (Opd.t 1)) (some (46, false)),
  EOper.mk (some 52) (EOp.mv (Opd.t 2)) (some (46, false)), EOper.mk (some 53) (EOp.ixs 1 (Opd.t 51) (Opd.t 52)) (some (46, false)), EOper.mk (some 54) (EOp.ld false 1
  (Opd.t 53)) (some (46, false)), EOper.mk (some 55) (EOp.mv (Opd.t 5)) (some (46, false)), EOper.mk (some 56) (EOp.bin .shl (Opd.c (V.int .u32 (1))) (Opd.t 55)) (some
  (46, false)), EOper.mk (some 57) (EOp.call (Opd.f 13) [Opd.t 49, Opd.t 50, Opd.t 54, Opd.t 56]) (some (46, false)), EOper.mk (some 58) (EOp.un .not (Opd.t 57)) (some
  (46, false)), EOper.mk (some 59) (EOp.pick (Opd.t 46) (Opd.c (V.bool true)) (Opd.t 58)) none]) (EC.cond (Opd.t 59) (EC.seq (EC.ops false [EOper.mk (some 0) (EOp.mv
  (Opd.c (V.bool false))) none]) EC.ret) EC.skip))
def l5_2m1 : List Bool := [true, false, false, false, false, false, false, false, false, false, false, false, false, false, false, false, false, false, false, false, false, false, false, false, false, false, false, false, false, false, false, false, false, false, true, true, true, true, true, true, true, true, true, true, true, true, true, true, true, true, true, true, true, true, true, true, true, true, true, true, false, false, false, false, false, false, false, false, false, false, false, false, false, false]
def l5_2p2 : EC := EC.ops false [EOper.mk (some 32) (EOp.mv (Opd.t 5)) none, EOper.mk (some 33) (EOp.bin .add (Opd.t 32) (Opd.c (V.int .i64 (1)))) none, EOper.mk (some 5)
  (EOp.mv (Opd.t 33)) none]
def l5_2m2 : List Bool := [false, false, false, false, false, true, false, false, false, false, false, false, false, false, false, false, false, false, false, false, false, false, false, false, false, false, false, false, false, false, false, false, true, true, false, false, false, false, false, false, false, false, false, false, false, false, false, false, false, false, false, false, false, false, false, false, false, false, false, false, false, false, false, false, false, false, false, false, false, false, false, false, false, false]
def l5_2r2 : EC := l5_2p2
def l5_2r1 : EC := EC.seq l5_2p1 l5_2r2
def l5_2r0 : EC := EC.seq l5_2p0 l5_2r1
def l5_2 : EC := l5_2r0
def l5_1p0 : EC := EC.seq (EC.ops false [EOper.mk (some 12) (EOp.mv (Opd.t 3)) none, EOper.mk (some 13) (EOp.bin .lss (Opd.t 12) (Opd.c (V.int .i64 (12)))) none]) (EC.cond
  (Opd.t 13) EC.skip (EC.exit 2))
def l5_1m0 : List Bool := [false, false, false, false, false, false, false, false, false, false, false, false, true, true, false, false, false, false, false, false, false, false, false, false, false, false, false, false, false, false, false, false, false, false, false, false, false, false, false, false, false, false, false, false, false, false, false, false, false, false, false, false, false, false, false, false, false, false, false, false, false, false, false, false, false, false, false, false, false, false, false, false, false, false]
def l5_1p1 : EC := EC.block 3 (EC.seq (EC.ops false [EOper.mk (some 16) (EOp.mv (Opd.t 3)) none, EOper.mk (some 17) (EOp.conv .u32 (Opd.t 16)) none, EOper.mk (some 4)
  (EOp.mv (Opd.t 17)) none]) (EC.seq (EC.seq (EC.ops false [EOper.mk (some 18) (EOp.mv (Opd.t 3)) none, EOper.mk (some 19) (EOp.bin .gtr (Opd.t 18) (Opd.c (V.int .i64
  (7)))) none]) (EC.cond (Opd.t 19) (EC.ops false [EOper.mk (some 20) (EOp.mv (Opd.t 3)) none, EOper.mk (some 21) (EOp.bin .add (Opd.c (V.int .i64 (4294967284))) (Opd.t
  20)) none, EOper.mk (some 22) (EOp.conv .u32 (Opd.t 21)) none, EOper.mk (some 4) (EOp.mv (Opd.t 22)) none]) EC.skip)) (EC.seq (EC.seq (EC.ops false [EOper.mk (some 23)
  (EOp.mv (Opd.t 4)) none, EOper.mk (some 24) (EOp.mv (Opd.t 1)) none, EOper.mk (some 25) (EOp.mv (Opd.t 2)) none, EOper.mk (some 26) (EOp.ixs 1 (Opd.t 24) (Opd.t 25))
  none, EOper.mk (some 27) (EOp.ld false 1 (Opd.t 26)) none, EOper.mk (some 28) (EOp.call (Opd.f 8) [Opd.t 23, Opd.t 27]) none, EOper.mk (some 29) (EOp.un .not (Opd.t 28))
  none]) (EC.cond (Opd.t 29) (EC.seq (EC.ops false [EOper.mk (some 0) (EOp.mv (Opd.c (V.bool false))) none]) EC.ret) EC.skip)) (EC.seq (EC.ops false [EOper.mk (some 5)
  (EOp.mv (Opd.c (V.int .i64 (0)))) none]) (EC.block 4 (EC.loop l5_2))))))
def l5_1m1 : List Bool := [true, false, false, false, true, true, false, false, false, false, false, false, false, false, false, false, true, true, true, true, true, true, true, true, true, true, true, true, true, true, true, true, true, true, true, true, true, true, true, true, true, true, true, true, true, true, true, true, true, true, true, true, true, true, true, true, true, true, true, true, false, false, false, false, false, false, false, false, false, false, false, false, false, false]
def l5_1p2 : EC := EC.ops false [EOper.mk (some 14) (EOp.mv (Opd.t 3)) none, EOper.mk (some 15) (EOp.bin .add (Opd.t 14) (Opd.c (V.int .i64 (1)))) none, EOper.mk (some 3)
  (EOp.mv (Opd.t 15)) none]
def l5_1m2 : List Bool := [false, false, false, true, false, false, false, false, false, false, false, false, false, false, true, true, false, false, false, false, false, false, false, false, false, false, false, false, false, false, false, false, false, false, false, false, false, false, false, false, false, false, false, false, false, false, false, false, false, false, false, false, false, false, false, false, false, false, false, false, false, false, false, false, false, false, false, false, false, false, false, false, false, false]
def l5_1r2 : EC := l5_1p2
def l5_1r1 : EC := EC.seq l5_1p1 l5_1r2
def l5_1r0 : EC := EC.seq l5_1p0 l5_1r1
def l5_1 : EC := l5_1r0
def l5_0p0 : EC := EC.seq (EC.ops false [EOper.mk (some 8) (EOp.mv (Opd.t 2)) none, EOper.mk (some 9) (EOp.bin .lss (Opd.t 8) (Opd.c (V.int .i64 (12)))) none]) (EC.cond
  (Opd.t 9) EC.skip (EC.exit 0))
def l5_0m0 : List Bool := [false, false, false, false, false, false, false, false, true, true, false, false, false, false, false, false, false, false, false, false, false, false, false, false, false, false, false, false, false, false, false, false, false, false, false, false, false, false, false, false, false, false, false, false, false, false, false, false, false, false, false, false, false, false, false, false, false, false, false, false, false, false, false, false, false, false, false, false, false, false, false, false, false, false]
def l5_0p1 : EC := EC.block 1 (EC.seq (EC.ops false [EOper.mk (some 3) (EOp.mv (Opd.c (V.int .i64 (0)))) none]) (EC.block 2 (EC.loop l5_1)))
def l5_0m1 : List Bool := [true, false, false, true, true, true, false, false, false, false, false, false, true, true, true, true, true, true, true, true, true, true, true, true, true, true, true, true, true, true, true, true, true, true, true, true, true, true, true, true, true, true, true, true, true, true, true, true, true, true, true, true, true, true, true, true, true, true, true, true, false, false, false, false, false, false, false, false, false, false, false, false, false, false]
def l5_0p2 : EC := EC.ops false [EOper.mk (some 10) (EOp.mv (Opd.t 2)) none, EOper.mk (some 11) (EOp.bin .add (Opd.t 10) (Opd.c (V.int .i64 (1)))) none, EOper.mk (some 2)
  (EOp.mv (Opd.t 11)) none]
def l5_0m2 : List Bool := [false, false, true, false, false, false, false, false, false, false, true, true, false, false, false, false, false, false, false, false, false, false, false, false, false, false, false, false, false, false, false, false, false, false, false, false, false, false, false, false, false, false, false, false, false, false, false, false, false, false, false, false, false, false, false, false, false, false, false, false, false, false, false, false, false, false, false, false, false, false, false, false, false, false]
def l5_0r2 : EC := l5_0p2
def l5_0r1 : EC := EC.seq l5_0p1 l5_0r2
def l5_0r0 : EC := EC.seq l5_0p0 l5_0r1
def l5_0 : EC := l5_0r0
def l5_3p0 : EC := EC.seq (EC.ops false [EOper.mk (some 60) (EOp.mv (Opd.t 6)) none, EOper.mk (some 61) (EOp.bin .lss (Opd.t 60) (Opd.c (V.int .u32 (40)))) none]) (EC.cond
  (Opd.t 61) EC.skip (EC.exit 6))
def l5_3m0 : List Bool := [false, false, false, false, false, false, false, false, false, false, false, false, false, false, false, false, false, false, false, false, false, false, false, false, false, false, false, false, false, false, false, false, false, false, false, false, false, false, false, false, false, false, false, false, false, false, false, false, false, false, false, false, false, false, false, false, false, false, false, false, true, true, false, false, false, false, false, false, false, false, false, false, false, false]
def l5_3p1 : EC := EC.block 7 (EC.seq (EC.ops false [EOper.mk (some 64) (EOp.mv (Opd.t 6)) none, EOper.mk (some 65) (EOp.call (Opd.f 10) [Opd.t 64]) none, EOper.mk (some
  66) (EOp.mv (Opd.t 6)) none, EOper.mk (some 67) (EOp.call (Opd.f 11) [Opd.t 66]) none, EOper.mk (some 68) (EOp.bin .neq (Opd.t 65) (Opd.t 67)) none]) (EC.cond (Opd.t 68)
  (EC.seq (EC.ops false [EOper.mk (some 0) (EOp.mv (Opd.c (V.bool false))) none]) EC.ret) EC.skip))
def l5_3m1 : List Bool := [true, false, false, false, false, false, false, false, false, false, false, false, false, false, false, false, false, false, false, false, false, false, false, false, false, false, false, false, false, false, false, false, false, false, false, false, false, false, false, false, false, false, false, false, false, false, false, false, false, false, false, false, false, false, false, false, false, false, false, false, false, false, false, false, true, true, true, true, true, false, false, false, false, false]
def l5_3p2 : EC := EC.ops false [EOper.mk (some 62) (EOp.mv (Opd.t 6)) none, EOper.mk (some 63) (EOp.bin .add (Opd.t 62) (Opd.c (V.int .u32 (1)))) none, EOper.mk (some 6)
  (EOp.mv (Opd.t 63)) none]
def l5_3m2 : List Bool := [false, false, false, false, false, false, true, false, false, false, false, false, false, false, false, false, false, false, false, false, false, false, false, false, false, false, false, false, false, false, false, false, false, false, false, false, false, false, false, false, false, false, false, false, false, false, false, false, false, false, false, false, false, false, false, false, false, false, false, false, false, false, true, true, false, false, false, false, false, false, false, false, false, false]
def l5_3r2 : EC := l5_3p2
def l5_3r1 : EC := EC.seq l5_3p1 l5_3r2
def l5_3r0 : EC := EC.seq l5_3p0 l5_3r1
def l5_3 : EC := l5_3r0
def b5_0 : EC := EC.ops false [EOper.mk (some 0) (EOp.mv (Opd.c (V.bool false))) none]
def m5_0 : List Bool := [true, false, false, false, false, false, false, false, false, false, false, false, false, false, false, false, false, false, false, false, false, false, false, false, false, false, false, false, false, false, false, false, false, false, false, false, false, false, false, false, false, false, false, false, false, false, false, false, false, false, false, false, false, false, false, false, false, false, false, false, false, false, false, false, false, false, false, false, false, false, false, false, false, false]
def b5_1 : EC := EC.ops false [EOper.mk (some 7) (EOp.bslice 3 12 [V.int .i64 (0), V.int .i64 (0), V.int .i64 (0), V.int .i64 (0), V.int .i64 (0), V.int .i64 (0), V.int
  .i64 (0), V.int .i64 (0), V.int .i64 (0), V.int .i64 (0), V.int .i64 (0), V.int .i64 (0)] [(0, 1, Opd.c (V.int .i64 (-9223372036854775808))), (1, 1, Opd.c (V.int .i64
  (-4))), (2, 1, Opd.c (V.int .i64 (-1))), (3, 1, Opd.c (V.int .i64 (0))), (4, 1, Opd.c (V.int .i64 (1))), (5, 1, Opd.c (V.int .i64 (2))), (6, 1, Opd.c (V.int .i64 (3))),
  (7, 1, Opd.c (V.int .i64 (4))), (8, 1, Opd.c (V.int .i64 (5))), (9, 1, Opd.c (V.int .i64 (8))), (10, 1, Opd.c (V.int .i64 (9))), (11, 1, Opd.c (V.int .i64
  (9223372036854775807)))]) none, EOper.mk (some 1) (EOp.mv (Opd.t 7)) none]
def m5_1 : List Bool := [false, true, false, false, false, false, false, true, false, false, false, false, false, false, false, false, false, false, false, false, false, false, false, false, false, false, false, false, false, false, false, false, false, false, false, false, false, false, false, false, false, false, false, false, false, false, false, false, false, false, false, false, false, false, false, false, false, false, false, false, false, false, false, false, false, false, false, false, false, false, false, false, false, false]
def b5_2 : EC := EC.seq (EC.ops false [EOper.mk (some 2) (EOp.mv (Opd.c (V.int .i64 (0)))) none]) (EC.block 0 (EC.loop l5_0))
def m5_2 : List Bool := [true, false, true, true, true, true, false, false, true, true, true, true, true, true, true, true, true, true, true, true, true, true, true, true, true, true, true, true, true, true, true, true, true, true, true, true, true, true, true, true, true, true, true, true, true, true, true, true, true, true, true, true, true, true, true, true, true, true, true, true, false, false, false, false, false, false, false, false, false, false, false, false, false, false]
def b5_3 : EC := EC.seq (EC.ops false [EOper.mk (some 6) (EOp.mv (Opd.c (V.int .u32 (0)))) none]) (EC.block 6 (EC.loop l5_3))
def m5_3 : List Bool := [true, false, false, false, false, false, true, false, false, false, false, false, false, false, false, false, false, false, false, false, false, false, false, false, false, false, false, false, false, false, false, false, false, false, false, false, false, false, false, false, false, false, false, false, false, false, false, false, false, false, false, false, false, false, false, false, false, false, false, false, true, true, true, true, true, true, true, true, true, false, false, false, false, false]
def b5_4 : EC := EC.ops false [EOper.mk (some 69) (EOp.call (Opd.f 10) [Opd.c (V.int .u32 (4294967295))]) none, EOper.mk (some 70) (EOp.bin .eql (Opd.t 69) (Opd.c (V.int
  .u32 (4294967295)))) none, EOper.mk (some 71) (EOp.mv (Opd.t 70)) none, EOper.mk (some 72) (EOp.call (Opd.f 12) []) (some (71, true)), EOper.mk (some 73) (EOp.pick
  (Opd.t 71) (Opd.t 72) (Opd.c (V.bool false))) none, EOper.mk (some 0) (EOp.mv (Opd.t 73)) none]
def m5_4 : List Bool := [true, false, false, false, false, false, false, false, false, false, false, false, false, false, false, false, false, false, false, false, false, false, false, false, false, false, false, false, false, false, false, false, false, false, false, false, false, false, false, false, false, false, false, false, false, false, false, false, false, false, false, false, false, false, false, false, false, false, false, false, false, false, false, false, false, false, false, false, false, true, true, true, true, true]
def b5_5 : EC := EC.ret
def m5_5 : List Bool := [false, false, false, false, false, false, false, false, false, false, false, false, false, false, false, false, false, false, false, false, false, false, false, false, false, false, false, false, false, false, false, false, false, false, false, false, false, false, false, false, false, false, false, false, false, false, false, false, false, false, false, false, false, false, false, false, false, false, false, false, false, false, false, false, false, false, false, false, false, false, false, false, false, false]
def r5_5 : EC := b5_5
def r5_4 : EC := EC.seq b5_4 r5_5
def r5_3 : EC := EC.seq b5_3 r5_4
def r5_2 : EC := EC.seq b5_2 r5_3
def r5_1 : EC := EC.seq b5_1 r5_2
def r5_0 : EC := EC.seq b5_0 r5_1
def e5 : EFun := EFun.mk 74 [ERes.t 0] r5_0
theorem c5 : cFun Tryd.prog 2 (fun _ => false) Tryd.f5 = some e5 := by kernel_rfl
theorem x5 : Tryd.prog.funcs[5]? = some Tryd.f5 := by kernel_rfl
theorem n5 : (Tryd.f5.name == "runtime.NumGoroutine") = false := by kernel_rfl
/-! 6: septumlaw03.LaneBack -/
def b6_0 : EC := EC.ops false [EOper.mk (some 12) (EOp.mv (Opd.c (V.bool false))) none]
def m6_0 : List Bool := [false, false, false, false, false, false, false, false, false, false, false, false, true, false, false, false, false, false, false, false, false, false, false, false, false, false, false, false, false, false, false, false, false, false, false, false, false, false, false, false, false, false, false, false, false, false, false, false, false, false, false, false, false, false, false, false, false, false, false, false, false, false, false, false, false, false, false, false, false, false, false, false, false, false, false, false, false, false, false, false, false, false, false, false, false, false, false, false, false, false, false, false, false, false, false, false, false, false, false, false, false, false, false, false, false, false, false, false, false, false, false, false, false, false, false, false, false, false, false, false, false, false, false, false, false, false, false, false, false, false]
def b6_1 : EC := EC.seq (EC.ops false [EOper.mk (some 27) (EOp.call (Opd.f 12) []) none, EOper.mk (some 28) (EOp.un .not (Opd.t 27)) none]) (EC.cond (Opd.t 28) (EC.seq
  (EC.ops false [EOper.mk (some 12) (EOp.mv (Opd.c (V.bool false))) none]) EC.ret) EC.skip)
def m6_1 : List Bool := [false, false, false, false, false, false, false, false, false, false, false, false, true, false, false, false, false, false, false, false, false, false, false, false, false, false, false, true, true, false, false, false, false, false, false, false, false, false, false, false, false, false, false, false, false, false, false, false, false, false, false, false, false, false, false, false, false, false, false, false, false, false, false, false, false, false, false, false, false, false, false, false, false, false, false, false, false, false, false, false, false, false, false, false, false, false, false, false, false, false, false, false, false, false, false, false, false, false, false, false, false, false, false, false, false, false, false, false, false, false, false, false, false, false, false, false, false, false, false, false, false, false, false, false, false, false, false, false, false, false]
def b6_2 : EC := EC.ops false [EOper.mk (some 30) (EOp.mv (Opd.t 0)) none, EOper.mk (some 31) (EOp.mv (Opd.t 1)) none, EOper.mk (some 32) (EOp.mv (Opd.t 3)) none, EOper.mk
  (some 33) (EOp.mv (Opd.t 5)) none, EOper.mk (some 34) (EOp.call (Opd.f 14) [Opd.t 30, Opd.t 31, Opd.t 32, Opd.t 33]) none, EOper.mk (some 29) (EOp.mv (Opd.t 34)) none,
  EOper.mk (some 35) (EOp.ext (Opd.t 29) 0) none, EOper.mk (some 36) (EOp.ext (Opd.t 29) 1) none, EOper.mk (some 13) (EOp.mv (Opd.t 35)) none, EOper.mk (some 14) (EOp.mv
  (Opd.t 36)) none]
def m6_2 : List Bool := [false, false, false, false, false, false, false, false, false, false, false, false, false, true, true, false, false, false, false, false, false, false, false, false, false, false, false, false, false, true, true, true, true, true, true, true, true, false, false, false, false, false, false, false, false, false, false, false, false, false, false, false, false, false, false, false, false, false, false, false, false, false, false, false, false, false, false, false, false, false, false, false, false, false, false, false, false, false, false, false, false, false, false, false, false, false, false, false, false, false, false, false, false, false, false, false, false, false, false, false, false, false, false, false, false, false, false, false, false, false, false, false, false, false, false, false, false, false, false, false, false, false, false, false, false, false, false, false, false, false]
def b6_3 : EC := EC.ops false [EOper.mk (some 38) (EOp.mv (Opd.t 1)) none, EOper.mk (some 39) (EOp.mv (Opd.t 3)) none, EOper.mk (some 40) (EOp.call (Opd.f 15) [Opd.t 38,
  Opd.t 39]) none, EOper.mk (some 37) (EOp.mv (Opd.t 40)) none, EOper.mk (some 41) (EOp.ext (Opd.t 37) 0) none, EOper.mk (some 42) (EOp.ext (Opd.t 37) 1) none, EOper.mk
  (some 15) (EOp.mv (Opd.t 41)) none, EOper.mk (some 16) (EOp.mv (Opd.t 42)) none]
def m6_3 : List Bool := [false, false, false, false, false, false, false, false, false, false, false, false, false, false, false, true, true, false, false, false, false, false, false, false, false, false, false, false, false, false, false, false, false, false, false, false, false, true, true, true, true, true, true, false, false, false, false, false, false, false, false, false, false, false, false, false, false, false, false, false, false, false, false, false, false, false, false, false, false, false, false, false, false, false, false, false, false, false, false, false, false, false, false, false, false, false, false, false, false, false, false, false, false, false, false, false, false, false, false, false, false, false, false, false, false, false, false, false, false, false, false, false, false, false, false, false, false, false, false, false, false, false, false, false, false, false, false, false, false, false]
def b6_4 : EC := EC.seq (EC.ops false [EOper.mk (some 43) (EOp.mv (Opd.t 14)) none, EOper.mk (some 44) (EOp.mv (Opd.t 16)) none, EOper.mk (some 45) (EOp.eqb true (Opd.t
  43) (Opd.t 44)) none, EOper.mk (some 46) (EOp.mv (Opd.t 45)) none, EOper.mk (some 47) (EOp.mv (Opd.t 14)) (some (46, false)), EOper.mk (some 48) (EOp.mv (Opd.t 1)) (some
  (46, false)), EOper.mk (some 49) (EOp.mv (Opd.t 3)) (some (46, false)), EOper.mk (some 50) (EOp.call (Opd.f 16) [Opd.t 48, Opd.t 49]) (some (46, false)), EOper.mk (some
  51) (EOp.eqb true (Opd.t 47) (Opd.t 50)) (some (46, false)), EOper.mk (some 52) (EOp.pick (Opd.t 46) (Opd.c (V.bool true)) (Opd.t 51)) none]) (EC.cond (Opd.t 52) (EC.seq
  (EC.ops false [EOper.mk (some 12) (EOp.mv (Opd.c (V.bool false))) none]) EC.ret) EC.skip)
def m6_4 : List Bool := [false, false, false, false, false, false, false, false, false, false, false, false, true, false, false, false, false, false, false, false, false, false, false, false, false, false, false, false, false, false, false, false, false, false, false, false, false, false, false, false, false, false, false, true, true, true, true, true, true, true, true, true, true, false, false, false, false, false, false, false, false, false, false, false, false, false, false, false, false, false, false, false, false, false, false, false, false, false, false, false, false, false, false, false, false, false, false, false, false, false, false, false, false, false, false, false, false, false, false, false, false, false, false, false, false, false, false, false, false, false, false, false, false, false, false, false, false, false, false, false, false, false, false, false, false, false, false, false, false, false]
def b6_5 : EC := EC.seq (EC.ops false [EOper.mk (some 53) (EOp.mv (Opd.t 14)) none, EOper.mk (some 54) (EOp.un .not (Opd.t 53)) none]) (EC.cond (Opd.t 54) (EC.seq (EC.ops
  false [EOper.mk (some 55) (EOp.mv (Opd.t 13)) none, EOper.mk (some 56) (EOp.bin .eql (Opd.t 55) (Opd.c (V.int .u32 (0)))) none, EOper.mk (some 57) (EOp.mv (Opd.t 56))
  none, EOper.mk (some 58) (EOp.mv (Opd.t 15)) (some (57, true)), EOper.mk (some 59) (EOp.bin .eql (Opd.t 58) (Opd.c (V.int .u32 (0)))) (some (57, true)), EOper.mk (some
  60) (EOp.pick (Opd.t 57) (Opd.t 59) (Opd.c (V.bool false))) none, EOper.mk (some 12) (EOp.mv (Opd.t 60)) none]) EC.ret) EC.skip)
def m6_5 : List Bool := [false, false, false, false, false, false, false, false, false, false, false, false, true, false, false, false, false, false, false, false, false, false, false, false, false, false, false, false, false, false, false, false, false, false, false, false, false, false, false, false, false, false, false, false, false, false, false, false, false, false, false, false, false, true, true, true, true, true, true, true, true, false, false, false, false, false, false, false, false, false, false, false, false, false, false, false, false, false, false, false, false, false, false, false, false, false, false, false, false, false, false, false, false, false, false, false, false, false, false, false, false, false, false, false, false, false, false, false, false, false, false, false, false, false, false, false, false, false, false, false, false, false, false, false, false, false, false, false, false, false]
def b6_6 : EC := EC.ops false [EOper.mk (some 62) (EOp.mv (Opd.t 13)) none, EOper.mk (some 63) (EOp.mv (Opd.t 1)) none, EOper.mk (some 64) (EOp.mv (Opd.t 3)) none,
  EOper.mk (some 65) (EOp.call (Opd.f 17) [Opd.t 62, Opd.t 63, Opd.t 64]) none, EOper.mk (some 61) (EOp.mv (Opd.t 65)) none, EOper.mk (some 66) (EOp.ext (Opd.t 61) 0)
  none, EOper.mk (some 67) (EOp.ext (Opd.t 61) 1) none, EOper.mk (some 17) (EOp.mv (Opd.t 66)) none, EOper.mk (some 18) (EOp.mv (Opd.t 67)) none]
def m6_6 : List Bool := [false, false, false, false, false, false, false, false, false, false, false, false, false, false, false, false, false, true, true, false, false, false, false, false, false, false, false, false, false, false, false, false, false, false, false, false, false, false, false, false, false, false, false, false, false, false, false, false, false, false, false, false, false, false, false, false, false, false, false, false, false, true, true, true, true, true, true, true, false, false, false, false, false, false, false, false, false, false, false, false, false, false, false, false, false, false, false, false, false, false, false, false, false, false, false, false, false, false, false, false, false, false, false, false, false, false, false, false, false, false, false, false, false, false, false, false, false, false, false, false, false, false, false, false, false, false, false, false, false, false]
def b6_7 : EC := EC.ops false [EOper.mk (some 69) (EOp.mv (Opd.t 5)) none, EOper.mk (some 70) (EOp.mv (Opd.t 3)) none, EOper.mk (some 71) (EOp.call (Opd.f 18) [Opd.t 69,
  Opd.t 70]) none, EOper.mk (some 68) (EOp.mv (Opd.t 71)) none, EOper.mk (some 72) (EOp.ext (Opd.t 68) 0) none, EOper.mk (some 73) (EOp.ext (Opd.t 68) 1) none, EOper.mk
  (some 19) (EOp.mv (Opd.t 72)) none, EOper.mk (some 20) (EOp.mv (Opd.t 73)) none]
def m6_7 : List Bool := [false, false, false, false, false, false, false, false, false, false, false, false, false, false, false, false, false, false, false, true, true, false, false, false, false, false, false, false, false, false, false, false, false, false, false, false, false, false, false, false, false, false, false, false, false, false, false, false, false, false, false, false, false, false, false, false, false, false, false, false, false, false, false, false, false, false, false, false, true, true, true, true, true, true, false, false, false, false, false, false, false, false, false, false, false, false, false, false, false, false, false, false, false, false, false, false, false, false, false, false, false, false, false, false, false, false, false, false, false, false, false, false, false, false, false, false, false, false, false, false, false, false, false, false, false, false, false, false, false, false]
def b6_8 : EC := EC.seq (EC.ops false [EOper.mk (some 74) (EOp.mv (Opd.t 18)) none, EOper.mk (some 75) (EOp.un .not (Opd.t 74)) none, EOper.mk (some 76) (EOp.mv (Opd.t
  75)) none, EOper.mk (some 77) (EOp.mv (Opd.t 17)) (some (76, false)), EOper.mk (some 78) (EOp.mv (Opd.t 19)) (some (76, false)), EOper.mk (some 79) (EOp.bin .neq (Opd.t
  77) (Opd.t 78)) (some (76, false)), EOper.mk (some 80) (EOp.pick (Opd.t 76) (Opd.c (V.bool true)) (Opd.t 79)) none, EOper.mk (some 81) (EOp.mv (Opd.t 80)) none, EOper.mk
  (some 82) (EOp.mv (Opd.t 13)) (some (81, false)), EOper.mk (some 83) (EOp.mv (Opd.t 0)) (some (81, false)), EOper.mk (some 84) (EOp.bin .xor (Opd.t 82) (Opd.t 83)) (some
  (81, false)), EOper.mk (some 85) (EOp.mv (Opd.t 15)) (some (81, false)), EOper.mk (some 86) (EOp.call (Opd.f 10) [Opd.t 85]) (some (81, false)), EOper.mk (some 87)
  (EOp.bin .andNot (Opd.t 84) (Opd.t 86)) (some (81, false)), EOper.mk (some 88) (EOp.bin .neq (Opd.t 87) (Opd.c (V.int .u32 (0)))) (some (81, false)), EOper.mk (some 89)
  (EOp.pick (Opd.t 81) (Opd.c (V.bool true)) (Opd.t 88)) none, EOper.mk (some 90) (EOp.mv (Opd.t 89)) none, EOper.mk (some 91) (EOp.mv (Opd.t 3)) (some (90, false)),
  EOper.mk (some 92) (EOp.bin .eql (Opd.t 91) (Opd.c (V.int .i64 (4)))) (some (90, false)), EOper.mk (some 93) (EOp.mv (Opd.t 92)) (some (90, false)), EOper.mk (some 94)
  (EOp.mv (Opd.t 13)) (some (93, true)), EOper.mk (some 95) (EOp.mv (Opd.t 5)) (some (93, true)), EOper.mk (some 96) (EOp.bin .neq (Opd.t 94) (Opd.t 95)) (some (93,
  true)), EOper.mk (some 97) (EOp.pick (Opd.t 93) (Opd.t 96) (Opd.c (V.bool false))) (some (90, false)), EOper.mk (some 98) (EOp.pick (Opd.t 90) (Opd.c (V.bool true))
  (Opd.t 97)) none]) (EC.cond (Opd.t 98) (EC.seq (EC.ops false [EOper.mk (some 12) (EOp.mv (Opd.c (V.bool false))) none]) EC.ret) EC.skip)
def m6_8 : List Bool := [false, false, false, false, false, false, false, false, false, false, false, false, true, false, false, false, false, false, false, false, false, false, false, false, false, false, false, false, false, false, false, false, false, false, false, false, false, false, false, false, false, false, false, false, false, false, false, false, false, false, false, false, false, false, false, false, false, false, false, false, false, false, false, false, false, false, false, false, false, false, false, false, false, false, true, true, true, true, true, true, true, true, true, true, true, true, true, true, true, true, true, true, true, true, true, true, true, true, true, false, false, false, false, false, false, false, false, false, false, false, false, false, false, false, false, false, false, false, false, false, false, false, false, false, false, false, false, false, false, false]
def b6_9 : EC := EC.ops false [EOper.mk (some 100) (EOp.mv (Opd.t 2)) none, EOper.mk (some 101) (EOp.mv (Opd.t 4)) none, EOper.mk (some 102) (EOp.call (Opd.f 15) [Opd.t
  100, Opd.t 101]) none, EOper.mk (some 99) (EOp.mv (Opd.t 102)) none, EOper.mk (some 103) (EOp.ext (Opd.t 99) 0) none, EOper.mk (some 104) (EOp.ext (Opd.t 99) 1) none,
  EOper.mk (some 21) (EOp.mv (Opd.t 103)) none, EOper.mk (some 22) (EOp.mv (Opd.t 104)) none]
def m6_9 : List Bool := [false, false, false, false, false, false, false, false, false, false, false, false, false, false, false, false, false, false, false, false, false, true, true, false, false, false, false, false, false, false, false, false, false, false, false, false, false, false, false, false, false, false, false, false, false, false, false, false, false, false, false, false, false, false, false, false, false, false, false, false, false, false, false, false, false, false, false, false, false, false, false, false, false, false, false, false, false, false, false, false, false, false, false, false, false, false, false, false, false, false, false, false, false, false, false, false, false, false, false, true, true, true, true, true, true, false, false, false, false, false, false, false, false, false, false, false, false, false, false, false, false, false, false, false, false, false, false, false, false, false]
def b6_10 : EC := EC.seq (EC.ops false [EOper.mk (some 105) (EOp.mv (Opd.t 22)) none, EOper.mk (some 106) (EOp.un .not (Opd.t 105)) none, EOper.mk (some 107) (EOp.mv
  (Opd.t 106)) none, EOper.mk (some 108) (EOp.mv (Opd.t 21)) (some (107, false)), EOper.mk (some 109) (EOp.mv (Opd.t 15)) (some (107, false)), EOper.mk (some 110) (EOp.bin
  .and (Opd.t 108) (Opd.t 109)) (some (107, false)), EOper.mk (some 111) (EOp.bin .neq (Opd.t 110) (Opd.c (V.int .u32 (0)))) (some (107, false)), EOper.mk (some 112)
  (EOp.pick (Opd.t 107) (Opd.c (V.bool true)) (Opd.t 111)) none]) (EC.cond (Opd.t 112) (EC.seq (EC.ops false [EOper.mk (some 12) (EOp.mv (Opd.c (V.bool true))) none])
  EC.ret) EC.skip)
def m6_10 : List Bool := [false, false, false, false, false, false, false, false, false, false, false, false, true, false, false, false, false, false, false, false, false, false, false, false, false, false, false, false, false, false, false, false, false, false, false, false, false, false, false, false, false, false, false, false, false, false, false, false, false, false, false, false, false, false, false, false, false, false, false, false, false, false, false, false, false, false, false, false, false, false, false, false, false, false, false, false, false, false, false, false, false, false, false, false, false, false, false, false, false, false, false, false, false, false, false, false, false, false, false, false, false, false, false, false, false, true, true, true, true, true, true, true, true, false, false, false, false, false, false, false, false, false, false, false, false, false, false, false, false, false]
def b6_11 : EC := EC.ops false [EOper.mk (some 114) (EOp.mv (Opd.t 0)) none, EOper.mk (some 115) (EOp.mv (Opd.t 2)) none, EOper.mk (some 116) (EOp.mv (Opd.t 4)) none,
  EOper.mk (some 117) (EOp.call (Opd.f 17) [Opd.t 114, Opd.t 115, Opd.t 116]) none, EOper.mk (some 113) (EOp.mv (Opd.t 117)) none, EOper.mk (some 118) (EOp.ext (Opd.t 113)
  0) none, EOper.mk (some 119) (EOp.ext (Opd.t 113) 1) none, EOper.mk (some 23) (EOp.mv (Opd.t 118)) none, EOper.mk (some 24) (EOp.mv (Opd.t 119)) none]
def m6_11 : List Bool := [false, false, false, false, false, false, false, false, false, false, false, false, false, false, false, false, false, false, false, false, false, false, false, true, true, false, false, false, false, false, false, false, false, false, false, false, false, false, false, false, false, false, false, false, false, false, false, false, false, false, false, false, false, false, false, false, false, false, false, false, false, false, false, false, false, false, false, false, false, false, false, false, false, false, false, false, false, false, false, false, false, false, false, false, false, false, false, false, false, false, false, false, false, false, false, false, false, false, false, false, false, false, false, false, false, false, false, false, false, false, false, false, false, true, true, true, true, true, true, true, false, false, false, false, false, false, false, false, false, false]
def b6_12 : EC := EC.ops false [EOper.mk (some 121) (EOp.mv (Opd.t 13)) none, EOper.mk (some 122) (EOp.mv (Opd.t 2)) none, EOper.mk (some 123) (EOp.mv (Opd.t 4)) none,
  EOper.mk (some 124) (EOp.call (Opd.f 17) [Opd.t 121, Opd.t 122, Opd.t 123]) none, EOper.mk (some 120) (EOp.mv (Opd.t 124)) none, EOper.mk (some 125) (EOp.ext (Opd.t 120)
  0) none, EOper.mk (some 126) (EOp.ext (Opd.t 120) 1) none, EOper.mk (some 25) (EOp.mv (Opd.t 125)) none, EOper.mk (some 26) (EOp.mv (Opd.t 126)) none]
def m6_12 : List Bool := [false, false, false, false, false, false, false, false, false, false, false, false, false, false, false, false, false, false, false, false, false, false, false, false, false, true, true, false, false, false, false, false, false, false, false, false, false, false, false, false, false, false, false, false, false, false, false, false, false, false, false, false, false, false, false, false, false, false, false, false, false, false, false, false, false, false, false, false, false, false, false, false, false, false, false, false, false, false, false, false, false, false, false, false, false, false, false, false, false, false, false, false, false, false, false, false, false, false, false, false, false, false, false, false, false, false, false, false, false, false, false, false, false, false, false, false, false, false, false, false, true, true, true, true, true, true, true, false, false, false]
def b6_13 : EC := EC.ops false [EOper.mk (some 127) (EOp.mv (Opd.t 23)) none, EOper.mk (some 128) (EOp.mv (Opd.t 25)) none, EOper.mk (some 129) (EOp.bin .eql (Opd.t 127)
  (Opd.t 128)) none, EOper.mk (some 12) (EOp.mv (Opd.t 129)) none]
def m6_13 : List Bool := [false, false, false, false, false, false, false, false, false, false, false, false, true, false, false, false, false, false, false, false, false, false, false, false, false, false, false, false, false, false, false, false, false, false, false, false, false, false, false, false, false, false, false, false, false, false, false, false, false, false, false, false, false, false, false, false, false, false, false, false, false, false, false, false, false, false, false, false, false, false, false, false, false, false, false, false, false, false, false, false, false, false, false, false, false, false, false, false, false, false, false, false, false, false, false, false, false, false, false, false, false, false, false, false, false, false, false, false, false, false, false, false, false, false, false, false, false, false, false, false, false, false, false, false, false, false, false, true, true, true]
def b6_14 : EC := EC.ret
def m6_14 : List Bool := [false, false, false, false, false, false, false, false, false, false, false, false, false, false, false, false, false, false, false, false, false, false, false, false, false, false, false, false, false, false, false, false, false, false, false, false, false, false, false, false, false, false, false, false, false, false, false, false, false, false, false, false, false, false, false, false, false, false, false, false, false, false, false, false, false, false, false, false, false, false, false, false, false, false, false, false, false, false, false, false, false, false, false, false, false, false, false, false, false, false, false, false, false, false, false, false, false, false, false, false, false, false, false, false, false, false, false, false, false, false, false, false, false, false, false, false, false, false, false, false, false, false, false, false, false, false, false, false, false, false]
def r6_14 : EC := b6_14
def r6_13 : EC := EC.seq b6_13 r6_14
def r6_12 : EC := EC.seq b6_12 r6_13
def r6_11 : EC := EC.seq b6_11 r6_12
def r6_10 : EC := EC.seq b6_10 r6_11
def r6_9 : EC := EC.seq b6_9 r6_10
def r6_8 : EC := EC.seq b6_8 r6_9
def r6_7 : EC := EC.seq b6_7 r6_8
def r6_6 : EC := EC.seq b6_6 r6_7
def r6_5 : EC := EC.seq b6_5 r6_6
def r6_4 : EC := EC.seq b6_4 r6_5
def r6_3 : EC := EC.seq b6_3 r6_4
def r6_2 : EC := EC.seq b6_2 r6_3
def r6_1 : EC := EC.seq b6_1 r6_2
def r6_0 : EC := EC.seq b6_0 r6_1
def e6 : EFun := EFun.mk 130 [ERes.t 12] r6_0
theorem c6 : cFun Tryd.prog 2 (fun _ => false) Tryd.f6 = some e6 := by kernel_rfl
theorem x6 : Tryd.prog.funcs[6]? = some Tryd.f6 := by kernel_rfl
theorem n6 : (Tryd.f6.name == "runtime.NumGoroutine") = false := by kernel_rfl
/-! 7: septumlaw03.LaneMasks -/
def l7_0p0 : EC := EC.seq (EC.ops false [EOper.mk (some 83) (EOp.mv (Opd.t 15)) none, EOper.mk (some 84) (EOp.bin .lss (Opd.t 83) (Opd.c (V.int .u32 (4)))) none]) (EC.cond
  (Opd.t 84) EC.skip (EC.exit 0))
def l7_0m0 : List Bool := [false, false, false, false, false, false, false, false, false, false, false, false, false, false, false, false, false, false, false, false, false, false, false, false, false, false, false, false, false, false, false, false, false, false, false, false, false, false, false, false, false, false, false, false, false, false, false, false, false, false, false, false, false, false, false, false, false, false, false, false, false, false, false, false, false, false, false, false, false, false, false, false, false, false, false, false, false, false, false, false, false, false, false, true, true, false, false, false, false, false, false, false, false, false, false, false, false, false, false, false, false, false, false, false, false, false, false, false, false, false]
def l7_0p1 : EC := EC.block 1 (EC.seq (EC.ops false [EOper.mk (some 88) (EOp.mv (Opd.t 0)) none, EOper.mk (some 89) (EOp.mv (Opd.t 15)) none, EOper.mk (some 90) (EOp.call
  (Opd.f 17) [Opd.t 88, Opd.t 89, Opd.c (V.int .i64 (1))]) none, EOper.mk (some 87) (EOp.mv (Opd.t 90)) none, EOper.mk (some 91) (EOp.ext (Opd.t 87) 0) none, EOper.mk
  (some 92) (EOp.ext (Opd.t 87) 1) none, EOper.mk (some 16) (EOp.mv (Opd.t 91)) none, EOper.mk (some 17) (EOp.mv (Opd.t 92)) none]) (EC.seq (EC.ops false [EOper.mk (some
  94) (EOp.mv (Opd.t 14)) none, EOper.mk (some 95) (EOp.mv (Opd.t 15)) none, EOper.mk (some 96) (EOp.mv (Opd.t 16)) none, EOper.mk (some 97) (EOp.call (Opd.f 14) [Opd.t
  94, Opd.t 95, Opd.c (V.int .i64 (1)), Opd.t 96]) none, EOper.mk (some 93) (EOp.mv (Opd.t 97)) none, EOper.mk (some 98) (EOp.ext (Opd.t 93) 0) none, EOper.mk (some 99)
  (EOp.ext (Opd.t 93) 1) none, EOper.mk (some 18) (EOp.mv (Opd.t 98)) none, EOper.mk (some 19) (EOp.mv (Opd.t 99)) none]) (EC.seq (EC.seq (EC.ops false [EOper.mk (some
  100) (EOp.mv (Opd.t 17)) none, EOper.mk (some 101) (EOp.un .not (Opd.t 100)) none, EOper.mk (some 102) (EOp.mv (Opd.t 101)) none, EOper.mk (some 103) (EOp.mv (Opd.t 19))
  (some (102, false)), EOper.mk (some 104) (EOp.un .not (Opd.t 103)) (some (102, false)), EOper.mk (some 105) (EOp.pick (Opd.t 102) (Opd.c (V.bool true)) (Opd.t 104))
  none]) (EC.cond (Opd.t 105) (EC.seq (EC.ops false [EOper.mk (some 6) (EOp.mv (Opd.c (V.bool false))) none]) EC.ret) EC.skip)) (EC.ops false [EOper.mk (some 106) (EOp.mv
  (Opd.t 18)) none, EOper.mk (some 14) (EOp.mv (Opd.t 106)) none]))))
def l7_0m1 : List Bool := [false, false, false, false, false, false, true, false, false, false, false, false, false, false, true, false, true, true, true, true, false, false, false, false, false, false, false, false, false, false, false, false, false, false, false, false, false, false, false, false, false, false, false, false, false, false, false, false, false, false, false, false, false, false, false, false, false, false, false, false, false, false, false, false, false, false, false, false, false, false, false, false, false, false, false, false, false, false, false, false, false, false, false, false, false, false, false, true, true, true, true, true, true, true, true, true, true, true, true, true, true, true, true, true, true, true, true, false, false, false]
def l7_0p2 : EC := EC.ops false [EOper.mk (some 85) (EOp.mv (Opd.t 15)) none, EOper.mk (some 86) (EOp.bin .add (Opd.t 85) (Opd.c (V.int .u32 (1)))) none, EOper.mk (some
  15) (EOp.mv (Opd.t 86)) none]
def l7_0m2 : List Bool := [false, false, false, false, false, false, false, false, false, false, false, false, false, false, false, true, false, false, false, false, false, false, false, false, false, false, false, false, false, false, false, false, false, false, false, false, false, false, false, false, false, false, false, false, false, false, false, false, false, false, false, false, false, false, false, false, false, false, false, false, false, false, false, false, false, false, false, false, false, false, false, false, false, false, false, false, false, false, false, false, false, false, false, false, false, true, true, false, false, false, false, false, false, false, false, false, false, false, false, false, false, false, false, false, false, false, false, false, false, false]
def l7_0r2 : EC := l7_0p2
def l7_0r1 : EC := EC.seq l7_0p1 l7_0r2
def l7_0r0 : EC := EC.seq l7_0p0 l7_0r1
def l7_0 : EC := l7_0r0
def b7_0 : EC := EC.ops false [EOper.mk (some 6) (EOp.mv (Opd.c (V.bool false))) none]
def m7_0 : List Bool := [false, false, false, false, false, false, true, false, false, false, false, false, false, false, false, false, false, false, false, false, false, false, false, false, false, false, false, false, false, false, false, false, false, false, false, false, false, false, false, false, false, false, false, false, false, false, false, false, false, false, false, false, false, false, false, false, false, false, false, false, false, false, false, false, false, false, false, false, false, false, false, false, false, false, false, false, false, false, false, false, false, false, false, false, false, false, false, false, false, false, false, false, false, false, false, false, false, false, false, false, false, false, false, false, false, false, false, false, false, false]
def b7_1 : EC := EC.seq (EC.ops false [EOper.mk (some 20) (EOp.call (Opd.f 12) []) none, EOper.mk (some 21) (EOp.un .not (Opd.t 20)) none]) (EC.cond (Opd.t 21) (EC.seq
  (EC.ops false [EOper.mk (some 6) (EOp.mv (Opd.c (V.bool false))) none]) EC.ret) EC.skip)
def m7_1 : List Bool := [false, false, false, false, false, false, true, false, false, false, false, false, false, false, false, false, false, false, false, false, true, true, false, false, false, false, false, false, false, false, false, false, false, false, false, false, false, false, false, false, false, false, false, false, false, false, false, false, false, false, false, false, false, false, false, false, false, false, false, false, false, false, false, false, false, false, false, false, false, false, false, false, false, false, false, false, false, false, false, false, false, false, false, false, false, false, false, false, false, false, false, false, false, false, false, false, false, false, false, false, false, false, false, false, false, false, false, false, false, false]
def b7_2 : EC := EC.ops false [EOper.mk (some 23) (EOp.mv (Opd.t 1)) none, EOper.mk (some 24) (EOp.mv (Opd.t 2)) none, EOper.mk (some 25) (EOp.call (Opd.f 15) [Opd.t 23,
  Opd.t 24]) none, EOper.mk (some 22) (EOp.mv (Opd.t 25)) none, EOper.mk (some 26) (EOp.ext (Opd.t 22) 0) none, EOper.mk (some 27) (EOp.ext (Opd.t 22) 1) none, EOper.mk
  (some 7) (EOp.mv (Opd.t 26)) none, EOper.mk (some 8) (EOp.mv (Opd.t 27)) none]
def m7_2 : List Bool := [false, false, false, false, false, false, false, true, true, false, false, false, false, false, false, false, false, false, false, false, false, false, true, true, true, true, true, true, false, false, false, false, false, false, false, false, false, false, false, false, false, false, false, false, false, false, false, false, false, false, false, false, false, false, false, false, false, false, false, false, false, false, false, false, false, false, false, false, false, false, false, false, false, false, false, false, false, false, false, false, false, false, false, false, false, false, false, false, false, false, false, false, false, false, false, false, false, false, false, false, false, false, false, false, false, false, false, false, false, false]
def b7_3 : EC := EC.ops false [EOper.mk (some 29) (EOp.mv (Opd.t 1)) none, EOper.mk (some 30) (EOp.bin .add (Opd.t 29) (Opd.c (V.int .u32 (4)))) none, EOper.mk (some 31)
  (EOp.mv (Opd.t 2)) none, EOper.mk (some 32) (EOp.call (Opd.f 15) [Opd.t 30, Opd.t 31]) none, EOper.mk (some 28) (EOp.mv (Opd.t 32)) none, EOper.mk (some 33) (EOp.ext
  (Opd.t 28) 0) none, EOper.mk (some 34) (EOp.ext (Opd.t 28) 1) none, EOper.mk (some 9) (EOp.mv (Opd.t 33)) none, EOper.mk (some 10) (EOp.mv (Opd.t 34)) none]
def m7_3 : List Bool := [false, false, false, false, false, false, false, false, false, true, true, false, false, false, false, false, false, false, false, false, false, false, false, false, false, false, false, false, true, true, true, true, true, true, true, false, false, false, false, false, false, false, false, false, false, false, false, false, false, false, false, false, false, false, false, false, false, false, false, false, false, false, false, false, false, false, false, false, false, false, false, false, false, false, false, false, false, false, false, false, false, false, false, false, false, false, false, false, false, false, false, false, false, false, false, false, false, false, false, false, false, false, false, false, false, false, false, false, false, false]
def b7_4 : EC := EC.seq (EC.ops false [EOper.mk (some 35) (EOp.mv (Opd.t 8)) none, EOper.mk (some 36) (EOp.mv (Opd.t 10)) none, EOper.mk (some 37) (EOp.eqb true (Opd.t 35)
  (Opd.t 36)) none, EOper.mk (some 38) (EOp.mv (Opd.t 37)) none, EOper.mk (some 39) (EOp.mv (Opd.t 7)) (some (38, false)), EOper.mk (some 40) (EOp.mv (Opd.t 9)) (some (38,
  false)), EOper.mk (some 41) (EOp.bin .neq (Opd.t 39) (Opd.t 40)) (some (38, false)), EOper.mk (some 42) (EOp.pick (Opd.t 38) (Opd.c (V.bool true)) (Opd.t 41)) none,
  EOper.mk (some 43) (EOp.mv (Opd.t 42)) none, EOper.mk (some 44) (EOp.mv (Opd.t 7)) (some (43, false)), EOper.mk (some 45) (EOp.bin .gtr (Opd.t 44) (Opd.c (V.int .u32
  (15)))) (some (43, false)), EOper.mk (some 46) (EOp.pick (Opd.t 43) (Opd.c (V.bool true)) (Opd.t 45)) none]) (EC.cond (Opd.t 46) (EC.seq (EC.ops false [EOper.mk (some 6)
  (EOp.mv (Opd.c (V.bool false))) none]) EC.ret) EC.skip)
def m7_4 : List Bool := [false, false, false, false, false, false, true, false, false, false, false, false, false, false, false, false, false, false, false, false, false, false, false, false, false, false, false, false, false, false, false, false, false, false, false, true, true, true, true, true, true, true, true, true, true, true, true, false, false, false, false, false, false, false, false, false, false, false, false, false, false, false, false, false, false, false, false, false, false, false, false, false, false, false, false, false, false, false, false, false, false, false, false, false, false, false, false, false, false, false, false, false, false, false, false, false, false, false, false, false, false, false, false, false, false, false, false, false, false, false]
def b7_5 : EC := EC.seq (EC.ops false [EOper.mk (some 47) (EOp.mv (Opd.t 8)) none]) (EC.cond (Opd.t 47) (EC.seq (EC.ops false [EOper.mk (some 49) (EOp.mv (Opd.t 7)) none,
  EOper.mk (some 50) (EOp.call (Opd.f 19) [Opd.t 49]) none, EOper.mk (some 48) (EOp.mv (Opd.t 50)) none, EOper.mk (some 51) (EOp.ext (Opd.t 48) 0) none, EOper.mk (some 52)
  (EOp.ext (Opd.t 48) 1) none, EOper.mk (some 11) (EOp.mv (Opd.t 51)) none, EOper.mk (some 12) (EOp.mv (Opd.t 52)) none]) (EC.seq (EC.ops false [EOper.mk (some 53) (EOp.mv
  (Opd.t 7)) none, EOper.mk (some 54) (EOp.call (Opd.f 20) [Opd.t 53]) none, EOper.mk (some 13) (EOp.mv (Opd.t 54)) none]) (EC.seq (EC.ops false [EOper.mk (some 55)
  (EOp.mv (Opd.t 12)) none, EOper.mk (some 56) (EOp.un .not (Opd.t 55)) none, EOper.mk (some 57) (EOp.mv (Opd.t 56)) none, EOper.mk (some 58) (EOp.mv (Opd.t 13)) (some
  (57, false)), EOper.mk (some 59) (EOp.len false (Opd.t 58)) (some (57, false)), EOper.mk (some 60) (EOp.mv (Opd.t 2)) (some (57, false)), EOper.mk (some 61) (EOp.bin
  .neq (Opd.t 59) (Opd.t 60)) (some (57, false)), EOper.mk (some 62) (EOp.pick (Opd.t 57) (Opd.c (V.bool true)) (Opd.t 61)) none, EOper.mk (some 63) (EOp.mv (Opd.t 62))
  none, EOper.mk (some 64) (EOp.mv (Opd.t 11)) (some (63, false)), EOper.mk (some 65) (EOp.mv (Opd.t 1)) (some (63, false)), EOper.mk (some 66) (EOp.bin .rem (Opd.t 65)
  (Opd.c (V.int .u32 (4)))) (some (63, false)), EOper.mk (some 67) (EOp.conv .i64 (Opd.t 66)) (some (63, false)), EOper.mk (some 68) (EOp.bin .neq (Opd.t 64) (Opd.t 67))
  (some (63, false)), EOper.mk (some 69) (EOp.pick (Opd.t 63) (Opd.c (V.bool true)) (Opd.t 68)) none, EOper.mk (some 70) (EOp.mv (Opd.t 69)) none, EOper.mk (some 71)
  (EOp.mv (Opd.t 13)) (some (70, false)), EOper.mk (some 72) (EOp.mv (Opd.t 13)) (some (70, false)), EOper.mk (some 73) (EOp.len false (Opd.t 72)) (some (70, false)),
  EOper.mk (some 74) (EOp.bin .sub (Opd.t 73) (Opd.c (V.int .i64 (1)))) (some (70, false)), EOper.mk (some 75) (EOp.ixs 1 (Opd.t 71) (Opd.t 74)) (some (70, false)),
  EOper.mk (some 76) (EOp.ld false 1 (Opd.t 75)) (some (70, false)), EOper.mk (some 77) (EOp.mv (Opd.t 11)) (some (70, false)), EOper.mk (some 78) (EOp.mv (Opd.t 2)) (some
  (70, false)), EOper.mk (some 79) (EOp.bin .add (Opd.t 77) (Opd.t 78)) (some (70, false)), EOper.mk (some 80) (EOp.bin .sub (Opd.t 79) (Opd.c (V.int .i64 (1)))) (some
  (70, false)), EOper.mk (some 81) (EOp.bin .neq (Opd.t 76) (Opd.t 80)) (some (70, false)), EOper.mk (some 82) (EOp.pick (Opd.t 70) (Opd.c (V.bool true)) (Opd.t 81))
  none]) (EC.cond (Opd.t 82) (EC.seq (EC.ops false [EOper.mk (some 6) (EOp.mv (Opd.c (V.bool false))) none]) EC.ret) EC.skip)))) EC.skip)
def m7_5 : List Bool := [false, false, false, false, false, false, true, false, false, false, false, true, true, true, false, false, false, false, false, false, false, false, false, false, false, false, false, false, false, false, false, false, false, false, false, false, false, false, false, false, false, false, false, false, false, false, false, true, true, true, true, true, true, true, true, true, true, true, true, true, true, true, true, true, true, true, true, true, true, true, true, true, true, true, true, true, true, true, true, true, true, true, true, false, false, false, false, false, false, false, false, false, false, false, false, false, false, false, false, false, false, false, false, false, false, false, false, false, false, false]
def b7_6 : EC := EC.ops false [EOper.mk (some 14) (EOp.mv (Opd.c (V.int .u32 (0)))) none]
def m7_6 : List Bool := [false, false, false, false, false, false, false, false, false, false, false, false, false, false, true, false, false, false, false, false, false, false, false, false, false, false, false, false, false, false, false, false, false, false, false, false, false, false, false, false, false, false, false, false, false, false, false, false, false, false, false, false, false, false, false, false, false, false, false, false, false, false, false, false, false, false, false, false, false, false, false, false, false, false, false, false, false, false, false, false, false, false, false, false, false, false, false, false, false, false, false, false, false, false, false, false, false, false, false, false, false, false, false, false, false, false, false, false, false, false]
def b7_7 : EC := EC.seq (EC.ops false [EOper.mk (some 15) (EOp.mv (Opd.c (V.int .u32 (0)))) none]) (EC.block 0 (EC.loop l7_0))
def m7_7 : List Bool := [false, false, false, false, false, false, true, false, false, false, false, false, false, false, true, true, true, true, true, true, false, false, false, false, false, false, false, false, false, false, false, false, false, false, false, false, false, false, false, false, false, false, false, false, false, false, false, false, false, false, false, false, false, false, false, false, false, false, false, false, false, false, false, false, false, false, false, false, false, false, false, false, false, false, false, false, false, false, false, false, false, false, false, true, true, true, true, true, true, true, true, true, true, true, true, true, true, true, true, true, true, true, true, true, true, true, true, false, false, false]
def b7_8 : EC := EC.ops false [EOper.mk (some 107) (EOp.mv (Opd.t 14)) none, EOper.mk (some 108) (EOp.mv (Opd.t 0)) none, EOper.mk (some 109) (EOp.bin .eql (Opd.t 107)
  (Opd.t 108)) none, EOper.mk (some 6) (EOp.mv (Opd.t 109)) none]
def m7_8 : List Bool := [false, false, false, false, false, false, true, false, false, false, false, false, false, false, false, false, false, false, false, false, false, false, false, false, false, false, false, false, false, false, false, false, false, false, false, false, false, false, false, false, false, false, false, false, false, false, false, false, false, false, false, false, false, false, false, false, false, false, false, false, false, false, false, false, false, false, false, false, false, false, false, false, false, false, false, false, false, false, false, false, false, false, false, false, false, false, false, false, false, false, false, false, false, false, false, false, false, false, false, false, false, false, false, false, false, false, false, true, true, true]
def b7_9 : EC := EC.ret
def m7_9 : List Bool := [false, false, false, false, false, false, false, false, false, false, false, false, false, false, false, false, false, false, false, false, false, false, false, false, false, false, false, false, false, false, false, false, false, false, false, false, false, false, false, false, false, false, false, false, false, false, false, false, false, false, false, false, false, false, false, false, false, false, false, false, false, false, false, false, false, false, false, false, false, false, false, false, false, false, false, false, false, false, false, false, false, false, false, false, false, false, false, false, false, false, false, false, false, false, false, false, false, false, false, false, false, false, false, false, false, false, false, false, false, false]
def r7_9 : EC := b7_9
def r7_8 : EC := EC.seq b7_8 r7_9
def r7_7 : EC := EC.seq b7_7 r7_8
def r7_6 : EC := EC.seq b7_6 r7_7
def r7_5 : EC := EC.seq b7_5 r7_6
def r7_4 : EC := EC.seq b7_4 r7_5
def r7_3 : EC := EC.seq b7_3 r7_4
def r7_2 : EC := EC.seq b7_2 r7_3
def r7_1 : EC := EC.seq b7_1 r7_2
def r7_0 : EC := EC.seq b7_0 r7_1
def e7 : EFun := EFun.mk 110 [ERes.t 6] r7_0
theorem c7 : cFun Tryd.prog 2 (fun _ => false) Tryd.f7 = some e7 := by kernel_rfl
theorem x7 : Tryd.prog.funcs[7]? = some Tryd.f7 := by kernel_rfl
theorem n7 : (Tryd.f7.name == "runtime.NumGoroutine") = false := by kernel_rfl
/-! 8: septumlaw03.lanes -/
def b8_0 : EC := EC.ops false [EOper.mk (some 4) (EOp.mv (Opd.c (V.bool false))) none]
def m8_0 : List Bool := [false, false, false, false, true, false, false, false, false, false, false, false, false, false, false, false, false, false, false, false, false, false, false, false, false, false, false, false, false, false, false, false, false, false, false, false, false, false]
def b8_1 : EC := EC.ops false [EOper.mk (some 10) (EOp.mv (Opd.t 0)) none, EOper.mk (some 11) (EOp.mv (Opd.t 1)) none, EOper.mk (some 12) (EOp.call (Opd.f 15) [Opd.t 10,
  Opd.t 11]) none, EOper.mk (some 9) (EOp.mv (Opd.t 12)) none, EOper.mk (some 13) (EOp.ext (Opd.t 9) 0) none, EOper.mk (some 14) (EOp.ext (Opd.t 9) 1) none, EOper.mk (some
  5) (EOp.mv (Opd.t 13)) none, EOper.mk (some 6) (EOp.mv (Opd.t 14)) none]
def m8_1 : List Bool := [false, false, false, false, false, true, true, false, false, true, true, true, true, true, true, false, false, false, false, false, false, false, false, false, false, false, false, false, false, false, false, false, false, false, false, false, false, false]
def b8_2 : EC := EC.ops false [EOper.mk (some 16) (EOp.mv (Opd.t 0)) none, EOper.mk (some 17) (EOp.mv (Opd.t 1)) none, EOper.mk (some 18) (EOp.call (Opd.f 21) [Opd.t 16,
  Opd.t 17]) none, EOper.mk (some 15) (EOp.mv (Opd.t 18)) none, EOper.mk (some 19) (EOp.ext (Opd.t 15) 0) none, EOper.mk (some 20) (EOp.ext (Opd.t 15) 1) none, EOper.mk
  (some 7) (EOp.mv (Opd.t 19)) none, EOper.mk (some 8) (EOp.mv (Opd.t 20)) none]
def m8_2 : List Bool := [false, false, false, false, false, false, false, true, true, false, false, false, false, false, false, true, true, true, true, true, true, false, false, false, false, false, false, false, false, false, false, false, false, false, false, false, false, false]
def b8_3 : EC := EC.ops false [EOper.mk (some 21) (EOp.mv (Opd.t 0)) none, EOper.mk (some 22) (EOp.mv (Opd.t 1)) none, EOper.mk (some 23) (EOp.call (Opd.f 16) [Opd.t 21,
  Opd.t 22]) none, EOper.mk (some 24) (EOp.mv (Opd.t 0)) none, EOper.mk (some 25) (EOp.mv (Opd.t 1)) none, EOper.mk (some 26) (EOp.call (Opd.f 22) [Opd.t 24, Opd.t 25])
  none, EOper.mk (some 27) (EOp.eqb false (Opd.t 23) (Opd.t 26)) none, EOper.mk (some 28) (EOp.mv (Opd.t 27)) none, EOper.mk (some 29) (EOp.mv (Opd.t 5)) (some (28,
  true)), EOper.mk (some 30) (EOp.mv (Opd.t 7)) (some (28, true)), EOper.mk (some 31) (EOp.bin .eql (Opd.t 29) (Opd.t 30)) (some (28, true)), EOper.mk (some 32) (EOp.pick
  (Opd.t 28) (Opd.t 31) (Opd.c (V.bool false))) none, EOper.mk (some 33) (EOp.mv (Opd.t 32)) none, EOper.mk (some 34) (EOp.mv (Opd.t 6)) (some (33, true)), EOper.mk (some
  35) (EOp.mv (Opd.t 8)) (some (33, true)), EOper.mk (some 36) (EOp.eqb false (Opd.t 34) (Opd.t 35)) (some (33, true)), EOper.mk (some 37) (EOp.pick (Opd.t 33) (Opd.t 36)
  (Opd.c (V.bool false))) none, EOper.mk (some 4) (EOp.mv (Opd.t 37)) none]
def m8_3 : List Bool := [false, false, false, false, true, false, false, false, false, false, false, false, false, false, false, false, false, false, false, false, false, true, true, true, true, true, true, true, true, true, true, true, true, true, true, true, true, true]
def b8_4 : EC := EC.ret
def m8_4 : List Bool := [false, false, false, false, false, false, false, false, false, false, false, false, false, false, false, false, false, false, false, false, false, false, false, false, false, false, false, false, false, false, false, false, false, false, false, false, false, false]
def r8_4 : EC := b8_4
def r8_3 : EC := EC.seq b8_3 r8_4
def r8_2 : EC := EC.seq b8_2 r8_3
def r8_1 : EC := EC.seq b8_1 r8_2
def r8_0 : EC := EC.seq b8_0 r8_1
def e8 : EFun := EFun.mk 38 [ERes.t 4] r8_0
theorem c8 : cFun Tryd.prog 2 (fun _ => false) Tryd.f8 = some e8 := by kernel_rfl
theorem x8 : Tryd.prog.funcs[8]? = some Tryd.f8 := by kernel_rfl
theorem n8 : (Tryd.f8.name == "runtime.NumGoroutine") = false := by kernel_rfl
/-! 9: septumkit.Pick -/
def b9_0 : EC := EC.ops false [EOper.mk (some 4) (EOp.mv (Opd.c (V.int .i64 (0)))) none]
def m9_0 : List Bool := [false, false, false, false, true, false, false, false, false, false, false, false, false, false, false, false]
def b9_1 : EC := EC.seq (EC.ops false [EOper.mk (some 5) (EOp.mv (Opd.t 1)) none, EOper.mk (some 6) (EOp.bin .lss (Opd.t 5) (Opd.c (V.int .i64 (1)))) none]) (EC.cond
  (Opd.t 6) (EC.seq (EC.ops false [EOper.mk (some 4) (EOp.mv (Opd.c (V.int .i64 (0)))) none]) EC.ret) EC.skip)
def m9_1 : List Bool := [false, false, false, false, true, true, true, false, false, false, false, false, false, false, false, false]
def b9_2 : EC := EC.ops false [EOper.mk (some 7) (EOp.mv (Opd.t 0)) none, EOper.mk (some 8) (EOp.mv (Opd.t 1)) none, EOper.mk (some 9) (EOp.bin .rem (Opd.t 7) (Opd.t 8))
  none, EOper.mk (some 0) (EOp.mv (Opd.t 9)) none]
def m9_2 : List Bool := [true, false, false, false, false, false, false, true, true, true, false, false, false, false, false, false]
def b9_3 : EC := EC.seq (EC.ops false [EOper.mk (some 10) (EOp.mv (Opd.t 0)) none, EOper.mk (some 11) (EOp.bin .lss (Opd.t 10) (Opd.c (V.int .i64 (0)))) none]) (EC.cond
  (Opd.t 11) (EC.ops false [EOper.mk (some 12) (EOp.mv (Opd.t 0)) none, EOper.mk (some 13) (EOp.mv (Opd.t 1)) none, EOper.mk (some 14) (EOp.bin .add (Opd.t 12) (Opd.t 13))
  none, EOper.mk (some 0) (EOp.mv (Opd.t 14)) none]) EC.skip)
def m9_3 : List Bool := [true, false, false, false, false, false, false, false, false, false, true, true, true, true, true, false]
def b9_4 : EC := EC.ops false [EOper.mk (some 15) (EOp.mv (Opd.t 0)) none, EOper.mk (some 4) (EOp.mv (Opd.t 15)) none]
def m9_4 : List Bool := [false, false, false, false, true, false, false, false, false, false, false, false, false, false, false, true]
def b9_5 : EC := EC.ret
def m9_5 : List Bool := [false, false, false, false, false, false, false, false, false, false, false, false, false, false, false, false]
def r9_5 : EC := b9_5
def r9_4 : EC := EC.seq b9_4 r9_5
def r9_3 : EC := EC.seq b9_3 r9_4
def r9_2 : EC := EC.seq b9_2 r9_3
def r9_1 : EC := EC.seq b9_1 r9_2
def r9_0 : EC := EC.seq b9_0 r9_1
def e9 : EFun := EFun.mk 16 [ERes.t 4] r9_0
theorem c9 : cFun Tryd.prog 2 (fun _ => false) Tryd.f9 = some e9 := by kernel_rfl
theorem x9 : Tryd.prog.funcs[9]? = some Tryd.f9 := by kernel_rfl
theorem n9 : (Tryd.f9.name == "runtime.NumGoroutine") = false := by kernel_rfl
/-! 10: lane.Wide -/
def l10_0p0 : EC := EC.ops false [EOper.mk (some 7) (EOp.bin .lss (Opd.t 6) (Opd.c (V.int .i64 (4)))) none]
def l10_0m0 : List Bool := [false, false, false, false, false, false, false, true, false, false, false, false, false, false, false, false, false, false, false, false]
def l10_0p1 : EC := EC.cond (Opd.t 7) EC.skip (EC.exit 0)
def l10_0m1 : List Bool := [false, false, false, false, false, false, false, false, false, false, false, false, false, false, false, false, false, false, false, false]
def l10_0p2 : EC := EC.block 1 (EC.seq (EC.ops false [EOper.mk (some 8) (EOp.mv (Opd.t 6)) none, EOper.mk (some 9) (EOp.idx false 4 1 (Opd.t 5) (Opd.t 6)) none, EOper.mk
  (some 3) (EOp.mv (Opd.t 8)) none, EOper.mk (some 4) (EOp.mv (Opd.t 9)) none]) (EC.seq (EC.ops false [EOper.mk (some 10) (EOp.mv (Opd.t 0)) none, EOper.mk (some 11)
  (EOp.mv (Opd.t 3)) none, EOper.mk (some 12) (EOp.bin .shr (Opd.t 10) (Opd.t 11)) none, EOper.mk (some 13) (EOp.bin .and (Opd.t 12) (Opd.c (V.int .u32 (1)))) none,
  EOper.mk (some 14) (EOp.bin .eql (Opd.t 13) (Opd.c (V.int .u32 (1)))) none]) (EC.cond (Opd.t 14) (EC.ops false [EOper.mk (some 15) (EOp.mv (Opd.t 2)) none, EOper.mk
  (some 16) (EOp.mv (Opd.t 4)) none, EOper.mk (some 17) (EOp.bin .or (Opd.t 15) (Opd.t 16)) none, EOper.mk (some 2) (EOp.mv (Opd.t 17)) none]) EC.skip)))
def l10_0m2 : List Bool := [false, false, true, true, true, false, false, false, true, true, true, true, true, true, true, true, true, true, false, false]
def l10_0p3 : EC := EC.ops false [EOper.mk (some 18) (EOp.bin .add (Opd.t 6) (Opd.c (V.int .i64 (1)))) none, EOper.mk (some 6) (EOp.mv (Opd.t 18)) none]
def l10_0m3 : List Bool := [false, false, false, false, false, false, true, false, false, false, false, false, false, false, false, false, false, false, true, false]
def l10_0r3 : EC := l10_0p3
def l10_0r2 : EC := EC.seq l10_0p2 l10_0r3
def l10_0r1 : EC := EC.seq l10_0p1 l10_0r2
def l10_0r0 : EC := EC.seq l10_0p0 l10_0r1
def l10_0 : EC := l10_0r0
def b10_0 : EC := EC.ops false [EOper.mk (some 2) (EOp.mv (Opd.c (V.int .u32 (0)))) none]
def m10_0 : List Bool := [false, false, true, false, false, false, false, false, false, false, false, false, false, false, false, false, false, false, false, false]
def b10_1 : EC := EC.seq (EC.ops false [EOper.mk (some 5) (EOp.ld true 4 (Opd.g 0)) none, EOper.mk (some 6) (EOp.mv (Opd.c (V.int .i64 (0)))) none]) (EC.block 0 (EC.loop
  l10_0))
def m10_1 : List Bool := [false, false, true, true, true, true, true, true, true, true, true, true, true, true, true, true, true, true, true, false]
def b10_2 : EC := EC.ops false [EOper.mk (some 19) (EOp.mv (Opd.t 2)) none, EOper.mk (some 2) (EOp.mv (Opd.t 19)) none]
def m10_2 : List Bool := [false, false, true, false, false, false, false, false, false, false, false, false, false, false, false, false, false, false, false, true]
def b10_3 : EC := EC.ret
def m10_3 : List Bool := [false, false, false, false, false, false, false, false, false, false, false, false, false, false, false, false, false, false, false, false]
def r10_3 : EC := b10_3
def r10_2 : EC := EC.seq b10_2 r10_3
def r10_1 : EC := EC.seq b10_1 r10_2
def r10_0 : EC := EC.seq b10_0 r10_1
def e10 : EFun := EFun.mk 20 [ERes.t 2] r10_0
theorem c10 : cFun Tryd.prog 2 (fun _ => false) Tryd.f10 = some e10 := by kernel_rfl
theorem x10 : Tryd.prog.funcs[10]? = some Tryd.f10 := by kernel_rfl
theorem n10 : (Tryd.f10.name == "runtime.NumGoroutine") = false := by kernel_rfl
/-! 11: septumref03.Wide -/
def l11_0p0 : EC := EC.seq (EC.ops false [EOper.mk (some 5) (EOp.mv (Opd.t 4)) none, EOper.mk (some 6) (EOp.bin .lss (Opd.t 5) (Opd.c (V.int .i64 (4)))) none]) (EC.cond
  (Opd.t 6) EC.skip (EC.exit 0))
def l11_0m0 : List Bool := [false, false, false, false, false, true, true, false, false, false, false, false, false, false, false, false, false, false, false, false]
def l11_0p1 : EC := EC.block 1 (EC.seq (EC.ops false [EOper.mk (some 9) (EOp.mv (Opd.t 0)) none, EOper.mk (some 10) (EOp.mv (Opd.t 4)) none, EOper.mk (some 11) (EOp.bin
  .shr (Opd.t 9) (Opd.t 10)) none, EOper.mk (some 12) (EOp.bin .rem (Opd.t 11) (Opd.c (V.int .u32 (2)))) none, EOper.mk (some 13) (EOp.bin .eql (Opd.t 12) (Opd.c (V.int
  .u32 (1)))) none]) (EC.cond (Opd.t 13) (EC.ops false [EOper.mk (some 14) (EOp.mv (Opd.t 3)) none, EOper.mk (some 15) (EOp.mv (Opd.t 4)) none, EOper.mk (some 16) (EOp.bin
  .mul (Opd.c (V.int .i64 (8))) (Opd.t 15)) none, EOper.mk (some 17) (EOp.bin .shl (Opd.c (V.int .u32 (255))) (Opd.t 16)) none, EOper.mk (some 18) (EOp.bin .add (Opd.t 14)
  (Opd.t 17)) none, EOper.mk (some 3) (EOp.mv (Opd.t 18)) none]) EC.skip))
def l11_0m1 : List Bool := [false, false, false, true, false, false, false, false, false, true, true, true, true, true, true, true, true, true, true, false]
def l11_0p2 : EC := EC.ops false [EOper.mk (some 7) (EOp.mv (Opd.t 4)) none, EOper.mk (some 8) (EOp.bin .add (Opd.t 7) (Opd.c (V.int .i64 (1)))) none, EOper.mk (some 4)
  (EOp.mv (Opd.t 8)) none]
def l11_0m2 : List Bool := [false, false, false, false, true, false, false, true, true, false, false, false, false, false, false, false, false, false, false, false]
def l11_0r2 : EC := l11_0p2
def l11_0r1 : EC := EC.seq l11_0p1 l11_0r2
def l11_0r0 : EC := EC.seq l11_0p0 l11_0r1
def l11_0 : EC := l11_0r0
def b11_0 : EC := EC.ops false [EOper.mk (some 2) (EOp.mv (Opd.c (V.int .u32 (0)))) none]
def m11_0 : List Bool := [false, false, true, false, false, false, false, false, false, false, false, false, false, false, false, false, false, false, false, false]
def b11_1 : EC := EC.ops false [EOper.mk (some 3) (EOp.mv (Opd.c (V.int .u32 (0)))) none]
def m11_1 : List Bool := [false, false, false, true, false, false, false, false, false, false, false, false, false, false, false, false, false, false, false, false]
def b11_2 : EC := EC.seq (EC.ops false [EOper.mk (some 4) (EOp.mv (Opd.c (V.int .i64 (0)))) none]) (EC.block 0 (EC.loop l11_0))
def m11_2 : List Bool := [false, false, false, true, true, true, true, true, true, true, true, true, true, true, true, true, true, true, true, false]
def b11_3 : EC := EC.ops false [EOper.mk (some 19) (EOp.mv (Opd.t 3)) none, EOper.mk (some 2) (EOp.mv (Opd.t 19)) none]
def m11_3 : List Bool := [false, false, true, false, false, false, false, false, false, false, false, false, false, false, false, false, false, false, false, true]
def b11_4 : EC := EC.ret
def m11_4 : List Bool := [false, false, false, false, false, false, false, false, false, false, false, false, false, false, false, false, false, false, false, false]
def r11_4 : EC := b11_4
def r11_3 : EC := EC.seq b11_3 r11_4
def r11_2 : EC := EC.seq b11_2 r11_3
def r11_1 : EC := EC.seq b11_1 r11_2
def r11_0 : EC := EC.seq b11_0 r11_1
def e11 : EFun := EFun.mk 20 [ERes.t 2] r11_0
theorem c11 : cFun Tryd.prog 2 (fun _ => false) Tryd.f11 = some e11 := by kernel_rfl
theorem x11 : Tryd.prog.funcs[11]? = some Tryd.f11 := by kernel_rfl
theorem n11 : (Tryd.f11.name == "runtime.NumGoroutine") = false := by kernel_rfl
/-! 12: septumlaw03.awake -/
def b12_0 : EC := EC.ops false [EOper.mk (some 0) (EOp.mv (Opd.c (V.bool false))) none]
def m12_0 : List Bool := [true, false, false, false, false, false, false, false, false, false, false, false, false, false, false, false, false, false, false, false, false, false, false, false, false, false, false, false, false, false, false, false, false, false]
def b12_1 : EC := EC.ops false [EOper.mk (some 6) (EOp.call (Opd.f 15) [Opd.c (V.int .u32 (6)), Opd.c (V.int .i64 (2))]) none, EOper.mk (some 5) (EOp.mv (Opd.t 6)) none,
  EOper.mk (some 7) (EOp.ext (Opd.t 5) 0) none, EOper.mk (some 8) (EOp.ext (Opd.t 5) 1) none, EOper.mk (some 1) (EOp.mv (Opd.t 7)) none, EOper.mk (some 2) (EOp.mv (Opd.t
  8)) none]
def m12_1 : List Bool := [false, true, true, false, false, true, true, true, true, false, false, false, false, false, false, false, false, false, false, false, false, false, false, false, false, false, false, false, false, false, false, false, false, false]
def b12_2 : EC := EC.ops false [EOper.mk (some 10) (EOp.call (Opd.f 14) [Opd.c (V.int .u32 (2863311530)), Opd.c (V.int .u32 (6)), Opd.c (V.int .i64 (2)), Opd.c (V.int .u32
  (19088743))]) none, EOper.mk (some 9) (EOp.mv (Opd.t 10)) none, EOper.mk (some 11) (EOp.ext (Opd.t 9) 0) none, EOper.mk (some 12) (EOp.ext (Opd.t 9) 1) none, EOper.mk
  (some 3) (EOp.mv (Opd.t 11)) none, EOper.mk (some 4) (EOp.mv (Opd.t 12)) none]
def m12_2 : List Bool := [false, false, false, true, true, false, false, false, false, true, true, true, true, false, false, false, false, false, false, false, false, false, false, false, false, false, false, false, false, false, false, false, false, false]
def b12_3 : EC := EC.ops false [EOper.mk (some 13) (EOp.mv (Opd.t 1)) none, EOper.mk (some 14) (EOp.bin .eql (Opd.t 13) (Opd.c (V.int .u32 (12)))) none, EOper.mk (some 15)
  (EOp.mv (Opd.t 14)) none, EOper.mk (some 16) (EOp.mv (Opd.t 2)) (some (15, true)), EOper.mk (some 17) (EOp.pick (Opd.t 15) (Opd.t 16) (Opd.c (V.bool false))) none,
  EOper.mk (some 18) (EOp.mv (Opd.t 17)) none, EOper.mk (some 19) (EOp.mv (Opd.t 1)) (some (18, true)), EOper.mk (some 20) (EOp.call (Opd.f 10) [Opd.t 19]) (some (18,
  true)), EOper.mk (some 21) (EOp.bin .eql (Opd.t 20) (Opd.c (V.int .u32 (4294901760)))) (some (18, true)), EOper.mk (some 22) (EOp.pick (Opd.t 18) (Opd.t 21) (Opd.c
  (V.bool false))) none, EOper.mk (some 23) (EOp.mv (Opd.t 22)) none, EOper.mk (some 24) (EOp.mv (Opd.t 3)) (some (23, true)), EOper.mk (some 25) (EOp.bin .eql (Opd.t 24)
  (Opd.c (V.int .u32 (1164421802)))) (some (23, true)), EOper.mk (some 26) (EOp.pick (Opd.t 23) (Opd.t 25) (Opd.c (V.bool false))) none, EOper.mk (some 27) (EOp.mv (Opd.t
  26)) none, EOper.mk (some 28) (EOp.mv (Opd.t 4)) (some (27, true)), EOper.mk (some 29) (EOp.pick (Opd.t 27) (Opd.t 28) (Opd.c (V.bool false))) none, EOper.mk (some 30)
  (EOp.mv (Opd.t 29)) none, EOper.mk (some 31) (EOp.call (Opd.f 16) [Opd.c (V.int .u32 (6)), Opd.c (V.int .i64 (4))]) (some (30, true)), EOper.mk (some 32) (EOp.un .not
  (Opd.t 31)) (some (30, true)), EOper.mk (some 33) (EOp.pick (Opd.t 30) (Opd.t 32) (Opd.c (V.bool false))) none, EOper.mk (some 0) (EOp.mv (Opd.t 33)) none]
def m12_3 : List Bool := [true, false, false, false, false, false, false, false, false, false, false, false, false, true, true, true, true, true, true, true, true, true, true, true, true, true, true, true, true, true, true, true, true, true]
def b12_4 : EC := EC.ret
def m12_4 : List Bool := [false, false, false, false, false, false, false, false, false, false, false, false, false, false, false, false, false, false, false, false, false, false, false, false, false, false, false, false, false, false, false, false, false, false]
def r12_4 : EC := b12_4
def r12_3 : EC := EC.seq b12_3 r12_4
def r12_2 : EC := EC.seq b12_2 r12_3
def r12_1 : EC := EC.seq b12_1 r12_2
def r12_0 : EC := EC.seq b12_0 r12_1
def e12 : EFun := EFun.mk 34 [ERes.t 0] r12_0
theorem c12 : cFun Tryd.prog 2 (fun _ => false) Tryd.f12 = some e12 := by kernel_rfl
theorem x12 : Tryd.prog.funcs[12]? = some Tryd.f12 := by kernel_rfl
theorem n12 : (Tryd.f12.name == "runtime.NumGoroutine") = false := by kernel_rfl
/-! 13: septumlaw03.moves -/
def b13_0 : EC := EC.ops false [EOper.mk (some 8) (EOp.mv (Opd.c (V.bool false))) none]
def m13_0 : List Bool := [false, false, false, false, false, false, false, false, true, false, false, false, false, false, false, false, false, false, false, false, false, false, false, false, false, false, false, false, false, false, false, false, false, false, false, false, false, false, false, false, false, false, false, false, false, false, false, false, false, false, false, false, false, false, false, false, false, false, false, false, false, false, false, false, false]
def b13_1 : EC := EC.ops false [EOper.mk (some 18) (EOp.mv (Opd.t 0)) none, EOper.mk (some 19) (EOp.mv (Opd.t 1)) none, EOper.mk (some 20) (EOp.mv (Opd.t 2)) none,
  EOper.mk (some 21) (EOp.call (Opd.f 17) [Opd.t 18, Opd.t 19, Opd.t 20]) none, EOper.mk (some 17) (EOp.mv (Opd.t 21)) none, EOper.mk (some 22) (EOp.ext (Opd.t 17) 0)
  none, EOper.mk (some 23) (EOp.ext (Opd.t 17) 1) none, EOper.mk (some 9) (EOp.mv (Opd.t 22)) none, EOper.mk (some 10) (EOp.mv (Opd.t 23)) none]
def m13_1 : List Bool := [false, false, false, false, false, false, false, false, false, true, true, false, false, false, false, false, false, true, true, true, true, true, true, true, false, false, false, false, false, false, false, false, false, false, false, false, false, false, false, false, false, false, false, false, false, false, false, false, false, false, false, false, false, false, false, false, false, false, false, false, false, false, false, false, false]
def b13_2 : EC := EC.ops false [EOper.mk (some 25) (EOp.mv (Opd.t 0)) none, EOper.mk (some 26) (EOp.mv (Opd.t 1)) none, EOper.mk (some 27) (EOp.mv (Opd.t 2)) none,
  EOper.mk (some 28) (EOp.call (Opd.f 23) [Opd.t 25, Opd.t 26, Opd.t 27]) none, EOper.mk (some 24) (EOp.mv (Opd.t 28)) none, EOper.mk (some 29) (EOp.ext (Opd.t 24) 0)
  none, EOper.mk (some 30) (EOp.ext (Opd.t 24) 1) none, EOper.mk (some 11) (EOp.mv (Opd.t 29)) none, EOper.mk (some 12) (EOp.mv (Opd.t 30)) none]
def m13_2 : List Bool := [false, false, false, false, false, false, false, false, false, false, false, true, true, false, false, false, false, false, false, false, false, false, false, false, true, true, true, true, true, true, true, false, false, false, false, false, false, false, false, false, false, false, false, false, false, false, false, false, false, false, false, false, false, false, false, false, false, false, false, false, false, false, false, false, false]
def b13_3 : EC := EC.ops false [EOper.mk (some 32) (EOp.mv (Opd.t 0)) none, EOper.mk (some 33) (EOp.mv (Opd.t 1)) none, EOper.mk (some 34) (EOp.mv (Opd.t 2)) none,
  EOper.mk (some 35) (EOp.mv (Opd.t 3)) none, EOper.mk (some 36) (EOp.call (Opd.f 14) [Opd.t 32, Opd.t 33, Opd.t 34, Opd.t 35]) none, EOper.mk (some 31) (EOp.mv (Opd.t
  36)) none, EOper.mk (some 37) (EOp.ext (Opd.t 31) 0) none, EOper.mk (some 38) (EOp.ext (Opd.t 31) 1) none, EOper.mk (some 13) (EOp.mv (Opd.t 37)) none, EOper.mk (some
  14) (EOp.mv (Opd.t 38)) none]
def m13_3 : List Bool := [false, false, false, false, false, false, false, false, false, false, false, false, false, true, true, false, false, false, false, false, false, false, false, false, false, false, false, false, false, false, false, true, true, true, true, true, true, true, true, false, false, false, false, false, false, false, false, false, false, false, false, false, false, false, false, false, false, false, false, false, false, false, false, false, false]
def b13_4 : EC := EC.ops false [EOper.mk (some 40) (EOp.mv (Opd.t 0)) none, EOper.mk (some 41) (EOp.mv (Opd.t 1)) none, EOper.mk (some 42) (EOp.mv (Opd.t 2)) none,
  EOper.mk (some 43) (EOp.mv (Opd.t 3)) none, EOper.mk (some 44) (EOp.call (Opd.f 24) [Opd.t 40, Opd.t 41, Opd.t 42, Opd.t 43]) none, EOper.mk (some 39) (EOp.mv (Opd.t
  44)) none, EOper.mk (some 45) (EOp.ext (Opd.t 39) 0) none, EOper.mk (some 46) (EOp.ext (Opd.t 39) 1) none, EOper.mk (some 15) (EOp.mv (Opd.t 45)) none, EOper.mk (some
  16) (EOp.mv (Opd.t 46)) none]
def m13_4 : List Bool := [false, false, false, false, false, false, false, false, false, false, false, false, false, false, false, true, true, false, false, false, false, false, false, false, false, false, false, false, false, false, false, false, false, false, false, false, false, false, false, true, true, true, true, true, true, true, true, false, false, false, false, false, false, false, false, false, false, false, false, false, false, false, false, false, false]
def b13_5 : EC := EC.ops false [EOper.mk (some 47) (EOp.mv (Opd.t 9)) none, EOper.mk (some 48) (EOp.mv (Opd.t 11)) none, EOper.mk (some 49) (EOp.bin .eql (Opd.t 47) (Opd.t
  48)) none, EOper.mk (some 50) (EOp.mv (Opd.t 49)) none, EOper.mk (some 51) (EOp.mv (Opd.t 10)) (some (50, true)), EOper.mk (some 52) (EOp.mv (Opd.t 12)) (some (50,
  true)), EOper.mk (some 53) (EOp.eqb false (Opd.t 51) (Opd.t 52)) (some (50, true)), EOper.mk (some 54) (EOp.pick (Opd.t 50) (Opd.t 53) (Opd.c (V.bool false))) none,
  EOper.mk (some 55) (EOp.mv (Opd.t 54)) none, EOper.mk (some 56) (EOp.mv (Opd.t 13)) (some (55, true)), EOper.mk (some 57) (EOp.mv (Opd.t 15)) (some (55, true)), EOper.mk
  (some 58) (EOp.bin .eql (Opd.t 56) (Opd.t 57)) (some (55, true)), EOper.mk (some 59) (EOp.pick (Opd.t 55) (Opd.t 58) (Opd.c (V.bool false))) none, EOper.mk (some 60)
  (EOp.mv (Opd.t 59)) none, EOper.mk (some 61) (EOp.mv (Opd.t 14)) (some (60, true)), EOper.mk (some 62) (EOp.mv (Opd.t 16)) (some (60, true)), EOper.mk (some 63) (EOp.eqb
  false (Opd.t 61) (Opd.t 62)) (some (60, true)), EOper.mk (some 64) (EOp.pick (Opd.t 60) (Opd.t 63) (Opd.c (V.bool false))) none, EOper.mk (some 8) (EOp.mv (Opd.t 64))
  none]
def m13_5 : List Bool := [false, false, false, false, false, false, false, false, true, false, false, false, false, false, false, false, false, false, false, false, false, false, false, false, false, false, false, false, false, false, false, false, false, false, false, false, false, false, false, false, false, false, false, false, false, false, false, true, true, true, true, true, true, true, true, true, true, true, true, true, true, true, true, true, true]
def b13_6 : EC := EC.ret
def m13_6 : List Bool := [false, false, false, false, false, false, false, false, false, false, false, false, false, false, false, false, false, false, false, false, false, false, false, false, false, false, false, false, false, false, false, false, false, false, false, false, false, false, false, false, false, false, false, false, false, false, false, false, false, false, false, false, false, false, false, false, false, false, false, false, false, false, false, false, false]
def r13_6 : EC := b13_6
def r13_5 : EC := EC.seq b13_5 r13_6
def r13_4 : EC := EC.seq b13_4 r13_5
def r13_3 : EC := EC.seq b13_3 r13_4
def r13_2 : EC := EC.seq b13_2 r13_3
def r13_1 : EC := EC.seq b13_1 r13_2
def r13_0 : EC := EC.seq b13_0 r13_1
def e13 : EFun := EFun.mk 65 [ERes.t 8] r13_0
theorem c13 : cFun Tryd.prog 2 (fun _ => false) Tryd.f13 = some e13 := by kernel_rfl
theorem x13 : Tryd.prog.funcs[13]? = some Tryd.f13 := by kernel_rfl
theorem n13 : (Tryd.f13.name == "runtime.NumGoroutine") = false := by kernel_rfl
/-! 14: lane.Put -/
def b14_0 : EC := EC.ops false [EOper.mk (some 4) (EOp.box false 22 (Opd.t 0)) none, EOper.mk (some 7) (EOp.box false 22 (Opd.t 3)) none, EOper.mk (some 8) (EOp.mv (Opd.c
  (V.int .u32 (0)))) none, EOper.mk (some 9) (EOp.mv (Opd.c (V.bool false))) none]
def m14_0 : List Bool := [false, false, false, false, true, false, false, true, true, true, false, false, false, false, false, false, false, false, false, false]
def b14_1 : EC := EC.ops false [EOper.mk (some 11) (EOp.mv (Opd.t 1)) none, EOper.mk (some 12) (EOp.build [V.int .u32 (0)] [(0, 1, Opd.t 11)]) none, EOper.mk (some 13)
  (EOp.mv (Opd.t 2)) none, EOper.mk (some 14) (EOp.build [V.int .u32 (0), V.int .i64 (0)] [(0, 1, Opd.t 12), (1, 1, Opd.t 13)]) none, EOper.mk (some 10) (EOp.alloc false
  43 [V.int .u32 (0), V.int .i64 (0)]) none, EOper.mk none (EOp.st 2 (Opd.t 10) (Opd.t 14)) none]
def m14_1 : List Bool := [false, false, false, false, false, false, false, false, false, false, true, true, true, true, true, false, false, false, false, false]
def b14_2 : EC := EC.ops false [EOper.mk (some 15) (EOp.ld true 2 (Opd.t 10)) none, EOper.mk (some 16) (EOp.mkfn 26 [] [Opd.t 10, Opd.t 4, Opd.t 7]) none, EOper.mk (some
  17) (EOp.call (Opd.f 25) [Opd.t 15, Opd.t 16]) none, EOper.mk (some 18) (EOp.ext (Opd.t 17) 0) none, EOper.mk (some 19) (EOp.ext (Opd.t 17) 1) none, EOper.mk (some 8)
  (EOp.mv (Opd.t 18)) none, EOper.mk (some 9) (EOp.mv (Opd.t 19)) none]
def m14_2 : List Bool := [false, false, false, false, false, false, false, false, true, true, false, false, false, false, false, true, true, true, true, true]
def b14_3 : EC := EC.ret
def m14_3 : List Bool := [false, false, false, false, false, false, false, false, false, false, false, false, false, false, false, false, false, false, false, false]
def r14_3 : EC := b14_3
def r14_2 : EC := EC.seq b14_2 r14_3
def r14_1 : EC := EC.seq b14_1 r14_2
def r14_0 : EC := EC.seq b14_0 r14_1
def e14 : EFun := EFun.mk 20 [ERes.t 8, ERes.t 9] r14_0
theorem c14 : cFun Tryd.prog 2 (fun d => d == 4 || d == 7 || d == 10) Tryd.f14 = some e14 := by kernel_rfl
theorem x14 : Tryd.prog.funcs[14]? = some Tryd.f14 := by kernel_rfl
theorem n14 : (Tryd.f14.name == "runtime.NumGoroutine") = false := by kernel_rfl
/-! 15: lane.Mask -/
def b15_0 : EC := EC.ops false [EOper.mk (some 4) (EOp.mv (Opd.c (V.int .u32 (0)))) none, EOper.mk (some 5) (EOp.mv (Opd.c (V.bool false))) none]
def m15_0 : List Bool := [false, false, false, false, true, true, false, false, false, false, false, false, false, false, false, false, false]
def b15_1 : EC := EC.ops false [EOper.mk (some 7) (EOp.mv (Opd.t 0)) none, EOper.mk (some 8) (EOp.build [V.int .u32 (0)] [(0, 1, Opd.t 7)]) none, EOper.mk (some 9) (EOp.mv
  (Opd.t 1)) none, EOper.mk (some 10) (EOp.build [V.int .u32 (0), V.int .i64 (0)] [(0, 1, Opd.t 8), (1, 1, Opd.t 9)]) none, EOper.mk (some 6) (EOp.alloc true 43 [V.int
  .u32 (0), V.int .i64 (0)]) none, EOper.mk none (EOp.st 2 (Opd.t 6) (Opd.t 10)) none]
def m15_1 : List Bool := [false, false, false, false, false, false, true, true, true, true, true, false, false, false, false, false, false]
def b15_2 : EC := EC.ops false [EOper.mk (some 11) (EOp.ld true 2 (Opd.t 6)) none, EOper.mk (some 12) (EOp.ld true 2 (Opd.t 6)) none, EOper.mk (some 13) (EOp.mkfn 28
  [Opd.t 12] []) none, EOper.mk (some 14) (EOp.call (Opd.f 25) [Opd.t 11, Opd.t 13]) none, EOper.mk (some 15) (EOp.ext (Opd.t 14) 0) none, EOper.mk (some 16) (EOp.ext
  (Opd.t 14) 1) none, EOper.mk (some 4) (EOp.mv (Opd.t 15)) none, EOper.mk (some 5) (EOp.mv (Opd.t 16)) none]
def m15_2 : List Bool := [false, false, false, false, true, true, false, false, false, false, false, true, true, true, true, true, true]
def b15_3 : EC := EC.ret
def m15_3 : List Bool := [false, false, false, false, false, false, false, false, false, false, false, false, false, false, false, false, false]
def r15_3 : EC := b15_3
def r15_2 : EC := EC.seq b15_2 r15_3
def r15_1 : EC := EC.seq b15_1 r15_2
def r15_0 : EC := EC.seq b15_0 r15_1
def e15 : EFun := EFun.mk 17 [ERes.t 4, ERes.t 5] r15_0
theorem c15 : cFun Tryd.prog 2 (fun _ => false) Tryd.f15 = some e15 := by kernel_rfl
theorem x15 : Tryd.prog.funcs[15]? = some Tryd.f15 := by kernel_rfl
theorem n15 : (Tryd.f15.name == "runtime.NumGoroutine") = false := by kernel_rfl
/-! 16: lane.Aligned -/
def b16_0 : EC := EC.ops false [EOper.mk (some 4) (EOp.mv (Opd.c (V.bool false))) none]
def m16_0 : List Bool := [false, false, false, false, true, false, false, false, false, false]
def b16_1 : EC := EC.ops false [EOper.mk (some 5) (EOp.mv (Opd.t 0)) none, EOper.mk (some 6) (EOp.build [V.int .u32 (0)] [(0, 1, Opd.t 5)]) none, EOper.mk (some 7) (EOp.mv
  (Opd.t 1)) none, EOper.mk (some 8) (EOp.build [V.int .u32 (0), V.int .i64 (0)] [(0, 1, Opd.t 6), (1, 1, Opd.t 7)]) none, EOper.mk (some 9) (EOp.call (Opd.f 29) [Opd.t
  8]) none, EOper.mk (some 4) (EOp.mv (Opd.t 9)) none]
def m16_1 : List Bool := [false, false, false, false, true, true, true, true, true, true]
def b16_2 : EC := EC.ret
def m16_2 : List Bool := [false, false, false, false, false, false, false, false, false, false]
def r16_2 : EC := b16_2
def r16_1 : EC := EC.seq b16_1 r16_2
def r16_0 : EC := EC.seq b16_0 r16_1
def e16 : EFun := EFun.mk 10 [ERes.t 4] r16_0
theorem c16 : cFun Tryd.prog 2 (fun _ => false) Tryd.f16 = some e16 := by kernel_rfl
theorem x16 : Tryd.prog.funcs[16]? = some Tryd.f16 := by kernel_rfl
theorem n16 : (Tryd.f16.name == "runtime.NumGoroutine") = false := by kernel_rfl
/-! 17: lane.Take -/
def b17_0 : EC := EC.ops false [EOper.mk (some 3) (EOp.box false 22 (Opd.t 0)) none, EOper.mk (some 6) (EOp.mv (Opd.c (V.int .u32 (0)))) none, EOper.mk (some 7) (EOp.mv
  (Opd.c (V.bool false))) none]
def m17_0 : List Bool := [false, false, false, true, false, false, true, true, false, false, false, false, false, false, false, false, false, false]
def b17_1 : EC := EC.ops false [EOper.mk (some 9) (EOp.mv (Opd.t 1)) none, EOper.mk (some 10) (EOp.build [V.int .u32 (0)] [(0, 1, Opd.t 9)]) none, EOper.mk (some 11)
  (EOp.mv (Opd.t 2)) none, EOper.mk (some 12) (EOp.build [V.int .u32 (0), V.int .i64 (0)] [(0, 1, Opd.t 10), (1, 1, Opd.t 11)]) none, EOper.mk (some 8) (EOp.alloc false 43
  [V.int .u32 (0), V.int .i64 (0)]) none, EOper.mk none (EOp.st 2 (Opd.t 8) (Opd.t 12)) none]
def m17_1 : List Bool := [false, false, false, false, false, false, false, false, true, true, true, true, true, false, false, false, false, false]
def b17_2 : EC := EC.ops false [EOper.mk (some 13) (EOp.ld true 2 (Opd.t 8)) none, EOper.mk (some 14) (EOp.mkfn 30 [] [Opd.t 8, Opd.t 3]) none, EOper.mk (some 15)
  (EOp.call (Opd.f 25) [Opd.t 13, Opd.t 14]) none, EOper.mk (some 16) (EOp.ext (Opd.t 15) 0) none, EOper.mk (some 17) (EOp.ext (Opd.t 15) 1) none, EOper.mk (some 6)
  (EOp.mv (Opd.t 16)) none, EOper.mk (some 7) (EOp.mv (Opd.t 17)) none]
def m17_2 : List Bool := [false, false, false, false, false, false, true, true, false, false, false, false, false, true, true, true, true, true]
def b17_3 : EC := EC.ret
def m17_3 : List Bool := [false, false, false, false, false, false, false, false, false, false, false, false, false, false, false, false, false, false]
def r17_3 : EC := b17_3
def r17_2 : EC := EC.seq b17_2 r17_3
def r17_1 : EC := EC.seq b17_1 r17_2
def r17_0 : EC := EC.seq b17_0 r17_1
def e17 : EFun := EFun.mk 18 [ERes.t 6, ERes.t 7] r17_0
theorem c17 : cFun Tryd.prog 2 (fun d => d == 3 || d == 8) Tryd.f17 = some e17 := by kernel_rfl
theorem x17 : Tryd.prog.funcs[17]? = some Tryd.f17 := by kernel_rfl
theorem n17 : (Tryd.f17.name == "runtime.NumGoroutine") = false := by kernel_rfl
/-! 18: word.Low -/
def b18_0 : EC := EC.ops false [EOper.mk (some 4) (EOp.mv (Opd.c (V.int .u32 (0)))) none, EOper.mk (some 5) (EOp.mv (Opd.c (V.bool false))) none]
def m18_0 : List Bool := [false, false, false, false, true, true, false, false, false, false, false, false, false, false, false]
def b18_1 : EC := EC.seq (EC.ops false [EOper.mk (some 6) (EOp.mv (Opd.t 1)) none, EOper.mk (some 7) (EOp.call (Opd.f 32) [Opd.t 6]) none, EOper.mk (some 8) (EOp.un .not
  (Opd.t 7)) none]) (EC.cond (Opd.t 8) (EC.seq (EC.ops false [EOper.mk (some 4) (EOp.mv (Opd.c (V.int .u32 (0)))) none, EOper.mk (some 5) (EOp.mv (Opd.c (V.bool false)))
  none]) EC.ret) EC.skip)
def m18_1 : List Bool := [false, false, false, false, true, true, true, true, true, false, false, false, false, false, false]
def b18_2 : EC := EC.ops false [EOper.mk (some 9) (EOp.mv (Opd.t 0)) none, EOper.mk (some 10) (EOp.mv (Opd.t 1)) none, EOper.mk (some 11) (EOp.bin .mul (Opd.c (V.int .i64
  (8))) (Opd.t 10)) none, EOper.mk (some 12) (EOp.bin .shl (Opd.c (V.int .u32 (1))) (Opd.t 11)) none, EOper.mk (some 13) (EOp.bin .sub (Opd.t 12) (Opd.c (V.int .u32 (1))))
  none, EOper.mk (some 14) (EOp.bin .and (Opd.t 9) (Opd.t 13)) none, EOper.mk (some 4) (EOp.mv (Opd.t 14)) none, EOper.mk (some 5) (EOp.mv (Opd.c (V.bool true))) none]
def m18_2 : List Bool := [false, false, false, false, true, true, false, false, false, true, true, true, true, true, true]
def b18_3 : EC := EC.ret
def m18_3 : List Bool := [false, false, false, false, false, false, false, false, false, false, false, false, false, false, false]
def r18_3 : EC := b18_3
def r18_2 : EC := EC.seq b18_2 r18_3
def r18_1 : EC := EC.seq b18_1 r18_2
def r18_0 : EC := EC.seq b18_0 r18_1
def e18 : EFun := EFun.mk 15 [ERes.t 4, ERes.t 5] r18_0
theorem c18 : cFun Tryd.prog 2 (fun _ => false) Tryd.f18 = some e18 := by kernel_rfl
theorem x18 : Tryd.prog.funcs[18]? = some Tryd.f18 := by kernel_rfl
theorem n18 : (Tryd.f18.name == "runtime.NumGoroutine") = false := by kernel_rfl
/-! 20: word.Ones -/
def b20_0 : EC := EC.ops false [EOper.mk (some 2) (EOp.mv (Opd.c (V.sl none 0 0))) none]
def m20_0 : List Bool := [false, false, true, false, false, false]
def b20_1 : EC := EC.ops false [EOper.mk (some 3) (EOp.mv (Opd.t 0)) none, EOper.mk (some 4) (EOp.call (Opd.f 33) [Opd.t 3]) none, EOper.mk (some 5) (EOp.call (Opd.f 34)
  [Opd.t 4]) none, EOper.mk (some 2) (EOp.mv (Opd.t 5)) none]
def m20_1 : List Bool := [false, false, true, true, true, true]
def b20_2 : EC := EC.ret
def m20_2 : List Bool := [false, false, false, false, false, false]
def r20_2 : EC := b20_2
def r20_1 : EC := EC.seq b20_1 r20_2
def r20_0 : EC := EC.seq b20_0 r20_1
def e20 : EFun := EFun.mk 6 [ERes.t 2] r20_0
theorem c20 : cFun Tryd.prog 2 (fun _ => false) Tryd.f20 = some e20 := by kernel_rfl
theorem x20 : Tryd.prog.funcs[20]? = some Tryd.f20 := by kernel_rfl
theorem n20 : (Tryd.f20.name == "runtime.NumGoroutine") = false := by kernel_rfl
/-! 21: septumref03.Mask -/
def l21_0p0 : EC := EC.seq (EC.ops false [EOper.mk (some 12) (EOp.mv (Opd.t 7)) none, EOper.mk (some 13) (EOp.mv (Opd.t 1)) none, EOper.mk (some 14) (EOp.bin .lss (Opd.t
  12) (Opd.t 13)) none]) (EC.cond (Opd.t 14) EC.skip (EC.exit 0))
def l21_0m0 : List Bool := [false, false, false, false, false, false, false, false, false, false, false, false, true, true, true, false, false, false, false, false, false, false, false, false, false, false]
def l21_0p1 : EC := EC.block 1 (EC.ops false [EOper.mk (some 17) (EOp.mv (Opd.t 6)) none, EOper.mk (some 18) (EOp.mv (Opd.t 0)) none, EOper.mk (some 19) (EOp.conv .i64
  (Opd.t 18)) none, EOper.mk (some 20) (EOp.mv (Opd.t 7)) none, EOper.mk (some 21) (EOp.bin .add (Opd.t 19) (Opd.t 20)) none, EOper.mk (some 22) (EOp.bin .rem (Opd.t 21)
  (Opd.c (V.int .i64 (4)))) none, EOper.mk (some 23) (EOp.bin .shl (Opd.c (V.int .u32 (1))) (Opd.t 22)) none, EOper.mk (some 24) (EOp.bin .add (Opd.t 17) (Opd.t 23)) none,
  EOper.mk (some 6) (EOp.mv (Opd.t 24)) none])
def l21_0m1 : List Bool := [false, false, false, false, false, false, true, false, false, false, false, false, false, false, false, false, false, true, true, true, true, true, true, true, true, false]
def l21_0p2 : EC := EC.ops false [EOper.mk (some 15) (EOp.mv (Opd.t 7)) none, EOper.mk (some 16) (EOp.bin .add (Opd.t 15) (Opd.c (V.int .i64 (1)))) none, EOper.mk (some 7)
  (EOp.mv (Opd.t 16)) none]
def l21_0m2 : List Bool := [false, false, false, false, false, false, false, true, false, false, false, false, false, false, false, true, true, false, false, false, false, false, false, false, false, false]
def l21_0r2 : EC := l21_0p2
def l21_0r1 : EC := EC.seq l21_0p1 l21_0r2
def l21_0r0 : EC := EC.seq l21_0p0 l21_0r1
def l21_0 : EC := l21_0r0
def b21_0 : EC := EC.ops false [EOper.mk (some 4) (EOp.mv (Opd.c (V.int .u32 (0)))) none, EOper.mk (some 5) (EOp.mv (Opd.c (V.bool false))) none]
def m21_0 : List Bool := [false, false, false, false, true, true, false, false, false, false, false, false, false, false, false, false, false, false, false, false, false, false, false, false, false, false]
def b21_1 : EC := EC.seq (EC.ops false [EOper.mk (some 8) (EOp.mv (Opd.t 0)) none, EOper.mk (some 9) (EOp.mv (Opd.t 1)) none, EOper.mk (some 10) (EOp.call (Opd.f 22)
  [Opd.t 8, Opd.t 9]) none, EOper.mk (some 11) (EOp.un .not (Opd.t 10)) none]) (EC.cond (Opd.t 11) (EC.seq (EC.ops false [EOper.mk (some 4) (EOp.mv (Opd.c (V.int .u32
  (0)))) none, EOper.mk (some 5) (EOp.mv (Opd.c (V.bool false))) none]) EC.ret) EC.skip)
def m21_1 : List Bool := [false, false, false, false, true, true, false, false, true, true, true, true, false, false, false, false, false, false, false, false, false, false, false, false, false, false]
def b21_2 : EC := EC.ops false [EOper.mk (some 6) (EOp.mv (Opd.c (V.int .u32 (0)))) none]
def m21_2 : List Bool := [false, false, false, false, false, false, true, false, false, false, false, false, false, false, false, false, false, false, false, false, false, false, false, false, false, false]
def b21_3 : EC := EC.seq (EC.ops false [EOper.mk (some 7) (EOp.mv (Opd.c (V.int .i64 (0)))) none]) (EC.block 0 (EC.loop l21_0))
def m21_3 : List Bool := [false, false, false, false, false, false, true, true, false, false, false, false, true, true, true, true, true, true, true, true, true, true, true, true, true, false]
def b21_4 : EC := EC.ops false [EOper.mk (some 25) (EOp.mv (Opd.t 6)) none, EOper.mk (some 4) (EOp.mv (Opd.t 25)) none, EOper.mk (some 5) (EOp.mv (Opd.c (V.bool true)))
  none]
def m21_4 : List Bool := [false, false, false, false, true, true, false, false, false, false, false, false, false, false, false, false, false, false, false, false, false, false, false, false, false, true]
def b21_5 : EC := EC.ret
def m21_5 : List Bool := [false, false, false, false, false, false, false, false, false, false, false, false, false, false, false, false, false, false, false, false, false, false, false, false, false, false]
def r21_5 : EC := b21_5
def r21_4 : EC := EC.seq b21_4 r21_5
def r21_3 : EC := EC.seq b21_3 r21_4
def r21_2 : EC := EC.seq b21_2 r21_3
def r21_1 : EC := EC.seq b21_1 r21_2
def r21_0 : EC := EC.seq b21_0 r21_1
def e21 : EFun := EFun.mk 26 [ERes.t 4, ERes.t 5] r21_0
theorem c21 : cFun Tryd.prog 2 (fun _ => false) Tryd.f21 = some e21 := by kernel_rfl
theorem x21 : Tryd.prog.funcs[21]? = some Tryd.f21 := by kernel_rfl
theorem n21 : (Tryd.f21.name == "runtime.NumGoroutine") = false := by kernel_rfl
/-! 22: septumref03.Aligned -/
def b22_0 : EC := EC.ops false [EOper.mk (some 4) (EOp.mv (Opd.c (V.bool false))) none]
def m22_0 : List Bool := [false, false, false, false, true, false, false, false, false, false, false, false, false, false]
def b22_1 : EC := EC.ops false [EOper.mk (some 5) (EOp.mv (Opd.t 1)) none, EOper.mk (some 6) (EOp.call (Opd.f 35) [Opd.t 5]) none, EOper.mk (some 7) (EOp.mv (Opd.t 6))
  none, EOper.mk (some 8) (EOp.mv (Opd.t 0)) (some (7, true)), EOper.mk (some 9) (EOp.conv .i64 (Opd.t 8)) (some (7, true)), EOper.mk (some 10) (EOp.mv (Opd.t 1)) (some
  (7, true)), EOper.mk (some 11) (EOp.bin .rem (Opd.t 9) (Opd.t 10)) (some (7, true)), EOper.mk (some 12) (EOp.bin .eql (Opd.t 11) (Opd.c (V.int .i64 (0)))) (some (7,
  true)), EOper.mk (some 13) (EOp.pick (Opd.t 7) (Opd.t 12) (Opd.c (V.bool false))) none, EOper.mk (some 4) (EOp.mv (Opd.t 13)) none]
def m22_1 : List Bool := [false, false, false, false, true, true, true, true, true, true, true, true, true, true]
def b22_2 : EC := EC.ret
def m22_2 : List Bool := [false, false, false, false, false, false, false, false, false, false, false, false, false, false]
def r22_2 : EC := b22_2
def r22_1 : EC := EC.seq b22_1 r22_2
def r22_0 : EC := EC.seq b22_0 r22_1
def e22 : EFun := EFun.mk 14 [ERes.t 4] r22_0
theorem c22 : cFun Tryd.prog 2 (fun _ => false) Tryd.f22 = some e22 := by kernel_rfl
theorem x22 : Tryd.prog.funcs[22]? = some Tryd.f22 := by kernel_rfl
theorem n22 : (Tryd.f22.name == "runtime.NumGoroutine") = false := by kernel_rfl
/-! 23: septumref03.Take -/
def b23_0 : EC := EC.ops false [EOper.mk (some 6) (EOp.mv (Opd.c (V.int .u32 (0)))) none, EOper.mk (some 7) (EOp.mv (Opd.c (V.bool false))) none]
def m23_0 : List Bool := [false, false, false, false, false, false, true, true, false, false, false, false, false, false, false, false, false, false, false, false, false, false, false, false, false, false, false, false, false, false, false, false]
def b23_1 : EC := EC.seq (EC.ops false [EOper.mk (some 12) (EOp.mv (Opd.t 1)) none, EOper.mk (some 13) (EOp.mv (Opd.t 2)) none, EOper.mk (some 14) (EOp.call (Opd.f 22)
  [Opd.t 12, Opd.t 13]) none, EOper.mk (some 15) (EOp.un .not (Opd.t 14)) none]) (EC.cond (Opd.t 15) (EC.seq (EC.ops false [EOper.mk (some 6) (EOp.mv (Opd.c (V.int .u32
  (0)))) none, EOper.mk (some 7) (EOp.mv (Opd.c (V.bool false))) none]) EC.ret) EC.skip)
def m23_1 : List Bool := [false, false, false, false, false, false, true, true, false, false, false, false, true, true, true, true, false, false, false, false, false, false, false, false, false, false, false, false, false, false, false, false]
def b23_2 : EC := EC.ops false [EOper.mk (some 16) (EOp.mv (Opd.t 0)) none, EOper.mk (some 17) (EOp.call (Opd.f 36) [Opd.t 16, Opd.c (V.int .i64 (4))]) none, EOper.mk
  (some 18) (EOp.mv (Opd.t 1)) none, EOper.mk (some 19) (EOp.conv .i64 (Opd.t 18)) none, EOper.mk (some 20) (EOp.bin .rem (Opd.t 19) (Opd.c (V.int .i64 (4)))) none,
  EOper.mk (some 8) (EOp.mv (Opd.t 17)) none, EOper.mk (some 9) (EOp.mv (Opd.t 20)) none]
def m23_2 : List Bool := [false, false, false, false, false, false, false, false, true, true, false, false, false, false, false, false, true, true, true, true, true, false, false, false, false, false, false, false, false, false, false, false]
def b23_3 : EC := EC.ops false [EOper.mk (some 22) (EOp.mv (Opd.t 8)) none, EOper.mk (some 23) (EOp.mv (Opd.t 9)) none, EOper.mk (some 24) (EOp.mv (Opd.t 9)) none,
  EOper.mk (some 25) (EOp.mv (Opd.t 2)) none, EOper.mk (some 26) (EOp.bin .add (Opd.t 24) (Opd.t 25)) none, EOper.mk (some 27) (EOp.slc 1 (Opd.t 22) (some (Opd.t 23))
  (some (Opd.t 26))) none, EOper.mk (some 28) (EOp.call (Opd.f 37) [Opd.t 27]) none, EOper.mk (some 21) (EOp.mv (Opd.t 28)) none, EOper.mk (some 29) (EOp.ext (Opd.t 21) 0)
  none, EOper.mk (some 30) (EOp.ext (Opd.t 21) 1) none, EOper.mk (some 10) (EOp.mv (Opd.t 29)) none, EOper.mk (some 11) (EOp.mv (Opd.t 30)) none]
def m23_3 : List Bool := [false, false, false, false, false, false, false, false, false, false, true, true, false, false, false, false, false, false, false, false, false, true, true, true, true, true, true, true, true, true, true, false]
def b23_4 : EC := EC.ops false [EOper.mk (some 31) (EOp.mv (Opd.t 10)) none, EOper.mk (some 6) (EOp.mv (Opd.t 31)) none, EOper.mk (some 7) (EOp.mv (Opd.c (V.bool true)))
  none]
def m23_4 : List Bool := [false, false, false, false, false, false, true, true, false, false, false, false, false, false, false, false, false, false, false, false, false, false, false, false, false, false, false, false, false, false, false, true]
def b23_5 : EC := EC.ret
def m23_5 : List Bool := [false, false, false, false, false, false, false, false, false, false, false, false, false, false, false, false, false, false, false, false, false, false, false, false, false, false, false, false, false, false, false, false]
def r23_5 : EC := b23_5
def r23_4 : EC := EC.seq b23_4 r23_5
def r23_3 : EC := EC.seq b23_3 r23_4
def r23_2 : EC := EC.seq b23_2 r23_3
def r23_1 : EC := EC.seq b23_1 r23_2
def r23_0 : EC := EC.seq b23_0 r23_1
def e23 : EFun := EFun.mk 32 [ERes.t 6, ERes.t 7] r23_0
theorem c23 : cFun Tryd.prog 2 (fun _ => false) Tryd.f23 = some e23 := by kernel_rfl
theorem x23 : Tryd.prog.funcs[23]? = some Tryd.f23 := by kernel_rfl
theorem n23 : (Tryd.f23.name == "runtime.NumGoroutine") = false := by kernel_rfl
/-! 24: septumref03.Put -/
def l24_0p0 : EC := EC.seq (EC.ops false [EOper.mk (some 28) (EOp.mv (Opd.t 13)) none, EOper.mk (some 29) (EOp.mv (Opd.t 2)) none, EOper.mk (some 30) (EOp.bin .lss (Opd.t
  28) (Opd.t 29)) none]) (EC.cond (Opd.t 30) EC.skip (EC.exit 0))
def l24_0m0 : List Bool := [false, false, false, false, false, false, false, false, false, false, false, false, false, false, false, false, false, false, false, false, false, false, false, false, false, false, false, false, true, true, true, false, false, false, false, false, false, false, false, false, false, false, false, false, false, false, false, false]
def l24_0p1 : EC := EC.block 1 (EC.ops false [EOper.mk (some 33) (EOp.mv (Opd.t 10)) none, EOper.mk (some 34) (EOp.mv (Opd.t 12)) none, EOper.mk (some 35) (EOp.mv (Opd.t
  13)) none, EOper.mk (some 36) (EOp.bin .add (Opd.t 34) (Opd.t 35)) none, EOper.mk (some 37) (EOp.mv (Opd.t 11)) none, EOper.mk (some 38) (EOp.mv (Opd.t 13)) none,
  EOper.mk (some 39) (EOp.ixs 1 (Opd.t 37) (Opd.t 38)) none, EOper.mk (some 40) (EOp.ld false 1 (Opd.t 39)) none, EOper.mk (some 41) (EOp.ixs 1 (Opd.t 33) (Opd.t 36))
  none, EOper.mk none (EOp.st 1 (Opd.t 41) (Opd.t 40)) none])
def l24_0m1 : List Bool := [false, false, false, false, false, false, false, false, false, false, false, false, false, false, false, false, false, false, false, false, false, false, false, false, false, false, false, false, false, false, false, false, false, true, true, true, true, true, true, true, true, true, false, false, false, false, false, false]
def l24_0p2 : EC := EC.ops false [EOper.mk (some 31) (EOp.mv (Opd.t 13)) none, EOper.mk (some 32) (EOp.bin .add (Opd.t 31) (Opd.c (V.int .i64 (1)))) none, EOper.mk (some
  13) (EOp.mv (Opd.t 32)) none]
def l24_0m2 : List Bool := [false, false, false, false, false, false, false, false, false, false, false, false, false, true, false, false, false, false, false, false, false, false, false, false, false, false, false, false, false, false, false, true, true, false, false, false, false, false, false, false, false, false, false, false, false, false, false, false]
def l24_0r2 : EC := l24_0p2
def l24_0r1 : EC := EC.seq l24_0p1 l24_0r2
def l24_0r0 : EC := EC.seq l24_0p0 l24_0r1
def l24_0 : EC := l24_0r0
def b24_0 : EC := EC.ops false [EOper.mk (some 8) (EOp.mv (Opd.c (V.int .u32 (0)))) none, EOper.mk (some 9) (EOp.mv (Opd.c (V.bool false))) none]
def m24_0 : List Bool := [false, false, false, false, false, false, false, false, true, true, false, false, false, false, false, false, false, false, false, false, false, false, false, false, false, false, false, false, false, false, false, false, false, false, false, false, false, false, false, false, false, false, false, false, false, false, false, false]
def b24_1 : EC := EC.seq (EC.ops false [EOper.mk (some 16) (EOp.mv (Opd.t 1)) none, EOper.mk (some 17) (EOp.mv (Opd.t 2)) none, EOper.mk (some 18) (EOp.call (Opd.f 22)
  [Opd.t 16, Opd.t 17]) none, EOper.mk (some 19) (EOp.un .not (Opd.t 18)) none]) (EC.cond (Opd.t 19) (EC.seq (EC.ops false [EOper.mk (some 8) (EOp.mv (Opd.c (V.int .u32
  (0)))) none, EOper.mk (some 9) (EOp.mv (Opd.c (V.bool false))) none]) EC.ret) EC.skip)
def m24_1 : List Bool := [false, false, false, false, false, false, false, false, true, true, false, false, false, false, false, false, true, true, true, true, false, false, false, false, false, false, false, false, false, false, false, false, false, false, false, false, false, false, false, false, false, false, false, false, false, false, false, false]
def b24_2 : EC := EC.ops false [EOper.mk (some 20) (EOp.mv (Opd.t 0)) none, EOper.mk (some 21) (EOp.call (Opd.f 36) [Opd.t 20, Opd.c (V.int .i64 (4))]) none, EOper.mk
  (some 22) (EOp.mv (Opd.t 3)) none, EOper.mk (some 23) (EOp.mv (Opd.t 2)) none, EOper.mk (some 24) (EOp.call (Opd.f 36) [Opd.t 22, Opd.t 23]) none, EOper.mk (some 25)
  (EOp.mv (Opd.t 1)) none, EOper.mk (some 26) (EOp.conv .i64 (Opd.t 25)) none, EOper.mk (some 27) (EOp.bin .rem (Opd.t 26) (Opd.c (V.int .i64 (4)))) none, EOper.mk (some
  10) (EOp.mv (Opd.t 21)) none, EOper.mk (some 11) (EOp.mv (Opd.t 24)) none, EOper.mk (some 12) (EOp.mv (Opd.t 27)) none]
def m24_2 : List Bool := [false, false, false, false, false, false, false, false, false, false, true, true, true, false, false, false, false, false, false, false, true, true, true, true, true, true, true, true, false, false, false, false, false, false, false, false, false, false, false, false, false, false, false, false, false, false, false, false]
def b24_3 : EC := EC.seq (EC.ops false [EOper.mk (some 13) (EOp.mv (Opd.c (V.int .i64 (0)))) none]) (EC.block 0 (EC.loop l24_0))
def m24_3 : List Bool := [false, false, false, false, false, false, false, false, false, false, false, false, false, true, false, false, false, false, false, false, false, false, false, false, false, false, false, false, true, true, true, true, true, true, true, true, true, true, true, true, true, true, false, false, false, false, false, false]
def b24_4 : EC := EC.ops false [EOper.mk (some 43) (EOp.mv (Opd.t 10)) none, EOper.mk (some 44) (EOp.call (Opd.f 37) [Opd.t 43]) none, EOper.mk (some 42) (EOp.mv (Opd.t
  44)) none, EOper.mk (some 45) (EOp.ext (Opd.t 42) 0) none, EOper.mk (some 46) (EOp.ext (Opd.t 42) 1) none, EOper.mk (some 14) (EOp.mv (Opd.t 45)) none, EOper.mk (some
  15) (EOp.mv (Opd.t 46)) none]
def m24_4 : List Bool := [false, false, false, false, false, false, false, false, false, false, false, false, false, false, true, true, false, false, false, false, false, false, false, false, false, false, false, false, false, false, false, false, false, false, false, false, false, false, false, false, false, false, true, true, true, true, true, false]
def b24_5 : EC := EC.ops false [EOper.mk (some 47) (EOp.mv (Opd.t 14)) none, EOper.mk (some 8) (EOp.mv (Opd.t 47)) none, EOper.mk (some 9) (EOp.mv (Opd.c (V.bool true)))
  none]
def m24_5 : List Bool := [false, false, false, false, false, false, false, false, true, true, false, false, false, false, false, false, false, false, false, false, false, false, false, false, false, false, false, false, false, false, false, false, false, false, false, false, false, false, false, false, false, false, false, false, false, false, false, true]
def b24_6 : EC := EC.ret
def m24_6 : List Bool := [false, false, false, false, false, false, false, false, false, false, false, false, false, false, false, false, false, false, false, false, false, false, false, false, false, false, false, false, false, false, false, false, false, false, false, false, false, false, false, false, false, false, false, false, false, false, false, false]
def r24_6 : EC := b24_6
def r24_5 : EC := EC.seq b24_5 r24_6
def r24_4 : EC := EC.seq b24_4 r24_5
def r24_3 : EC := EC.seq b24_3 r24_4
def r24_2 : EC := EC.seq b24_2 r24_3
def r24_1 : EC := EC.seq b24_1 r24_2
def r24_0 : EC := EC.seq b24_0 r24_1
def e24 : EFun := EFun.mk 48 [ERes.t 8, ERes.t 9] r24_0
theorem c24 : cFun Tryd.prog 2 (fun _ => false) Tryd.f24 = some e24 := by kernel_rfl
theorem x24 : Tryd.prog.funcs[24]? = some Tryd.f24 := by kernel_rfl
theorem n24 : (Tryd.f24.name == "runtime.NumGoroutine") = false := by kernel_rfl
/-! 25: lane.place.told -/
def b25_0 : EC := EC.ops false [EOper.mk (some 2) (EOp.box true 43 (Opd.t 0)) none, EOper.mk (some 4) (EOp.mv (Opd.c (V.int .u32 (0)))) none, EOper.mk (some 5) (EOp.mv
  (Opd.c (V.bool false))) none]
def m25_0 : List Bool := [false, false, true, false, true, true, false, false, false, false, false]
def b25_1 : EC := EC.seq (EC.ops false [EOper.mk (some 6) (EOp.ld true 2 (Opd.t 2)) none, EOper.mk (some 7) (EOp.call (Opd.f 29) [Opd.t 6]) none, EOper.mk (some 8) (EOp.un
  .not (Opd.t 7)) none]) (EC.cond (Opd.t 8) (EC.seq (EC.ops false [EOper.mk (some 4) (EOp.mv (Opd.c (V.int .u32 (0)))) none, EOper.mk (some 5) (EOp.mv (Opd.c (V.bool
  false))) none]) EC.ret) EC.skip)
def m25_1 : List Bool := [false, false, false, false, true, true, true, true, true, false, false]
def b25_2 : EC := EC.ops false [EOper.mk (some 9) (EOp.mv (Opd.t 1)) none, EOper.mk (some 10) (EOp.call (Opd.t 9) []) none, EOper.mk (some 4) (EOp.mv (Opd.t 10)) none,
  EOper.mk (some 5) (EOp.mv (Opd.c (V.bool true))) none]
def m25_2 : List Bool := [false, false, false, false, true, true, false, false, false, true, true]
def b25_3 : EC := EC.ret
def m25_3 : List Bool := [false, false, false, false, false, false, false, false, false, false, false]
def r25_3 : EC := b25_3
def r25_2 : EC := EC.seq b25_2 r25_3
def r25_1 : EC := EC.seq b25_1 r25_2
def r25_0 : EC := EC.seq b25_0 r25_1
def e25 : EFun := EFun.mk 11 [ERes.t 4, ERes.t 5] r25_0
theorem c25 : cFun Tryd.prog 2 (fun _ => false) Tryd.f25 = some e25 := by kernel_rfl
theorem x25 : Tryd.prog.funcs[25]? = some Tryd.f25 := by kernel_rfl
theorem n25 : (Tryd.f25.name == "runtime.NumGoroutine") = false := by kernel_rfl
/-! 26: lane.Put$1 -/
def b26_0 : EC := EC.ops false [EOper.mk (some 3) (EOp.mv (Opd.c (V.int .u32 (0)))) none]
def m26_0 : List Bool := [false, false, false, true, false, false, false, false]
def b26_1 : EC := EC.ops false [EOper.mk (some 4) (EOp.ld true 2 (Opd.t 0)) none, EOper.mk (some 5) (EOp.ld false 1 (Opd.t 1)) none, EOper.mk (some 6) (EOp.ld false 1
  (Opd.t 2)) none, EOper.mk (some 7) (EOp.call (Opd.f 27) [Opd.t 4, Opd.t 5, Opd.t 6]) none, EOper.mk (some 3) (EOp.mv (Opd.t 7)) none]
def m26_1 : List Bool := [false, false, false, true, true, true, true, true]
def b26_2 : EC := EC.ret
def m26_2 : List Bool := [false, false, false, false, false, false, false, false]
def r26_2 : EC := b26_2
def r26_1 : EC := EC.seq b26_1 r26_2
def r26_0 : EC := EC.seq b26_0 r26_1
def e26 : EFun := EFun.mk 8 [ERes.t 3] r26_0
theorem c26 : cFun Tryd.prog 2 (fun _ => false) Tryd.f26 = some e26 := by kernel_rfl
theorem x26 : Tryd.prog.funcs[26]? = some Tryd.f26 := by kernel_rfl
theorem n26 : (Tryd.f26.name == "runtime.NumGoroutine") = false := by kernel_rfl
/-! 27: lane.place.put -/
def b27_0 : EC := EC.ops false [EOper.mk (some 3) (EOp.box true 43 (Opd.t 0)) none, EOper.mk (some 6) (EOp.mv (Opd.c (V.int .u32 (0)))) none]
def m27_0 : List Bool := [false, false, false, true, false, false, true, false, false, false, false, false, false, false, false, false, false, false, false, false, false, false]
def b27_1 : EC := EC.ops false [EOper.mk (some 8) (EOp.ld true 2 (Opd.t 3)) none, EOper.mk (some 9) (EOp.call (Opd.f 28) [Opd.t 8]) none, EOper.mk (some 10) (EOp.call
  (Opd.f 10) [Opd.t 9]) none, EOper.mk (some 7) (EOp.mv (Opd.t 10)) none]
def m27_1 : List Bool := [false, false, false, false, false, false, false, true, true, true, true, false, false, false, false, false, false, false, false, false, false, false]
def b27_2 : EC := EC.ops false [EOper.mk (some 11) (EOp.mv (Opd.t 1)) none, EOper.mk (some 12) (EOp.mv (Opd.t 7)) none, EOper.mk (some 13) (EOp.bin .andNot (Opd.t 11)
  (Opd.t 12)) none, EOper.mk (some 14) (EOp.mv (Opd.t 2)) none, EOper.mk (some 15) (EOp.fa 0 (Opd.t 3)) none, EOper.mk (some 16) (EOp.ld true 1 (Opd.t 15)) none, EOper.mk
  (some 17) (EOp.call (Opd.f 38) [Opd.t 16]) none, EOper.mk (some 18) (EOp.bin .shl (Opd.t 14) (Opd.t 17)) none, EOper.mk (some 19) (EOp.mv (Opd.t 7)) none, EOper.mk (some
  20) (EOp.bin .and (Opd.t 18) (Opd.t 19)) none, EOper.mk (some 21) (EOp.bin .or (Opd.t 13) (Opd.t 20)) none, EOper.mk (some 6) (EOp.mv (Opd.t 21)) none]
def m27_2 : List Bool := [false, false, false, false, false, false, true, false, false, false, false, true, true, true, true, true, true, true, true, true, true, true]
def b27_3 : EC := EC.ret
def m27_3 : List Bool := [false, false, false, false, false, false, false, false, false, false, false, false, false, false, false, false, false, false, false, false, false, false]
def r27_3 : EC := b27_3
def r27_2 : EC := EC.seq b27_2 r27_3
def r27_1 : EC := EC.seq b27_1 r27_2
def r27_0 : EC := EC.seq b27_0 r27_1
def e27 : EFun := EFun.mk 22 [ERes.t 6] r27_0
theorem c27 : cFun Tryd.prog 2 (fun _ => false) Tryd.f27 = some e27 := by kernel_rfl
theorem x27 : Tryd.prog.funcs[27]? = some Tryd.f27 := by kernel_rfl
theorem n27 : (Tryd.f27.name == "runtime.NumGoroutine") = false := by kernel_rfl
/-! 28: lane.place.mask -/
def b28_0 : EC := EC.ops false [EOper.mk (some 1) (EOp.box true 43 (Opd.t 0)) none, EOper.mk (some 2) (EOp.mv (Opd.c (V.int .u32 (0)))) none]
def m28_0 : List Bool := [false, true, true, false, false, false, false, false, false, false, false]
def b28_1 : EC := EC.ops true [EOper.mk (some 3) (EOp.fa 1 (Opd.t 1)) none, EOper.mk (some 4) (EOp.ld false 1 (Opd.t 3)) none, EOper.mk (some 5) (EOp.bin .shl (Opd.c
  (V.int .u32 (1))) (Opd.t 4)) none, EOper.mk (some 6) (EOp.bin .sub (Opd.t 5) (Opd.c (V.int .u32 (1)))) none, EOper.mk (some 7) (EOp.fa 0 (Opd.t 1)) none, EOper.mk (some
  8) (EOp.ld true 1 (Opd.t 7)) none, EOper.mk (some 9) (EOp.call (Opd.f 39) [Opd.t 8]) none, EOper.mk (some 10) (EOp.bin .shl (Opd.t 6) (Opd.t 9)) none, EOper.mk (some 2)
  (EOp.mv (Opd.t 10)) none]
def m28_1 : List Bool := [false, false, true, true, true, true, true, true, true, true, true]
def b28_2 : EC := EC.ret
def m28_2 : List Bool := [false, false, false, false, false, false, false, false, false, false, false]
def r28_2 : EC := b28_2
def r28_1 : EC := EC.seq b28_1 r28_2
def r28_0 : EC := EC.seq b28_0 r28_1
def e28 : EFun := EFun.mk 11 [ERes.t 2] r28_0
theorem c28 : cFun Tryd.prog 2 (fun _ => false) Tryd.f28 = some e28 := by kernel_rfl
theorem x28 : Tryd.prog.funcs[28]? = some Tryd.f28 := by kernel_rfl
theorem n28 : (Tryd.f28.name == "runtime.NumGoroutine") = false := by kernel_rfl
/-! 29: lane.place.right -/
def b29_0 : EC := EC.ops false [EOper.mk (some 1) (EOp.box true 43 (Opd.t 0)) none, EOper.mk (some 2) (EOp.mv (Opd.c (V.bool false))) none]
def m29_0 : List Bool := [false, true, true, false, false, false, false, false, false, false, false, false, false, false, false, false]
def b29_1 : EC := EC.ops false [EOper.mk (some 3) (EOp.fa 1 (Opd.t 1)) none, EOper.mk (some 4) (EOp.ld false 1 (Opd.t 3)) none, EOper.mk (some 5) (EOp.call (Opd.f 32)
  [Opd.t 4]) none, EOper.mk (some 6) (EOp.mv (Opd.t 5)) none, EOper.mk (some 7) (EOp.fa 0 (Opd.t 1)) (some (6, true)), EOper.mk (some 8) (EOp.fa 0 (Opd.t 7)) (some (6,
  true)), EOper.mk (some 9) (EOp.ld false 1 (Opd.t 8)) (some (6, true)), EOper.mk (some 10) (EOp.conv .i64 (Opd.t 9)) (some (6, true)), EOper.mk (some 11) (EOp.fa 1 (Opd.t
  1)) (some (6, true)), EOper.mk (some 12) (EOp.ld false 1 (Opd.t 11)) (some (6, true)), EOper.mk (some 13) (EOp.bin .rem (Opd.t 10) (Opd.t 12)) (some (6, true)), EOper.mk
  (some 14) (EOp.bin .eql (Opd.t 13) (Opd.c (V.int .i64 (0)))) (some (6, true)), EOper.mk (some 15) (EOp.pick (Opd.t 6) (Opd.t 14) (Opd.c (V.bool false))) none, EOper.mk
  (some 2) (EOp.mv (Opd.t 15)) none]
def m29_1 : List Bool := [false, false, true, true, true, true, true, true, true, true, true, true, true, true, true, true]
def b29_2 : EC := EC.ret
def m29_2 : List Bool := [false, false, false, false, false, false, false, false, false, false, false, false, false, false, false, false]
def r29_2 : EC := b29_2
def r29_1 : EC := EC.seq b29_1 r29_2
def r29_0 : EC := EC.seq b29_0 r29_1
def e29 : EFun := EFun.mk 16 [ERes.t 2] r29_0
theorem c29 : cFun Tryd.prog 2 (fun _ => false) Tryd.f29 = some e29 := by kernel_rfl
theorem x29 : Tryd.prog.funcs[29]? = some Tryd.f29 := by kernel_rfl
theorem n29 : (Tryd.f29.name == "runtime.NumGoroutine") = false := by kernel_rfl
/-! 30: lane.Take$1 -/
def b30_0 : EC := EC.ops false [EOper.mk (some 2) (EOp.mv (Opd.c (V.int .u32 (0)))) none]
def m30_0 : List Bool := [false, false, true, false, false, false]
def b30_1 : EC := EC.ops false [EOper.mk (some 3) (EOp.ld true 2 (Opd.t 0)) none, EOper.mk (some 4) (EOp.ld false 1 (Opd.t 1)) none, EOper.mk (some 5) (EOp.call (Opd.f 31)
  [Opd.t 3, Opd.t 4]) none, EOper.mk (some 2) (EOp.mv (Opd.t 5)) none]
def m30_1 : List Bool := [false, false, true, true, true, true]
def b30_2 : EC := EC.ret
def m30_2 : List Bool := [false, false, false, false, false, false]
def r30_2 : EC := b30_2
def r30_1 : EC := EC.seq b30_1 r30_2
def r30_0 : EC := EC.seq b30_0 r30_1
def e30 : EFun := EFun.mk 6 [ERes.t 2] r30_0
theorem c30 : cFun Tryd.prog 2 (fun _ => false) Tryd.f30 = some e30 := by kernel_rfl
theorem x30 : Tryd.prog.funcs[30]? = some Tryd.f30 := by kernel_rfl
theorem n30 : (Tryd.f30.name == "runtime.NumGoroutine") = false := by kernel_rfl
/-! 31: lane.place.take -/
def b31_0 : EC := EC.ops false [EOper.mk (some 2) (EOp.box true 43 (Opd.t 0)) none, EOper.mk (some 4) (EOp.mv (Opd.c (V.int .u32 (0)))) none]
def m31_0 : List Bool := [false, false, true, false, true, false, false, false, false, false, false, false, false, false]
def b31_1 : EC := EC.ops true [EOper.mk (some 5) (EOp.mv (Opd.t 1)) none, EOper.mk (some 6) (EOp.ld true 2 (Opd.t 2)) none, EOper.mk (some 7) (EOp.call (Opd.f 28) [Opd.t
  6]) none, EOper.mk (some 8) (EOp.call (Opd.f 10) [Opd.t 7]) none, EOper.mk (some 9) (EOp.bin .and (Opd.t 5) (Opd.t 8)) none, EOper.mk (some 10) (EOp.fa 0 (Opd.t 2))
  none, EOper.mk (some 11) (EOp.ld true 1 (Opd.t 10)) none, EOper.mk (some 12) (EOp.call (Opd.f 38) [Opd.t 11]) none, EOper.mk (some 13) (EOp.bin .shr (Opd.t 9) (Opd.t
  12)) none, EOper.mk (some 4) (EOp.mv (Opd.t 13)) none]
def m31_1 : List Bool := [false, false, false, false, true, true, true, true, true, true, true, true, true, true]
def b31_2 : EC := EC.ret
def m31_2 : List Bool := [false, false, false, false, false, false, false, false, false, false, false, false, false, false]
def r31_2 : EC := b31_2
def r31_1 : EC := EC.seq b31_1 r31_2
def r31_0 : EC := EC.seq b31_0 r31_1
def e31 : EFun := EFun.mk 14 [ERes.t 4] r31_0
theorem c31 : cFun Tryd.prog 2 (fun _ => false) Tryd.f31 = some e31 := by kernel_rfl
theorem x31 : Tryd.prog.funcs[31]? = some Tryd.f31 := by kernel_rfl
theorem n31 : (Tryd.f31.name == "runtime.NumGoroutine") = false := by kernel_rfl
/-! 32: word.Size -/
def b32_0 : EC := EC.ops false [EOper.mk (some 2) (EOp.mv (Opd.c (V.bool false))) none]
def m32_0 : List Bool := [false, false, true, false, false, false]
def b32_1 : EC := EC.ops false [EOper.mk (some 3) (EOp.slca 3 1 (Opd.g 1) none none) none, EOper.mk (some 4) (EOp.mv (Opd.t 0)) none, EOper.mk (some 5) (EOp.call (Opd.f
  40) [Opd.t 3, Opd.t 4]) none, EOper.mk (some 2) (EOp.mv (Opd.t 5)) none]
def m32_1 : List Bool := [false, false, true, true, true, true]
def b32_2 : EC := EC.ret
def m32_2 : List Bool := [false, false, false, false, false, false]
def r32_2 : EC := b32_2
def r32_1 : EC := EC.seq b32_1 r32_2
def r32_0 : EC := EC.seq b32_0 r32_1
def e32 : EFun := EFun.mk 6 [ERes.t 2] r32_0
theorem c32 : cFun Tryd.prog 2 (fun _ => false) Tryd.f32 = some e32 := by kernel_rfl
theorem x32 : Tryd.prog.funcs[32]? = some Tryd.f32 := by kernel_rfl
theorem n32 : (Tryd.f32.name == "runtime.NumGoroutine") = false := by kernel_rfl
/-! 33: word.bits -/
def b33_0 : EC := EC.ops false [EOper.mk (some 1) (EOp.box false 22 (Opd.t 0)) none, EOper.mk (some 2) (EOp.mv (Opd.c V.nilf)) none]
def m33_0 : List Bool := [false, true, true, false]
def b33_1 : EC := EC.ops false [EOper.mk (some 3) (EOp.mkfn 41 [] [Opd.t 1]) none, EOper.mk (some 2) (EOp.mv (Opd.t 3)) none]
def m33_1 : List Bool := [false, false, true, true]
def b33_2 : EC := EC.ret
def m33_2 : List Bool := [false, false, false, false]
def r33_2 : EC := b33_2
def r33_1 : EC := EC.seq b33_1 r33_2
def r33_0 : EC := EC.seq b33_0 r33_1
def e33 : EFun := EFun.mk 4 [ERes.t 2] r33_0
theorem c33 : cFun Tryd.prog 2 (fun d => d == 1) Tryd.f33 = some e33 := by kernel_rfl
theorem x33 : Tryd.prog.funcs[33]? = some Tryd.f33 := by kernel_rfl
theorem n33 : (Tryd.f33.name == "runtime.NumGoroutine") = false := by kernel_rfl
/-! 34: slices.Collect:int -/
def b34_0 : EC := EC.ops false [EOper.mk (some 2) (EOp.mv (Opd.c (V.sl none 0 0))) none]
def m34_0 : List Bool := [false, false, true, false, false]
def b34_1 : EC := EC.ops false [EOper.mk (some 3) (EOp.mv (Opd.t 0)) none, EOper.mk (some 4) (EOp.call (Opd.f 42) [Opd.c (V.sl none 0 0), Opd.t 3]) none, EOper.mk (some 2)
  (EOp.mv (Opd.t 4)) none]
def m34_1 : List Bool := [false, false, true, true, true]
def b34_2 : EC := EC.ret
def m34_2 : List Bool := [false, false, false, false, false]
def r34_2 : EC := b34_2
def r34_1 : EC := EC.seq b34_1 r34_2
def r34_0 : EC := EC.seq b34_0 r34_1
def e34 : EFun := EFun.mk 5 [ERes.t 2] r34_0
theorem c34 : cFun Tryd.prog 2 (fun _ => false) Tryd.f34 = some e34 := by kernel_rfl
theorem x34 : Tryd.prog.funcs[34]? = some Tryd.f34 := by kernel_rfl
theorem n34 : (Tryd.f34.name == "runtime.NumGoroutine") = false := by kernel_rfl
/-! 35: septumref01.Size -/
def b35_0 : EC := EC.ops false [EOper.mk (some 2) (EOp.mv (Opd.c (V.bool false))) none]
def m35_0 : List Bool := [false, false, true, false, false, false, false, false, false, false, false, false, false]
def b35_1 : EC := EC.ops false [EOper.mk (some 3) (EOp.mv (Opd.t 0)) none, EOper.mk (some 4) (EOp.bin .eql (Opd.t 3) (Opd.c (V.int .i64 (1)))) none, EOper.mk (some 5)
  (EOp.mv (Opd.t 4)) none, EOper.mk (some 6) (EOp.mv (Opd.t 0)) (some (5, false)), EOper.mk (some 7) (EOp.bin .eql (Opd.t 6) (Opd.c (V.int .i64 (2)))) (some (5, false)),
  EOper.mk (some 8) (EOp.pick (Opd.t 5) (Opd.c (V.bool true)) (Opd.t 7)) none, EOper.mk (some 9) (EOp.mv (Opd.t 8)) none, EOper.mk (some 10) (EOp.mv (Opd.t 0)) (some (9,
  false)), EOper.mk (some 11) (EOp.bin .eql (Opd.t 10) (Opd.c (V.int .i64 (4)))) (some (9, false)), EOper.mk (some 12) (EOp.pick (Opd.t 9) (Opd.c (V.bool true)) (Opd.t
  11)) none, EOper.mk (some 2) (EOp.mv (Opd.t 12)) none]
def m35_1 : List Bool := [false, false, true, true, true, true, true, true, true, true, true, true, true]
def b35_2 : EC := EC.ret
def m35_2 : List Bool := [false, false, false, false, false, false, false, false, false, false, false, false, false]
def r35_2 : EC := b35_2
def r35_1 : EC := EC.seq b35_1 r35_2
def r35_0 : EC := EC.seq b35_0 r35_1
def e35 : EFun := EFun.mk 13 [ERes.t 2] r35_0
theorem c35 : cFun Tryd.prog 2 (fun _ => false) Tryd.f35 = some e35 := by kernel_rfl
theorem x35 : Tryd.prog.funcs[35]? = some Tryd.f35 := by kernel_rfl
theorem n35 : (Tryd.f35.name == "runtime.NumGoroutine") = false := by kernel_rfl
/-! 36: septumref01.Bytes -/
def l36_0p0 : EC := EC.seq (EC.ops false [EOper.mk (some 7) (EOp.mv (Opd.t 6)) none, EOper.mk (some 8) (EOp.mv (Opd.t 1)) none, EOper.mk (some 9) (EOp.bin .lss (Opd.t 7)
  (Opd.t 8)) none, EOper.mk (some 10) (EOp.mv (Opd.t 9)) none, EOper.mk (some 11) (EOp.mv (Opd.t 1)) (some (10, true)), EOper.mk (some 12) (EOp.call (Opd.f 35) [Opd.t 11])
  (some (10, true)), EOper.mk (some 13) (EOp.pick (Opd.t 10) (Opd.t 12) (Opd.c (V.bool false))) none]) (EC.cond (Opd.t 13) EC.skip (EC.exit 0))
def l36_0m0 : List Bool := [false, false, false, false, false, false, false, true, true, true, true, true, true, true, false, false, false, false, false, false, false, false, false, false, false]
def l36_0p1 : EC := EC.block 1 (EC.seq (EC.ops false [EOper.mk (some 16) (EOp.mv (Opd.t 5)) none, EOper.mk (some 17) (EOp.mv (Opd.t 0)) none, EOper.mk (some 18) (EOp.bin
  .rem (Opd.t 17) (Opd.c (V.int .u32 (256)))) none, EOper.mk (some 19) (EOp.conv .u8 (Opd.t 18)) none, EOper.mk (some 20) (EOp.bslice 5 1 [V.int .u8 (0)] [(0, 1, Opd.t
  19)]) none, EOper.mk (some 21) (EOp.app 5 1 1 [V.int .u8 (0)] (Opd.t 16) (Opd.t 20)) none, EOper.mk (some 5) (EOp.mv (Opd.t 21)) none]) (EC.ops false [EOper.mk (some 22)
  (EOp.mv (Opd.t 0)) none, EOper.mk (some 23) (EOp.bin .quo (Opd.t 22) (Opd.c (V.int .u32 (256)))) none, EOper.mk (some 0) (EOp.mv (Opd.t 23)) none]))
def l36_0m1 : List Bool := [true, false, false, false, false, true, false, false, false, false, false, false, false, false, false, false, true, true, true, true, true, true, true, true, false]
def l36_0p2 : EC := EC.ops false [EOper.mk (some 14) (EOp.mv (Opd.t 6)) none, EOper.mk (some 15) (EOp.bin .add (Opd.t 14) (Opd.c (V.int .i64 (1)))) none, EOper.mk (some 6)
  (EOp.mv (Opd.t 15)) none]
def l36_0m2 : List Bool := [false, false, false, false, false, false, true, false, false, false, false, false, false, false, true, true, false, false, false, false, false, false, false, false, false]
def l36_0r2 : EC := l36_0p2
def l36_0r1 : EC := EC.seq l36_0p1 l36_0r2
def l36_0r0 : EC := EC.seq l36_0p0 l36_0r1
def l36_0 : EC := l36_0r0
def b36_0 : EC := EC.ops false [EOper.mk (some 4) (EOp.mv (Opd.c (V.sl none 0 0))) none]
def m36_0 : List Bool := [false, false, false, false, true, false, false, false, false, false, false, false, false, false, false, false, false, false, false, false, false, false, false, false, false]
def b36_1 : EC := EC.ops false [EOper.mk (some 5) (EOp.mv (Opd.c (V.sl none 0 0))) none]
def m36_1 : List Bool := [false, false, false, false, false, true, false, false, false, false, false, false, false, false, false, false, false, false, false, false, false, false, false, false, false]
def b36_2 : EC := EC.seq (EC.ops false [EOper.mk (some 6) (EOp.mv (Opd.c (V.int .i64 (0)))) none]) (EC.block 0 (EC.loop l36_0))
def m36_2 : List Bool := [true, false, false, false, false, true, true, true, true, true, true, true, true, true, true, true, true, true, true, true, true, true, true, true, false]
def b36_3 : EC := EC.ops false [EOper.mk (some 24) (EOp.mv (Opd.t 5)) none, EOper.mk (some 4) (EOp.mv (Opd.t 24)) none]
def m36_3 : List Bool := [false, false, false, false, true, false, false, false, false, false, false, false, false, false, false, false, false, false, false, false, false, false, false, false, true]
def b36_4 : EC := EC.ret
def m36_4 : List Bool := [false, false, false, false, false, false, false, false, false, false, false, false, false, false, false, false, false, false, false, false, false, false, false, false, false]
def r36_4 : EC := b36_4
def r36_3 : EC := EC.seq b36_3 r36_4
def r36_2 : EC := EC.seq b36_2 r36_3
def r36_1 : EC := EC.seq b36_1 r36_2
def r36_0 : EC := EC.seq b36_0 r36_1
def e36 : EFun := EFun.mk 25 [ERes.t 4] r36_0
theorem c36 : cFun Tryd.prog 2 (fun _ => false) Tryd.f36 = some e36 := by kernel_rfl
theorem x36 : Tryd.prog.funcs[36]? = some Tryd.f36 := by kernel_rfl
theorem n36 : (Tryd.f36.name == "runtime.NumGoroutine") = false := by kernel_rfl
/-! 37: septumref01.Of -/
def l37_0p0 : EC := EC.seq (EC.ops false [EOper.mk (some 13) (EOp.mv (Opd.t 5)) none, EOper.mk (some 14) (EOp.bin .geq (Opd.t 13) (Opd.c (V.int .i64 (0)))) none]) (EC.cond
  (Opd.t 14) EC.skip (EC.exit 0))
def l37_0m0 : List Bool := [false, false, false, false, false, false, false, false, false, false, false, false, false, true, true, false, false, false, false, false, false, false, false, false, false, false]
def l37_0p1 : EC := EC.block 1 (EC.ops false [EOper.mk (some 17) (EOp.mv (Opd.t 4)) none, EOper.mk (some 18) (EOp.bin .mul (Opd.c (V.int .u32 (256))) (Opd.t 17)) none,
  EOper.mk (some 19) (EOp.mv (Opd.t 0)) none, EOper.mk (some 20) (EOp.mv (Opd.t 5)) none, EOper.mk (some 21) (EOp.ixs 1 (Opd.t 19) (Opd.t 20)) none, EOper.mk (some 22)
  (EOp.ld false 1 (Opd.t 21)) none, EOper.mk (some 23) (EOp.conv .u32 (Opd.t 22)) none, EOper.mk (some 24) (EOp.bin .add (Opd.t 18) (Opd.t 23)) none, EOper.mk (some 4)
  (EOp.mv (Opd.t 24)) none])
def l37_0m1 : List Bool := [false, false, false, false, true, false, false, false, false, false, false, false, false, false, false, false, false, true, true, true, true, true, true, true, true, false]
def l37_0p2 : EC := EC.ops false [EOper.mk (some 15) (EOp.mv (Opd.t 5)) none, EOper.mk (some 16) (EOp.bin .sub (Opd.t 15) (Opd.c (V.int .i64 (1)))) none, EOper.mk (some 5)
  (EOp.mv (Opd.t 16)) none]
def l37_0m2 : List Bool := [false, false, false, false, false, true, false, false, false, false, false, false, false, false, false, true, true, false, false, false, false, false, false, false, false, false]
def l37_0r2 : EC := l37_0p2
def l37_0r1 : EC := EC.seq l37_0p1 l37_0r2
def l37_0r0 : EC := EC.seq l37_0p0 l37_0r1
def l37_0 : EC := l37_0r0
def b37_0 : EC := EC.ops false [EOper.mk (some 2) (EOp.mv (Opd.c (V.int .u32 (0)))) none, EOper.mk (some 3) (EOp.mv (Opd.c (V.bool false))) none]
def m37_0 : List Bool := [false, false, true, true, false, false, false, false, false, false, false, false, false, false, false, false, false, false, false, false, false, false, false, false, false, false]
def b37_1 : EC := EC.seq (EC.ops false [EOper.mk (some 6) (EOp.mv (Opd.t 0)) none, EOper.mk (some 7) (EOp.len false (Opd.t 6)) none, EOper.mk (some 8) (EOp.call (Opd.f 35)
  [Opd.t 7]) none, EOper.mk (some 9) (EOp.un .not (Opd.t 8)) none]) (EC.cond (Opd.t 9) (EC.seq (EC.ops false [EOper.mk (some 2) (EOp.mv (Opd.c (V.int .u32 (0)))) none,
  EOper.mk (some 3) (EOp.mv (Opd.c (V.bool false))) none]) EC.ret) EC.skip)
def m37_1 : List Bool := [false, false, true, true, false, false, true, true, true, true, false, false, false, false, false, false, false, false, false, false, false, false, false, false, false, false]
def b37_2 : EC := EC.ops false [EOper.mk (some 4) (EOp.mv (Opd.c (V.int .u32 (0)))) none]
def m37_2 : List Bool := [false, false, false, false, true, false, false, false, false, false, false, false, false, false, false, false, false, false, false, false, false, false, false, false, false, false]
def b37_3 : EC := EC.seq (EC.ops false [EOper.mk (some 10) (EOp.mv (Opd.t 0)) none, EOper.mk (some 11) (EOp.len false (Opd.t 10)) none, EOper.mk (some 12) (EOp.bin .sub
  (Opd.t 11) (Opd.c (V.int .i64 (1)))) none, EOper.mk (some 5) (EOp.mv (Opd.t 12)) none]) (EC.block 0 (EC.loop l37_0))
def m37_3 : List Bool := [false, false, false, false, true, true, false, false, false, false, true, true, true, true, true, true, true, true, true, true, true, true, true, true, true, false]
def b37_4 : EC := EC.ops false [EOper.mk (some 25) (EOp.mv (Opd.t 4)) none, EOper.mk (some 2) (EOp.mv (Opd.t 25)) none, EOper.mk (some 3) (EOp.mv (Opd.c (V.bool true)))
  none]
def m37_4 : List Bool := [false, false, true, true, false, false, false, false, false, false, false, false, false, false, false, false, false, false, false, false, false, false, false, false, false, true]
def b37_5 : EC := EC.ret
def m37_5 : List Bool := [false, false, false, false, false, false, false, false, false, false, false, false, false, false, false, false, false, false, false, false, false, false, false, false, false, false]
def r37_5 : EC := b37_5
def r37_4 : EC := EC.seq b37_4 r37_5
def r37_3 : EC := EC.seq b37_3 r37_4
def r37_2 : EC := EC.seq b37_2 r37_3
def r37_1 : EC := EC.seq b37_1 r37_2
def r37_0 : EC := EC.seq b37_0 r37_1
def e37 : EFun := EFun.mk 26 [ERes.t 2, ERes.t 3] r37_0
theorem c37 : cFun Tryd.prog 2 (fun _ => false) Tryd.f37 = some e37 := by kernel_rfl
theorem x37 : Tryd.prog.funcs[37]? = some Tryd.f37 := by kernel_rfl
theorem n37 : (Tryd.f37.name == "runtime.NumGoroutine") = false := by kernel_rfl
/-! 38: lane.address.shift -/
def b38_0 : EC := EC.ops false [EOper.mk (some 1) (EOp.box true 41 (Opd.t 0)) none, EOper.mk (some 2) (EOp.mv (Opd.c (V.int .i64 (0)))) none]
def m38_0 : List Bool := [false, true, true, false, false, false]
def b38_1 : EC := EC.ops false [EOper.mk (some 3) (EOp.ld true 1 (Opd.t 1)) none, EOper.mk (some 4) (EOp.call (Opd.f 39) [Opd.t 3]) none, EOper.mk (some 5) (EOp.bin .mul
  (Opd.c (V.int .i64 (8))) (Opd.t 4)) none, EOper.mk (some 2) (EOp.mv (Opd.t 5)) none]
def m38_1 : List Bool := [false, false, true, true, true, true]
def b38_2 : EC := EC.ret
def m38_2 : List Bool := [false, false, false, false, false, false]
def r38_2 : EC := b38_2
def r38_1 : EC := EC.seq b38_1 r38_2
def r38_0 : EC := EC.seq b38_0 r38_1
def e38 : EFun := EFun.mk 6 [ERes.t 2] r38_0
theorem c38 : cFun Tryd.prog 2 (fun _ => false) Tryd.f38 = some e38 := by kernel_rfl
theorem x38 : Tryd.prog.funcs[38]? = some Tryd.f38 := by kernel_rfl
theorem n38 : (Tryd.f38.name == "runtime.NumGoroutine") = false := by kernel_rfl
/-! 39: lane.address.lane -/
def b39_0 : EC := EC.ops false [EOper.mk (some 1) (EOp.box true 41 (Opd.t 0)) none, EOper.mk (some 2) (EOp.mv (Opd.c (V.int .i64 (0)))) none]
def m39_0 : List Bool := [false, true, true, false, false, false, false]
def b39_1 : EC := EC.ops false [EOper.mk (some 3) (EOp.fa 0 (Opd.t 1)) none, EOper.mk (some 4) (EOp.ld false 1 (Opd.t 3)) none, EOper.mk (some 5) (EOp.bin .and (Opd.t 4)
  (Opd.c (V.int .u32 (3)))) none, EOper.mk (some 6) (EOp.conv .i64 (Opd.t 5)) none, EOper.mk (some 2) (EOp.mv (Opd.t 6)) none]
def m39_1 : List Bool := [false, false, true, true, true, true, true]
def b39_2 : EC := EC.ret
def m39_2 : List Bool := [false, false, false, false, false, false, false]
def r39_2 : EC := b39_2
def r39_1 : EC := EC.seq b39_1 r39_2
def r39_0 : EC := EC.seq b39_0 r39_1
def e39 : EFun := EFun.mk 7 [ERes.t 2] r39_0
theorem c39 : cFun Tryd.prog 2 (fun _ => false) Tryd.f39 = some e39 := by kernel_rfl
theorem x39 : Tryd.prog.funcs[39]? = some Tryd.f39 := by kernel_rfl
theorem n39 : (Tryd.f39.name == "runtime.NumGoroutine") = false := by kernel_rfl
/-! 40: slices.Contains:int -/
def b40_0 : EC := EC.ops false [EOper.mk (some 4) (EOp.mv (Opd.c (V.bool false))) none]
def m40_0 : List Bool := [false, false, false, false, true, false, false, false, false]
def b40_1 : EC := EC.ops false [EOper.mk (some 5) (EOp.mv (Opd.t 0)) none, EOper.mk (some 6) (EOp.mv (Opd.t 1)) none, EOper.mk (some 7) (EOp.call (Opd.f 43) [Opd.t 5,
  Opd.t 6]) none, EOper.mk (some 8) (EOp.bin .geq (Opd.t 7) (Opd.c (V.int .i64 (0)))) none, EOper.mk (some 4) (EOp.mv (Opd.t 8)) none]
def m40_1 : List Bool := [false, false, false, false, true, true, true, true, true]
def b40_2 : EC := EC.ret
def m40_2 : List Bool := [false, false, false, false, false, false, false, false, false]
def r40_2 : EC := b40_2
def r40_1 : EC := EC.seq b40_1 r40_2
def r40_0 : EC := EC.seq b40_0 r40_1
def e40 : EFun := EFun.mk 9 [ERes.t 4] r40_0
theorem c40 : cFun Tryd.prog 2 (fun _ => false) Tryd.f40 = some e40 := by kernel_rfl
theorem x40 : Tryd.prog.funcs[40]? = some Tryd.f40 := by kernel_rfl
theorem n40 : (Tryd.f40.name == "runtime.NumGoroutine") = false := by kernel_rfl
/-! 41: word.bits$1 -/
def l41_0p0 : EC := EC.ops false [EOper.mk (some 5) (EOp.bin .lss (Opd.t 4) (Opd.c (V.int .i64 (32)))) none]
def l41_0m0 : List Bool := [false, false, false, false, false, true, false, false, false, false, false, false, false, false, false, false, false, false, false]
def l41_0p1 : EC := EC.cond (Opd.t 5) EC.skip (EC.exit 0)
def l41_0m1 : List Bool := [false, false, false, false, false, false, false, false, false, false, false, false, false, false, false, false, false, false, false]
def l41_0p2 : EC := EC.block 1 (EC.seq (EC.ops false [EOper.mk (some 6) (EOp.mv (Opd.t 4)) none, EOper.mk (some 3) (EOp.mv (Opd.t 6)) none]) (EC.seq (EC.ops false
  [EOper.mk (some 7) (EOp.ld false 1 (Opd.t 1)) none, EOper.mk (some 8) (EOp.mv (Opd.t 3)) none, EOper.mk (some 9) (EOp.bin .shr (Opd.t 7) (Opd.t 8)) none, EOper.mk (some
  10) (EOp.bin .and (Opd.t 9) (Opd.c (V.int .u32 (1)))) none, EOper.mk (some 11) (EOp.bin .eql (Opd.t 10) (Opd.c (V.int .u32 (1)))) none, EOper.mk (some 12) (EOp.mv (Opd.t
  11)) none, EOper.mk (some 13) (EOp.mv (Opd.t 0)) (some (12, true)), EOper.mk (some 14) (EOp.mv (Opd.t 3)) (some (12, true)), EOper.mk (some 15) (EOp.call (Opd.t 13)
  [Opd.t 14]) (some (12, true)), EOper.mk (some 16) (EOp.un .not (Opd.t 15)) (some (12, true)), EOper.mk (some 17) (EOp.pick (Opd.t 12) (Opd.t 16) (Opd.c (V.bool false)))
  none]) (EC.cond (Opd.t 17) EC.ret EC.skip)))
def l41_0m2 : List Bool := [false, false, false, true, false, false, true, true, true, true, true, true, true, true, true, true, true, true, false]
def l41_0p3 : EC := EC.ops false [EOper.mk (some 18) (EOp.bin .add (Opd.t 4) (Opd.c (V.int .i64 (1)))) none, EOper.mk (some 4) (EOp.mv (Opd.t 18)) none]
def l41_0m3 : List Bool := [false, false, false, false, true, false, false, false, false, false, false, false, false, false, false, false, false, false, true]
def l41_0r3 : EC := l41_0p3
def l41_0r2 : EC := EC.seq l41_0p2 l41_0r3
def l41_0r1 : EC := EC.seq l41_0p1 l41_0r2
def l41_0r0 : EC := EC.seq l41_0p0 l41_0r1
def l41_0 : EC := l41_0r0
def b41_0 : EC := EC.ops false [EOper.mk (some 4) (EOp.mv (Opd.c (V.int .i64 (0)))) none]
def m41_0 : List Bool := [false, false, false, false, true, false, false, false, false, false, false, false, false, false, false, false, false, false, false]
def b41_1 : EC := EC.block 0 (EC.loop l41_0)
def m41_1 : List Bool := [false, false, false, true, true, true, true, true, true, true, true, true, true, true, true, true, true, true, true]
def r41_1 : EC := b41_1
def r41_0 : EC := EC.seq b41_0 r41_1
def e41 : EFun := EFun.mk 19 [] r41_0
theorem c41 : cFun Tryd.prog 2 (fun _ => false) Tryd.f41 = some e41 := by kernel_rfl
theorem x41 : Tryd.prog.funcs[41]? = some Tryd.f41 := by kernel_rfl
theorem n41 : (Tryd.f41.name == "runtime.NumGoroutine") = false := by kernel_rfl
/-! 43: slices.Index:int -/
def l43_0p0 : EC := EC.ops false [EOper.mk (some 9) (EOp.bin .lss (Opd.t 8) (Opd.t 7)) none]
def l43_0m0 : List Bool := [false, false, false, false, false, false, false, false, false, true, false, false, false, false, false, false, false, false, false]
def l43_0p1 : EC := EC.cond (Opd.t 9) EC.skip (EC.exit 0)
def l43_0m1 : List Bool := [false, false, false, false, false, false, false, false, false, false, false, false, false, false, false, false, false, false, false]
def l43_0p2 : EC := EC.block 1 (EC.seq (EC.ops false [EOper.mk (some 10) (EOp.mv (Opd.t 8)) none, EOper.mk (some 5) (EOp.mv (Opd.t 10)) none]) (EC.seq (EC.ops false
  [EOper.mk (some 11) (EOp.mv (Opd.t 1)) none, EOper.mk (some 12) (EOp.mv (Opd.t 0)) none, EOper.mk (some 13) (EOp.mv (Opd.t 5)) none, EOper.mk (some 14) (EOp.ixs 1 (Opd.t
  12) (Opd.t 13)) none, EOper.mk (some 15) (EOp.ld false 1 (Opd.t 14)) none, EOper.mk (some 16) (EOp.bin .eql (Opd.t 11) (Opd.t 15)) none]) (EC.cond (Opd.t 16) (EC.seq
  (EC.ops false [EOper.mk (some 17) (EOp.mv (Opd.t 5)) none, EOper.mk (some 4) (EOp.mv (Opd.t 17)) none]) EC.ret) EC.skip)))
def l43_0m2 : List Bool := [false, false, false, false, true, true, false, false, false, false, true, true, true, true, true, true, true, true, false]
def l43_0p3 : EC := EC.ops false [EOper.mk (some 18) (EOp.bin .add (Opd.t 8) (Opd.c (V.int .i64 (1)))) none, EOper.mk (some 8) (EOp.mv (Opd.t 18)) none]
def l43_0m3 : List Bool := [false, false, false, false, false, false, false, false, true, false, false, false, false, false, false, false, false, false, true]
def l43_0r3 : EC := l43_0p3
def l43_0r2 : EC := EC.seq l43_0p2 l43_0r3
def l43_0r1 : EC := EC.seq l43_0p1 l43_0r2
def l43_0r0 : EC := EC.seq l43_0p0 l43_0r1
def l43_0 : EC := l43_0r0
def b43_0 : EC := EC.ops false [EOper.mk (some 4) (EOp.mv (Opd.c (V.int .i64 (0)))) none]
def m43_0 : List Bool := [false, false, false, false, true, false, false, false, false, false, false, false, false, false, false, false, false, false, false]
def b43_1 : EC := EC.seq (EC.ops false [EOper.mk (some 6) (EOp.mv (Opd.t 0)) none, EOper.mk (some 7) (EOp.len false (Opd.t 6)) none, EOper.mk (some 8) (EOp.mv (Opd.c
  (V.int .i64 (0)))) none]) (EC.block 0 (EC.loop l43_0))
def m43_1 : List Bool := [false, false, false, false, true, true, true, true, true, true, true, true, true, true, true, true, true, true, true]
def b43_2 : EC := EC.ops false [EOper.mk (some 4) (EOp.mv (Opd.c (V.int .i64 (-1)))) none]
def m43_2 : List Bool := [false, false, false, false, true, false, false, false, false, false, false, false, false, false, false, false, false, false, false]
def b43_3 : EC := EC.ret
def m43_3 : List Bool := [false, false, false, false, false, false, false, false, false, false, false, false, false, false, false, false, false, false, false]
def r43_3 : EC := b43_3
def r43_2 : EC := EC.seq b43_2 r43_3
def r43_1 : EC := EC.seq b43_1 r43_2
def r43_0 : EC := EC.seq b43_0 r43_1
def e43 : EFun := EFun.mk 19 [ERes.t 4] r43_0
theorem c43 : cFun Tryd.prog 2 (fun _ => false) Tryd.f43 = some e43 := by kernel_rfl
theorem x43 : Tryd.prog.funcs[43]? = some Tryd.f43 := by kernel_rfl
theorem n43 : (Tryd.f43.name == "runtime.NumGoroutine") = false := by kernel_rfl
end Go.Ev
