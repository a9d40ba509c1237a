/- dev: forms (printed by forms.py) -/
import Derived.Test.YtidpndncnhdkiaaDoorChecked
import Derived.Test.YtidpndncnhdkiaaDoorEvV
set_option linter.all false
namespace Go.Ev
open Go Go.Proofs
set_option maxRecDepth 1000000
/-! 3: septumlaw06.RegionAsks -/
def b3_0 : EC := EC.ops false [EOper.mk (some 3) (EOp.box true 26 (Opd.t 0)) none, EOper.mk (some 4) (EOp.box true 28 (Opd.t 1)) none, EOper.mk (some 5) (EOp.box true 26
  (Opd.t 2)) none, EOper.mk (some 6) (EOp.mv (Opd.c (V.bool false))) none]
def m3_0 : List Bool := [false, false, false, true, true, true, true, false, false, false, false, false, false, false, false, false, false, false, false, false]
def b3_1 : EC := EC.ops false [EOper.mk (some 7) (EOp.ld true 8 (Opd.t 3)) none, EOper.mk (some 8) (EOp.ld true 5 (Opd.t 4)) none, EOper.mk (some 9) (EOp.ld true 8 (Opd.t
  5)) none, EOper.mk (some 10) (EOp.call (Opd.f 7) [Opd.t 7, Opd.t 8, Opd.t 9]) none, EOper.mk (some 11) (EOp.mv (Opd.t 10)) none, EOper.mk (some 12) (EOp.ld true 8 (Opd.t
  5)) (some (11, true)), EOper.mk (some 13) (EOp.ld true 5 (Opd.t 4)) (some (11, true)), EOper.mk (some 14) (EOp.ld true 8 (Opd.t 3)) (some (11, true)), EOper.mk (some 15)
  (EOp.call (Opd.f 7) [Opd.t 12, Opd.t 13, Opd.t 14]) (some (11, true)), EOper.mk (some 16) (EOp.pick (Opd.t 11) (Opd.t 15) (Opd.c (V.bool false))) none, EOper.mk (some
  17) (EOp.mv (Opd.t 16)) none, EOper.mk (some 18) (EOp.call (Opd.f 8) []) (some (17, true)), EOper.mk (some 19) (EOp.pick (Opd.t 17) (Opd.t 18) (Opd.c (V.bool false)))
  none, EOper.mk (some 6) (EOp.mv (Opd.t 19)) none]
def m3_1 : List Bool := [false, false, false, false, false, false, true, true, true, true, true, true, true, true, true, true, true, true, true, true]
def b3_2 : EC := EC.ret
def m3_2 : List Bool := [false, false, false, false, false, false, false, false, false, false, false, false, false, false, false, false, false, false, false, false]
def r3_2 : EC := b3_2
def r3_1 : EC := EC.seq b3_1 r3_2
def r3_0 : EC := EC.seq b3_0 r3_1
def e3 : EFun := EFun.mk 20 [ERes.t 6] r3_0
theorem c3 : cFun Tryd.prog 1 (fun _ => false) Tryd.f3 = some e3 := by kernel_rfl
theorem x3 : Tryd.prog.funcs[3]? = some Tryd.f3 := by kernel_rfl
theorem n3 : (Tryd.f3.name == "runtime.NumGoroutine") = false := by kernel_rfl
/-! 4: septumlaw06.RegionEnds -/
def l4_2p0 : EC := EC.seq (EC.ops false [EOper.mk (some 18) (EOp.mv (Opd.t 4)) none, EOper.mk (some 19) (EOp.bin .lss (Opd.t 18) (Opd.c (V.int .i64 (36)))) none]) (EC.cond
  (Opd.t 19) EC.skip (EC.exit 4))
def l4_2m0 : List Bool := [false, false, false, false, false, false, false, false, false, false, false, false, false, false, false, false, false, false, true, true, false, false, false, false, false, false, false, false, false, false, false, false, false, false, false, false, false, false, false, false, false, false, false, false, false, false, false, false, false, false, false, false, false, false, false, false, false, false, false, false, false, false, false, false, false, false, false, false, false, false, false, false, false, false, false, false, false, false, false, false]
def l4_2p1 : EC := EC.block 5 (EC.seq (EC.ops false [EOper.mk (some 22) (EOp.mv (Opd.t 4)) none, EOper.mk (some 23) (EOp.bin .rem (Opd.t 22) (Opd.c (V.int .i64 (3))))
  none, EOper.mk (some 24) (EOp.mv (Opd.t 2)) none, EOper.mk (some 25) (EOp.bin .rem (Opd.t 24) (Opd.c (V.int .i64 (2)))) none, EOper.mk (some 26) (EOp.bin .sub (Opd.t 23)
  (Opd.t 25)) none, EOper.mk (some 27) (EOp.mv (Opd.t 4)) none, EOper.mk (some 28) (EOp.bin .rem (Opd.t 27) (Opd.c (V.int .i64 (2)))) none, EOper.mk (some 29) (EOp.bin
  .eql (Opd.t 28) (Opd.c (V.int .i64 (0)))) none, EOper.mk (some 30) (EOp.mv (Opd.t 4)) none, EOper.mk (some 31) (EOp.bin .quo (Opd.t 30) (Opd.c (V.int .i64 (12)))) none,
  EOper.mk (some 32) (EOp.bin .mul (Opd.t 31) (Opd.c (V.int .i64 (132)))) none, EOper.mk (some 33) (EOp.bin .add (Opd.c (V.int .i64 (248))) (Opd.t 32)) none, EOper.mk
  (some 34) (EOp.mv (Opd.t 4)) none, EOper.mk (some 35) (EOp.bin .rem (Opd.t 34) (Opd.c (V.int .i64 (12)))) none, EOper.mk (some 36) (EOp.bin .add (Opd.t 33) (Opd.t 35))
  none, EOper.mk (some 37) (EOp.conv .u32 (Opd.t 36)) none, EOper.mk (some 38) (EOp.bslice 3 4 [V.int .i64 (0), V.int .i64 (0), V.int .i64 (0), V.int .i64 (0)] [(0, 1,
  Opd.c (V.int .i64 (1))), (1, 1, Opd.c (V.int .i64 (2))), (2, 1, Opd.c (V.int .i64 (4))), (3, 1, Opd.c (V.int .i64 (3)))]) none, EOper.mk (some 39) (EOp.mv (Opd.t 4))
  none, EOper.mk (some 40) (EOp.bin .rem (Opd.t 39) (Opd.c (V.int .i64 (4)))) none, EOper.mk (some 41) (EOp.ixs 1 (Opd.t 38) (Opd.t 40)) none, EOper.mk (some 42) (EOp.ld
  false 1 (Opd.t 41)) none, EOper.mk (some 43) (EOp.build [V.int .i64 (0), V.bool false, V.int .u32 (0), V.int .i64 (0), V.int .u32 (0)] [(0, 1, Opd.t 26), (1, 1, Opd.t
  29), (2, 1, Opd.t 37), (3, 1, Opd.t 42)]) none, EOper.mk (some 5) (EOp.alloc true 28 [V.int .i64 (0), V.bool false, V.int .u32 (0), V.int .i64 (0), V.int .u32 (0)])
  none, EOper.mk none (EOp.st 5 (Opd.t 5) (Opd.t 43)) none]) (EC.seq (EC.ops true [EOper.mk (some 44) (EOp.ld true 8 (Opd.t 3)) none, EOper.mk (some 45) (EOp.ld true 5
  (Opd.t 5)) none, EOper.mk (some 46) (EOp.mv (Opd.t 4)) none, EOper.mk (some 47) (EOp.bin .rem (Opd.t 46) (Opd.c (V.int .i64 (10)))) none, EOper.mk (some 48) (EOp.mv
  (Opd.t 4)) none, EOper.mk (some 49) (EOp.bin .rem (Opd.t 48) (Opd.c (V.int .i64 (12)))) none, EOper.mk (some 50) (EOp.call (Opd.f 9) [Opd.t 47, Opd.t 49]) none, EOper.mk
  (some 51) (EOp.call (Opd.f 7) [Opd.t 44, Opd.t 45, Opd.t 50]) none, EOper.mk (some 52) (EOp.un .not (Opd.t 51)) none, EOper.mk (some 53) (EOp.mv (Opd.t 52)) none,
  EOper.mk (some 54) (EOp.mv (Opd.t 4)) (some (53, false)), EOper.mk (some 55) (EOp.bin .rem (Opd.t 54) (Opd.c (V.int .i64 (10)))) (some (53, false)), EOper.mk (some 56)
  (EOp.mv (Opd.t 4)) (some (53, false)), EOper.mk (some 57) (EOp.bin .quo (Opd.t 56) (Opd.c (V.int .i64 (3)))) (some (53, false)), EOper.mk (some 58) (EOp.call (Opd.f 9)
  [Opd.t 55, Opd.t 57]) (some (53, false)), EOper.mk (some 59) (EOp.ld true 5 (Opd.t 5)) (some (53, false)), EOper.mk (some 60) (EOp.ld true 8 (Opd.t 3)) (some (53,
  false)), EOper.mk (some 61) (EOp.call (Opd.f 7) [Opd.t 58, Opd.t 59, Opd.t 60]) (some (53, false)), EOper.mk (some 62) (EOp.un .not (Opd.t 61)) (some (53, false)),
  EOper.mk (some 63) (EOp.pick (Opd.t 53) (Opd.c (V.bool true)) (Opd.t 62)) none]) (EC.cond (Opd.t 63) (EC.seq (EC.ops false [EOper.mk (some 0) (EOp.mv (Opd.c (V.bool
  false))) none]) EC.ret) EC.skip)))
def l4_2m1 : List Bool := [true, false, false, false, false, true, false, false, false, false, false, false, false, false, false, false, false, false, false, false, false, false, true, true, true, true, true, true, true, true, true, true, true, true, true, true, true, true, true, true, true, true, true, true, true, true, true, true, true, true, true, true, true, true, true, true, true, true, true, true, true, true, true, true, false, false, false, false, false, false, false, false, false, false, false, false, false, false, false, false]
def l4_2p2 : EC := EC.ops false [EOper.mk (some 20) (EOp.mv (Opd.t 4)) none, EOper.mk (some 21) (EOp.bin .add (Opd.t 20) (Opd.c (V.int .i64 (1)))) none, EOper.mk (some 4)
  (EOp.mv (Opd.t 21)) none]
def l4_2m2 : List Bool := [false, false, false, false, true, false, false, false, false, false, false, false, false, false, false, false, false, false, false, false, true, true, false, false, false, false, false, false, false, false, false, false, false, false, false, false, false, false, false, false, false, false, false, false, false, false, false, false, false, false, false, false, false, false, false, false, false, false, false, false, false, false, false, false, false, false, false, false, false, false, false, false, false, false, false, false, false, false, false, false]
def l4_2r2 : EC := l4_2p2
def l4_2r1 : EC := EC.seq l4_2p1 l4_2r2
def l4_2r0 : EC := EC.seq l4_2p0 l4_2r1
def l4_2 : EC := l4_2r0
def l4_1p0 : EC := EC.seq (EC.ops false [EOper.mk (some 11) (EOp.mv (Opd.t 2)) none, EOper.mk (some 12) (EOp.bin .lss (Opd.t 11) (Opd.c (V.int .i64 (12)))) none]) (EC.cond
  (Opd.t 12) EC.skip (EC.exit 2))
def l4_1m0 : List Bool := [false, false, false, false, false, false, false, false, false, false, false, true, true, false, false, false, false, false, false, false, false, false, false, false, false, false, false, false, false, false, false, false, false, false, false, false, false, false, false, false, false, false, false, false, false, false, false, false, false, false, false, false, false, false, false, false, false, false, false, false, false, false, false, false, false, false, false, false, false, false, false, false, false, false, false, false, false, false, false, false]
def l4_1p1 : EC := EC.block 3 (EC.seq (EC.ops false [EOper.mk (some 15) (EOp.mv (Opd.t 1)) none, EOper.mk (some 16) (EOp.mv (Opd.t 2)) none, EOper.mk (some 17) (EOp.call
  (Opd.f 9) [Opd.t 15, Opd.t 16]) none, EOper.mk (some 3) (EOp.alloc true 26 [V.bool false, V.int .i64 (0), V.int .u32 (0), V.int .u32 (0), V.bool false, V.bool false,
  V.int .i64 (0), V.bool false]) none, EOper.mk none (EOp.st 8 (Opd.t 3) (Opd.t 17)) none]) (EC.seq (EC.ops false [EOper.mk (some 4) (EOp.mv (Opd.c (V.int .i64 (0))))
  none]) (EC.block 4 (EC.loop l4_2))))
def l4_1m1 : List Bool := [true, false, false, true, true, true, false, false, false, false, false, false, false, false, false, true, true, true, true, true, true, true, true, true, true, true, true, true, true, true, true, true, true, true, true, true, true, true, true, true, true, true, true, true, true, true, true, true, true, true, true, true, true, true, true, true, true, true, true, true, true, true, true, true, false, false, false, false, false, false, false, false, false, false, false, false, false, false, false, false]
def l4_1p2 : EC := EC.ops false [EOper.mk (some 13) (EOp.mv (Opd.t 2)) none, EOper.mk (some 14) (EOp.bin .add (Opd.t 13) (Opd.c (V.int .i64 (1)))) none, EOper.mk (some 2)
  (EOp.mv (Opd.t 14)) none]
def l4_1m2 : List Bool := [false, false, true, false, false, false, false, false, false, false, false, false, false, true, true, false, false, false, false, false, false, false, false, false, false, false, false, false, false, false, false, false, false, false, false, false, false, false, false, false, false, false, false, false, false, false, false, false, false, false, false, false, false, false, false, false, false, false, false, false, false, false, false, false, false, false, false, false, false, false, false, false, false, false, false, false, false, false, false, false]
def l4_1r2 : EC := l4_1p2
def l4_1r1 : EC := EC.seq l4_1p1 l4_1r2
def l4_1r0 : EC := EC.seq l4_1p0 l4_1r1
def l4_1 : EC := l4_1r0
def l4_0p0 : EC := EC.seq (EC.ops false [EOper.mk (some 7) (EOp.mv (Opd.t 1)) none, EOper.mk (some 8) (EOp.bin .lss (Opd.t 7) (Opd.c (V.int .i64 (10)))) none]) (EC.cond
  (Opd.t 8) EC.skip (EC.exit 0))
def l4_0m0 : List Bool := [false, false, false, false, false, false, false, true, true, false, false, false, false, false, false, false, false, false, false, false, false, false, false, false, false, false, false, false, false, false, false, false, false, false, false, false, false, false, false, false, false, false, false, false, false, false, false, false, false, false, false, false, false, false, false, false, false, false, false, false, false, false, false, false, false, false, false, false, false, false, false, false, false, false, false, false, false, false, false, false]
def l4_0p1 : EC := EC.block 1 (EC.seq (EC.ops false [EOper.mk (some 2) (EOp.mv (Opd.c (V.int .i64 (0)))) none]) (EC.block 2 (EC.loop l4_1)))
def l4_0m1 : List Bool := [true, false, true, true, true, true, false, false, false, false, false, true, true, true, true, true, true, true, true, true, true, true, true, true, true, true, true, true, true, true, true, true, true, true, true, true, true, true, true, true, true, true, true, true, true, true, true, true, true, true, true, true, true, true, true, true, true, true, true, true, true, true, true, true, false, false, false, false, false, false, false, false, false, false, false, false, false, false, false, false]
def l4_0p2 : EC := EC.ops false [EOper.mk (some 9) (EOp.mv (Opd.t 1)) none, EOper.mk (some 10) (EOp.bin .add (Opd.t 9) (Opd.c (V.int .i64 (1)))) none, EOper.mk (some 1)
  (EOp.mv (Opd.t 10)) none]
def l4_0m2 : List Bool := [false, true, false, false, false, false, false, false, false, true, true, false, false, false, false, false, false, false, false, false, false, false, false, false, false, false, false, false, false, false, false, false, false, false, false, false, false, false, false, false, false, false, false, false, false, false, false, false, false, false, false, false, false, false, false, false, false, false, false, false, false, false, false, false, false, false, false, false, false, false, false, false, false, false, false, false, false, false, false, false]
def l4_0r2 : EC := l4_0p2
def l4_0r1 : EC := EC.seq l4_0p1 l4_0r2
def l4_0r0 : EC := EC.seq l4_0p0 l4_0r1
def l4_0 : EC := l4_0r0
def b4_0 : EC := EC.ops false [EOper.mk (some 0) (EOp.mv (Opd.c (V.bool false))) none]
def m4_0 : List Bool := [true, false, false, false, false, false, false, false, false, false, false, false, false, false, false, false, false, false, false, false, false, false, false, false, false, false, false, false, false, false, false, false, false, false, false, false, false, false, false, false, false, false, false, false, false, false, false, false, false, false, false, false, false, false, false, false, false, false, false, false, false, false, false, false, false, false, false, false, false, false, false, false, false, false, false, false, false, false, false, false]
def b4_1 : EC := EC.seq (EC.ops false [EOper.mk (some 1) (EOp.mv (Opd.c (V.int .i64 (0)))) none]) (EC.block 0 (EC.loop l4_0))
def m4_1 : List Bool := [true, true, true, true, true, true, false, true, true, true, true, true, true, true, true, true, true, true, true, true, true, true, true, true, true, true, true, true, true, true, true, true, true, true, true, true, true, true, true, true, true, true, true, true, true, true, true, true, true, true, true, true, true, true, true, true, true, true, true, true, true, true, true, true, false, false, false, false, false, false, false, false, false, false, false, false, false, false, false, false]
def b4_2 : EC := EC.ops false [EOper.mk (some 64) (EOp.call (Opd.f 10) []) none, EOper.mk (some 6) (EOp.alloc true 26 [V.bool false, V.int .i64 (0), V.int .u32 (0), V.int
  .u32 (0), V.bool false, V.bool false, V.int .i64 (0), V.bool false]) none, EOper.mk none (EOp.st 8 (Opd.t 6) (Opd.t 64)) none]
def m4_2 : List Bool := [false, false, false, false, false, false, true, false, false, false, false, false, false, false, false, false, false, false, false, false, false, false, false, false, false, false, false, false, false, false, false, false, false, false, false, false, false, false, false, false, false, false, false, false, false, false, false, false, false, false, false, false, false, false, false, false, false, false, false, false, false, false, false, false, true, false, false, false, false, false, false, false, false, false, false, false, false, false, false, false]
def b4_3 : EC := EC.ops false [EOper.mk (some 65) (EOp.fa 2 (Opd.t 6)) none, EOper.mk (some 66) (EOp.fa 1 (Opd.t 65)) none, EOper.mk none (EOp.st 1 (Opd.t 66) (Opd.c
  (V.int .u32 (4294967295)))) none]
def m4_3 : List Bool := [false, false, false, false, false, false, false, false, false, false, false, false, false, false, false, false, false, false, false, false, false, false, false, false, false, false, false, false, false, false, false, false, false, false, false, false, false, false, false, false, false, false, false, false, false, false, false, false, false, false, false, false, false, false, false, false, false, false, false, false, false, false, false, false, false, true, true, false, false, false, false, false, false, false, false, false, false, false, false, false]
def b4_4 : EC := EC.ops true [EOper.mk (some 67) (EOp.ld true 8 (Opd.t 6)) none, EOper.mk (some 68) (EOp.build [V.int .i64 (0), V.bool false, V.int .u32 (0), V.int .i64
  (0), V.int .u32 (0)] [(0, 1, Opd.c (V.int .i64 (1))), (2, 1, Opd.c (V.int .u32 (4294967292))), (3, 1, Opd.c (V.int .i64 (4)))]) none, EOper.mk (some 69) (EOp.ld true 8
  (Opd.t 6)) none, EOper.mk (some 70) (EOp.call (Opd.f 7) [Opd.t 67, Opd.t 68, Opd.t 69]) none, EOper.mk (some 71) (EOp.mv (Opd.t 70)) none, EOper.mk (some 72) (EOp.ld
  true 8 (Opd.t 6)) (some (71, true)), EOper.mk (some 73) (EOp.build [V.int .i64 (0), V.bool false, V.int .u32 (0), V.int .i64 (0), V.int .u32 (0)] [(0, 1, Opd.c (V.int
  .i64 (1))), (2, 1, Opd.c (V.int .u32 (4294967295))), (3, 1, Opd.c (V.int .i64 (1)))]) (some (71, true)), EOper.mk (some 74) (EOp.call (Opd.f 10) []) (some (71, true)),
  EOper.mk (some 75) (EOp.call (Opd.f 7) [Opd.t 72, Opd.t 73, Opd.t 74]) (some (71, true)), EOper.mk (some 76) (EOp.pick (Opd.t 71) (Opd.t 75) (Opd.c (V.bool false)))
  none, EOper.mk (some 77) (EOp.mv (Opd.t 76)) none, EOper.mk (some 78) (EOp.call (Opd.f 8) []) (some (77, true)), EOper.mk (some 79) (EOp.pick (Opd.t 77) (Opd.t 78)
  (Opd.c (V.bool false))) none, EOper.mk (some 0) (EOp.mv (Opd.t 79)) none]
def m4_4 : List Bool := [true, false, false, false, false, false, false, false, false, false, false, false, false, false, false, false, false, false, false, false, false, false, false, false, false, false, false, false, false, false, false, false, false, false, false, false, false, false, false, false, false, false, false, false, false, false, false, false, false, false, false, false, false, false, false, false, false, false, false, false, false, false, false, false, false, false, false, true, true, true, true, true, true, true, true, true, true, true, true, true]
def b4_5 : EC := EC.ret
def m4_5 : List Bool := [false, false, false, false, false, false, false, false, false, false, false, false, false, false, false, false, false, false, false, false, false, false, false, false, false, false, false, false, false, false, false, false, false, false, false, false, false, false, false, false, false, false, false, false, false, false, false, false, false, false, false, false, false, false, false, false, false, false, false, false, false, false, false, false, false, false, false, false, false, false, false, false, false, false, false, false, false, false, false, false]
def r4_5 : EC := b4_5
def r4_4 : EC := EC.seq b4_4 r4_5
def r4_3 : EC := EC.seq b4_3 r4_4
def r4_2 : EC := EC.seq b4_2 r4_3
def r4_1 : EC := EC.seq b4_1 r4_2
def r4_0 : EC := EC.seq b4_0 r4_1
def e4 : EFun := EFun.mk 80 [ERes.t 0] r4_0
theorem c4 : cFun Tryd.prog 1 (fun _ => false) Tryd.f4 = some e4 := by kernel_rfl
theorem x4 : Tryd.prog.funcs[4]? = some Tryd.f4 := by kernel_rfl
theorem n4 : (Tryd.f4.name == "runtime.NumGoroutine") = false := by kernel_rfl
/-! 5: septumlaw06.RegionClashes -/
def b5_0 : EC := EC.ops false [EOper.mk (some 4) (EOp.box true 26 (Opd.t 0)) none, EOper.mk (some 5) (EOp.box true 26 (Opd.t 1)) none, EOper.mk (some 6) (EOp.box true 28
  (Opd.t 2)) none, EOper.mk (some 8) (EOp.mv (Opd.c (V.bool false))) none]
def m5_0 : List Bool := [false, false, false, false, true, true, true, false, true, false, false, false, false, false, false, false, false, false, false, false, false, false, false, false, false, false, false, false, false, false, false, false, false, false, false, false, false, false, false, false, false, false, false, false, false, false, false, false, false, false, false, false, false, false, false, false, false, false, false, false, false, false, false, false, false, false, false, false, false, false, false, false, false, false, false, false, false, false, false, false, false, false, false, false, false, false, false, false, false, false, false, false, false, false]
def b5_1 : EC := EC.seq (EC.ops false [EOper.mk (some 11) (EOp.call (Opd.f 8) []) none, EOper.mk (some 12) (EOp.un .not (Opd.t 11)) none]) (EC.cond (Opd.t 12) (EC.seq
  (EC.ops false [EOper.mk (some 8) (EOp.mv (Opd.c (V.bool false))) none]) EC.ret) EC.skip)
def m5_1 : List Bool := [false, false, false, false, false, false, false, false, true, false, false, true, true, false, false, false, false, false, false, false, false, false, false, false, false, false, false, false, false, false, false, false, false, false, false, false, false, false, false, false, false, false, false, false, false, false, false, false, false, false, false, false, false, false, false, false, false, false, false, false, false, false, false, false, false, false, false, false, false, false, false, false, false, false, false, false, false, false, false, false, false, false, false, false, false, false, false, false, false, false, false, false, false, false]
def b5_2 : EC := EC.seq (EC.ops true [EOper.mk (some 13) (EOp.ld true 8 (Opd.t 4)) none, EOper.mk (some 14) (EOp.ld true 8 (Opd.t 5)) none, EOper.mk (some 15) (EOp.call
  (Opd.f 11) [Opd.t 13, Opd.t 14]) none, EOper.mk (some 16) (EOp.ld true 8 (Opd.t 5)) none, EOper.mk (some 17) (EOp.ld true 8 (Opd.t 4)) none, EOper.mk (some 18) (EOp.call
  (Opd.f 11) [Opd.t 16, Opd.t 17]) none, EOper.mk (some 19) (EOp.eqb true (Opd.t 15) (Opd.t 18)) none, EOper.mk (some 20) (EOp.mv (Opd.t 19)) none, EOper.mk (some 21)
  (EOp.fa 1 (Opd.t 4)) (some (20, false)), EOper.mk (some 22) (EOp.ld false 1 (Opd.t 21)) (some (20, false)), EOper.mk (some 23) (EOp.fa 1 (Opd.t 5)) (some (20, false)),
  EOper.mk (some 24) (EOp.ld false 1 (Opd.t 23)) (some (20, false)), EOper.mk (some 25) (EOp.bin .eql (Opd.t 22) (Opd.t 24)) (some (20, false)), EOper.mk (some 26) (EOp.mv
  (Opd.t 25)) (some (20, false)), EOper.mk (some 27) (EOp.ld true 8 (Opd.t 4)) (some (26, true)), EOper.mk (some 28) (EOp.ld true 8 (Opd.t 5)) (some (26, true)), EOper.mk
  (some 29) (EOp.call (Opd.f 11) [Opd.t 27, Opd.t 28]) (some (26, true)), EOper.mk (some 30) (EOp.pick (Opd.t 26) (Opd.t 29) (Opd.c (V.bool false))) (some (20, false)),
  EOper.mk (some 31) (EOp.pick (Opd.t 20) (Opd.c (V.bool true)) (Opd.t 30)) none]) (EC.cond (Opd.t 31) (EC.seq (EC.ops false [EOper.mk (some 8) (EOp.mv (Opd.c (V.bool
  false))) none]) EC.ret) EC.skip)
def m5_2 : List Bool := [false, false, false, false, false, false, false, false, true, false, false, false, false, true, true, true, true, true, true, true, true, true, true, true, true, true, true, true, true, true, true, true, false, false, false, false, false, false, false, false, false, false, false, false, false, false, false, false, false, false, false, false, false, false, false, false, false, false, false, false, false, false, false, false, false, false, false, false, false, false, false, false, false, false, false, false, false, false, false, false, false, false, false, false, false, false, false, false, false, false, false, false, false, false]
def b5_3 : EC := EC.ops false [EOper.mk (some 32) (EOp.ld true 8 (Opd.t 4)) none, EOper.mk (some 33) (EOp.call (Opd.f 12) [Opd.t 32]) none, EOper.mk (some 34) (EOp.mv
  (Opd.t 33)) none, EOper.mk (some 35) (EOp.ld true 8 (Opd.t 5)) (some (34, true)), EOper.mk (some 36) (EOp.call (Opd.f 12) [Opd.t 35]) (some (34, true)), EOper.mk (some
  37) (EOp.pick (Opd.t 34) (Opd.t 36) (Opd.c (V.bool false))) none, EOper.mk (some 38) (EOp.mv (Opd.t 37)) none, EOper.mk (some 39) (EOp.fa 0 (Opd.t 4)) (some (38, true)),
  EOper.mk (some 40) (EOp.ld false 1 (Opd.t 39)) (some (38, true)), EOper.mk (some 41) (EOp.pick (Opd.t 38) (Opd.t 40) (Opd.c (V.bool false))) none, EOper.mk (some 42)
  (EOp.mv (Opd.t 41)) none, EOper.mk (some 43) (EOp.fa 0 (Opd.t 5)) (some (42, true)), EOper.mk (some 44) (EOp.ld false 1 (Opd.t 43)) (some (42, true)), EOper.mk (some 45)
  (EOp.pick (Opd.t 42) (Opd.t 44) (Opd.c (V.bool false))) none, EOper.mk (some 46) (EOp.mv (Opd.t 45)) none, EOper.mk (some 47) (EOp.fa 2 (Opd.t 4)) (some (46, true)),
  EOper.mk (some 48) (EOp.ld true 2 (Opd.t 47)) (some (46, true)), EOper.mk (some 49) (EOp.mv (Opd.t 3)) (some (46, true)), EOper.mk (some 50) (EOp.call (Opd.f 13) [Opd.t
  48, Opd.t 49]) (some (46, true)), EOper.mk (some 51) (EOp.pick (Opd.t 46) (Opd.t 50) (Opd.c (V.bool false))) none, EOper.mk (some 52) (EOp.mv (Opd.t 51)) none, EOper.mk
  (some 53) (EOp.fa 2 (Opd.t 5)) (some (52, true)), EOper.mk (some 54) (EOp.ld true 2 (Opd.t 53)) (some (52, true)), EOper.mk (some 55) (EOp.mv (Opd.t 3)) (some (52,
  true)), EOper.mk (some 56) (EOp.call (Opd.f 13) [Opd.t 54, Opd.t 55]) (some (52, true)), EOper.mk (some 57) (EOp.pick (Opd.t 52) (Opd.t 56) (Opd.c (V.bool false))) none,
  EOper.mk (some 9) (EOp.mv (Opd.t 57)) none]
def m5_3 : List Bool := [false, false, false, false, false, false, false, false, false, true, false, false, false, false, false, false, false, false, false, false, false, false, false, false, false, false, false, false, false, false, false, false, true, true, true, true, true, true, true, true, true, true, true, true, true, true, true, true, true, true, true, true, true, true, true, true, true, true, false, false, false, false, false, false, false, false, false, false, false, false, false, false, false, false, false, false, false, false, false, false, false, false, false, false, false, false, false, false, false, false, false, false, false, false]
def b5_4 : EC := EC.seq (EC.ops false [EOper.mk (some 58) (EOp.mv (Opd.t 9)) none, EOper.mk (some 59) (EOp.mv (Opd.t 58)) none, EOper.mk (some 60) (EOp.fa 1 (Opd.t 4))
  (some (59, true)), EOper.mk (some 61) (EOp.ld false 1 (Opd.t 60)) (some (59, true)), EOper.mk (some 62) (EOp.fa 1 (Opd.t 5)) (some (59, true)), EOper.mk (some 63)
  (EOp.ld false 1 (Opd.t 62)) (some (59, true)), EOper.mk (some 64) (EOp.bin .neq (Opd.t 61) (Opd.t 63)) (some (59, true)), EOper.mk (some 65) (EOp.pick (Opd.t 59) (Opd.t
  64) (Opd.c (V.bool false))) none, EOper.mk (some 66) (EOp.mv (Opd.t 65)) none, EOper.mk (some 67) (EOp.ld true 8 (Opd.t 4)) (some (66, true)), EOper.mk (some 68) (EOp.ld
  true 8 (Opd.t 5)) (some (66, true)), EOper.mk (some 69) (EOp.call (Opd.f 11) [Opd.t 67, Opd.t 68]) (some (66, true)), EOper.mk (some 70) (EOp.un .not (Opd.t 69)) (some
  (66, true)), EOper.mk (some 71) (EOp.pick (Opd.t 66) (Opd.t 70) (Opd.c (V.bool false))) none]) (EC.cond (Opd.t 71) (EC.seq (EC.ops false [EOper.mk (some 8) (EOp.mv
  (Opd.c (V.bool false))) none]) EC.ret) EC.skip)
def m5_4 : List Bool := [false, false, false, false, false, false, false, false, true, false, false, false, false, false, false, false, false, false, false, false, false, false, false, false, false, false, false, false, false, false, false, false, false, false, false, false, false, false, false, false, false, false, false, false, false, false, false, false, false, false, false, false, false, false, false, false, false, false, true, true, true, true, true, true, true, true, true, true, true, true, true, true, false, false, false, false, false, false, false, false, false, false, false, false, false, false, false, false, false, false, false, false, false, false]
def b5_5 : EC := EC.ops false [EOper.mk (some 72) (EOp.ld true 5 (Opd.t 6)) none, EOper.mk (some 10) (EOp.alloc true 28 [V.int .i64 (0), V.bool false, V.int .u32 (0),
  V.int .i64 (0), V.int .u32 (0)]) none, EOper.mk none (EOp.st 5 (Opd.t 10) (Opd.t 72)) none]
def m5_5 : List Bool := [false, false, false, false, false, false, false, false, false, false, true, false, false, false, false, false, false, false, false, false, false, false, false, false, false, false, false, false, false, false, false, false, false, false, false, false, false, false, false, false, false, false, false, false, false, false, false, false, false, false, false, false, false, false, false, false, false, false, false, false, false, false, false, false, false, false, false, false, false, false, false, false, true, false, false, false, false, false, false, false, false, false, false, false, false, false, false, false, false, false, false, false, false, false]
def b5_6 : EC := EC.ops false [EOper.mk (some 73) (EOp.fa 1 (Opd.t 5)) none, EOper.mk (some 74) (EOp.ld false 1 (Opd.t 73)) none, EOper.mk (some 75) (EOp.fa 0 (Opd.t 10))
  none, EOper.mk none (EOp.st 1 (Opd.t 75) (Opd.t 74)) none]
def m5_6 : List Bool := [false, false, false, false, false, false, false, false, false, false, false, false, false, false, false, false, false, false, false, false, false, false, false, false, false, false, false, false, false, false, false, false, false, false, false, false, false, false, false, false, false, false, false, false, false, false, false, false, false, false, false, false, false, false, false, false, false, false, false, false, false, false, false, false, false, false, false, false, false, false, false, false, false, true, true, true, false, false, false, false, false, false, false, false, false, false, false, false, false, false, false, false, false, false]
def b5_7 : EC := EC.seq (EC.ops false [EOper.mk (some 76) (EOp.ld true 8 (Opd.t 4)) none, EOper.mk (some 77) (EOp.ld true 5 (Opd.t 6)) none, EOper.mk (some 78) (EOp.call
  (Opd.f 14) [Opd.t 76, Opd.t 77]) none, EOper.mk (some 79) (EOp.mv (Opd.t 78)) none, EOper.mk (some 80) (EOp.ld true 8 (Opd.t 5)) (some (79, true)), EOper.mk (some 81)
  (EOp.ld true 5 (Opd.t 10)) (some (79, true)), EOper.mk (some 82) (EOp.call (Opd.f 14) [Opd.t 80, Opd.t 81]) (some (79, true)), EOper.mk (some 83) (EOp.pick (Opd.t 79)
  (Opd.t 82) (Opd.c (V.bool false))) none, EOper.mk (some 84) (EOp.mv (Opd.t 83)) none, EOper.mk (some 85) (EOp.fa 1 (Opd.t 4)) (some (84, true)), EOper.mk (some 86)
  (EOp.ld false 1 (Opd.t 85)) (some (84, true)), EOper.mk (some 87) (EOp.fa 1 (Opd.t 5)) (some (84, true)), EOper.mk (some 88) (EOp.ld false 1 (Opd.t 87)) (some (84,
  true)), EOper.mk (some 89) (EOp.bin .neq (Opd.t 86) (Opd.t 88)) (some (84, true)), EOper.mk (some 90) (EOp.pick (Opd.t 84) (Opd.t 89) (Opd.c (V.bool false))) none])
  (EC.cond (Opd.t 90) (EC.seq (EC.ops false [EOper.mk (some 91) (EOp.ld true 8 (Opd.t 4)) none, EOper.mk (some 92) (EOp.ld true 8 (Opd.t 5)) none, EOper.mk (some 93)
  (EOp.call (Opd.f 11) [Opd.t 91, Opd.t 92]) none, EOper.mk (some 8) (EOp.mv (Opd.t 93)) none]) EC.ret) EC.skip)
def m5_7 : List Bool := [false, false, false, false, false, false, false, false, true, false, false, false, false, false, false, false, false, false, false, false, false, false, false, false, false, false, false, false, false, false, false, false, false, false, false, false, false, false, false, false, false, false, false, false, false, false, false, false, false, false, false, false, false, false, false, false, false, false, false, false, false, false, false, false, false, false, false, false, false, false, false, false, false, false, false, false, true, true, true, true, true, true, true, true, true, true, true, true, true, true, true, true, true, true]
def b5_8 : EC := EC.ops false [EOper.mk (some 8) (EOp.mv (Opd.c (V.bool true))) none]
def m5_8 : List Bool := [false, false, false, false, false, false, false, false, true, false, false, false, false, false, false, false, false, false, false, false, false, false, false, false, false, false, false, false, false, false, false, false, false, false, false, false, false, false, false, false, false, false, false, false, false, false, false, false, false, false, false, false, false, false, false, false, false, false, false, false, false, false, false, false, false, false, false, false, false, false, false, false, false, false, false, false, false, false, false, false, false, false, false, false, false, false, false, false, false, false, false, false, false, false]
def b5_9 : EC := EC.ret
def m5_9 : List Bool := [false, false, false, false, false, false, false, false, false, false, false, false, false, false, false, false, false, false, false, false, false, false, false, false, false, false, false, false, false, false, false, false, false, false, false, false, false, false, false, false, false, false, false, false, false, false, false, false, false, false, false, false, false, false, false, false, false, false, false, false, false, false, false, false, false, false, false, false, false, false, false, false, false, false, false, false, false, false, false, false, false, false, false, false, false, false, false, false, false, false, false, false, false, false]
def r5_9 : EC := b5_9
def r5_8 : EC := EC.seq b5_8 r5_9
def r5_7 : EC := EC.seq b5_7 r5_8
def r5_6 : EC := EC.seq b5_6 r5_7
def r5_5 : EC := EC.seq b5_5 r5_6
def r5_4 : EC := EC.seq b5_4 r5_5
def r5_3 : EC := EC.seq b5_3 r5_4
def r5_2 : EC := EC.seq b5_2 r5_3
def r5_1 : EC := EC.seq b5_1 r5_2
def r5_0 : EC := EC.seq b5_0 r5_1
def e5 : EFun := EFun.mk 94 [ERes.t 8] r5_0
theorem c5 : cFun Tryd.prog 1 (fun _ => false) Tryd.f5 = some e5 := by kernel_rfl
theorem x5 : Tryd.prog.funcs[5]? = some Tryd.f5 := by kernel_rfl
theorem n5 : (Tryd.f5.name == "runtime.NumGoroutine") = false := by kernel_rfl
/-! 6: septumlaw06.RegionLess -/
def b6_0 : EC := EC.ops false [EOper.mk (some 3) (EOp.box true 26 (Opd.t 0)) none, EOper.mk (some 4) (EOp.box true 26 (Opd.t 1)) none, EOper.mk (some 5) (EOp.box true 28
  (Opd.t 2)) none, EOper.mk (some 6) (EOp.mv (Opd.c (V.bool false))) none]
def m6_0 : List Bool := [false, false, false, true, true, true, true, false, false, false, false, false, false, false, false, false, false, false, false, false, false, false, false, false, false, false, false, false, false, false, false, false, false, false, false, false, false, false, false, false, false, false, false, false, false, false, false, false, false, false, false, false, false, false, false, false, false, false, false, false, false, false, false, false, false, false, false, false, false, false, false, false, false, false, false, false, false, false, false, false, false, false, false, false, false, false, false, false, false, false, false, false, false, false, false, false, false, false, false, false, false, false, false, false, false, false, false, false, false, false, false, false, false, false, false, false, false, false, false, false, false, false, false, false, false, false, false, false, false, false, false, false, false, false, false, false, false]
def b6_1 : EC := EC.seq (EC.ops false [EOper.mk (some 10) (EOp.call (Opd.f 8) []) none, EOper.mk (some 11) (EOp.un .not (Opd.t 10)) none]) (EC.cond (Opd.t 11) (EC.seq
  (EC.ops false [EOper.mk (some 6) (EOp.mv (Opd.c (V.bool false))) none]) EC.ret) EC.skip)
def m6_1 : List Bool := [false, false, false, false, false, false, true, false, false, false, true, true, false, false, false, false, false, false, false, false, false, false, false, false, false, false, false, false, false, false, false, false, false, false, false, false, false, false, false, false, false, false, false, false, false, false, false, false, false, false, false, false, false, false, false, false, false, false, false, false, false, false, false, false, false, false, false, false, false, false, false, false, false, false, false, false, false, false, false, false, false, false, false, false, false, false, false, false, false, false, false, false, false, false, false, false, false, false, false, false, false, false, false, false, false, false, false, false, false, false, false, false, false, false, false, false, false, false, false, false, false, false, false, false, false, false, false, false, false, false, false, false, false, false, false, false, false]
def b6_2 : EC := EC.seq (EC.ops false [EOper.mk (some 12) (EOp.ld true 8 (Opd.t 3)) none, EOper.mk (some 13) (EOp.ld true 5 (Opd.t 5)) none, EOper.mk (some 14) (EOp.call
  (Opd.f 15) [Opd.t 12, Opd.t 13]) none, EOper.mk (some 15) (EOp.mv (Opd.t 14)) none, EOper.mk (some 16) (EOp.ld true 8 (Opd.t 3)) (some (15, true)), EOper.mk (some 17)
  (EOp.ld true 5 (Opd.t 5)) (some (15, true)), EOper.mk (some 18) (EOp.call (Opd.f 14) [Opd.t 16, Opd.t 17]) (some (15, true)), EOper.mk (some 19) (EOp.un .not (Opd.t 18))
  (some (15, true)), EOper.mk (some 20) (EOp.mv (Opd.t 19)) (some (15, true)), EOper.mk (some 21) (EOp.fa 1 (Opd.t 5)) (some (20, false)), EOper.mk (some 22) (EOp.ld false
  1 (Opd.t 21)) (some (20, false)), EOper.mk (some 23) (EOp.mv (Opd.t 22)) (some (20, false)), EOper.mk (some 24) (EOp.fa 5 (Opd.t 3)) (some (23, true)), EOper.mk (some
  25) (EOp.ld false 1 (Opd.t 24)) (some (23, true)), EOper.mk (some 26) (EOp.un .not (Opd.t 25)) (some (23, true)), EOper.mk (some 27) (EOp.pick (Opd.t 23) (Opd.t 26)
  (Opd.c (V.bool false))) (some (20, false)), EOper.mk (some 28) (EOp.pick (Opd.t 20) (Opd.c (V.bool true)) (Opd.t 27)) (some (15, true)), EOper.mk (some 29) (EOp.mv
  (Opd.t 28)) (some (15, true)), EOper.mk (some 30) (EOp.fa 1 (Opd.t 5)) (some (29, false)), EOper.mk (some 31) (EOp.ld false 1 (Opd.t 30)) (some (29, false)), EOper.mk
  (some 32) (EOp.un .not (Opd.t 31)) (some (29, false)), EOper.mk (some 33) (EOp.mv (Opd.t 32)) (some (29, false)), EOper.mk (some 34) (EOp.fa 4 (Opd.t 3)) (some (33,
  true)), EOper.mk (some 35) (EOp.ld false 1 (Opd.t 34)) (some (33, true)), EOper.mk (some 36) (EOp.un .not (Opd.t 35)) (some (33, true)), EOper.mk (some 37) (EOp.pick
  (Opd.t 33) (Opd.t 36) (Opd.c (V.bool false))) (some (29, false)), EOper.mk (some 38) (EOp.pick (Opd.t 29) (Opd.c (V.bool true)) (Opd.t 37)) (some (15, true)), EOper.mk
  (some 39) (EOp.pick (Opd.t 15) (Opd.t 38) (Opd.c (V.bool false))) none]) (EC.cond (Opd.t 39) (EC.seq (EC.ops false [EOper.mk (some 6) (EOp.mv (Opd.c (V.bool false)))
  none]) EC.ret) EC.skip)
def m6_2 : List Bool := [false, false, false, false, false, false, true, false, false, false, false, false, true, true, true, true, true, true, true, true, true, true, true, true, true, true, true, true, true, true, true, true, true, true, true, true, true, true, true, true, false, false, false, false, false, false, false, false, false, false, false, false, false, false, false, false, false, false, false, false, false, false, false, false, false, false, false, false, false, false, false, false, false, false, false, false, false, false, false, false, false, false, false, false, false, false, false, false, false, false, false, false, false, false, false, false, false, false, false, false, false, false, false, false, false, false, false, false, false, false, false, false, false, false, false, false, false, false, false, false, false, false, false, false, false, false, false, false, false, false, false, false, false, false, false, false, false]
def b6_3 : EC := EC.seq (EC.ops false [EOper.mk (some 40) (EOp.ld true 8 (Opd.t 3)) none, EOper.mk (some 41) (EOp.ld true 5 (Opd.t 5)) none, EOper.mk (some 42) (EOp.call
  (Opd.f 14) [Opd.t 40, Opd.t 41]) none, EOper.mk (some 43) (EOp.mv (Opd.t 42)) none, EOper.mk (some 44) (EOp.ld true 8 (Opd.t 4)) (some (43, true)), EOper.mk (some 45)
  (EOp.call (Opd.f 12) [Opd.t 44]) (some (43, true)), EOper.mk (some 46) (EOp.pick (Opd.t 43) (Opd.t 45) (Opd.c (V.bool false))) none, EOper.mk (some 47) (EOp.mv (Opd.t
  46)) none, EOper.mk (some 48) (EOp.fa 0 (Opd.t 4)) (some (47, true)), EOper.mk (some 49) (EOp.ld false 1 (Opd.t 48)) (some (47, true)), EOper.mk (some 50) (EOp.pick
  (Opd.t 47) (Opd.t 49) (Opd.c (V.bool false))) none, EOper.mk (some 51) (EOp.mv (Opd.t 50)) none, EOper.mk (some 52) (EOp.fa 1 (Opd.t 4)) (some (51, true)), EOper.mk
  (some 53) (EOp.ld false 1 (Opd.t 52)) (some (51, true)), EOper.mk (some 54) (EOp.fa 1 (Opd.t 3)) (some (51, true)), EOper.mk (some 55) (EOp.ld false 1 (Opd.t 54)) (some
  (51, true)), EOper.mk (some 56) (EOp.bin .eql (Opd.t 53) (Opd.t 55)) (some (51, true)), EOper.mk (some 57) (EOp.pick (Opd.t 51) (Opd.t 56) (Opd.c (V.bool false))) none,
  EOper.mk (some 58) (EOp.mv (Opd.t 57)) none, EOper.mk (some 59) (EOp.fa 2 (Opd.t 3)) (some (58, true)), EOper.mk (some 60) (EOp.ld true 2 (Opd.t 59)) (some (58, true)),
  EOper.mk (some 61) (EOp.fa 2 (Opd.t 4)) (some (58, true)), EOper.mk (some 62) (EOp.ld true 2 (Opd.t 61)) (some (58, true)), EOper.mk (some 63) (EOp.call (Opd.f 16)
  [Opd.t 60, Opd.t 62]) (some (58, true)), EOper.mk (some 64) (EOp.pick (Opd.t 58) (Opd.t 63) (Opd.c (V.bool false))) none, EOper.mk (some 65) (EOp.mv (Opd.t 64)) none,
  EOper.mk (some 66) (EOp.ld true 8 (Opd.t 4)) (some (65, true)), EOper.mk (some 67) (EOp.ld true 5 (Opd.t 5)) (some (65, true)), EOper.mk (some 68) (EOp.call (Opd.f 14)
  [Opd.t 66, Opd.t 67]) (some (65, true)), EOper.mk (some 69) (EOp.un .not (Opd.t 68)) (some (65, true)), EOper.mk (some 70) (EOp.pick (Opd.t 65) (Opd.t 69) (Opd.c (V.bool
  false))) none]) (EC.cond (Opd.t 70) (EC.seq (EC.ops false [EOper.mk (some 6) (EOp.mv (Opd.c (V.bool false))) none]) EC.ret) EC.skip)
def m6_3 : List Bool := [false, false, false, false, false, false, true, false, false, false, false, false, false, false, false, false, false, false, false, false, false, false, false, false, false, false, false, false, false, false, false, false, false, false, false, false, false, false, false, false, true, true, true, true, true, true, true, true, true, true, true, true, true, true, true, true, true, true, true, true, true, true, true, true, true, true, true, true, true, true, true, false, false, false, false, false, false, false, false, false, false, false, false, false, false, false, false, false, false, false, false, false, false, false, false, false, false, false, false, false, false, false, false, false, false, false, false, false, false, false, false, false, false, false, false, false, false, false, false, false, false, false, false, false, false, false, false, false, false, false, false, false, false, false, false, false, false]
def b6_4 : EC := EC.ops false [EOper.mk (some 71) (EOp.ld true 8 (Opd.t 3)) none, EOper.mk (some 7) (EOp.alloc true 26 [V.bool false, V.int .i64 (0), V.int .u32 (0), V.int
  .u32 (0), V.bool false, V.bool false, V.int .i64 (0), V.bool false]) none, EOper.mk none (EOp.st 8 (Opd.t 7) (Opd.t 71)) none]
def m6_4 : List Bool := [false, false, false, false, false, false, false, true, false, false, false, false, false, false, false, false, false, false, false, false, false, false, false, false, false, false, false, false, false, false, false, false, false, false, false, false, false, false, false, false, false, false, false, false, false, false, false, false, false, false, false, false, false, false, false, false, false, false, false, false, false, false, false, false, false, false, false, false, false, false, false, true, false, false, false, false, false, false, false, false, false, false, false, false, false, false, false, false, false, false, false, false, false, false, false, false, false, false, false, false, false, false, false, false, false, false, false, false, false, false, false, false, false, false, false, false, false, false, false, false, false, false, false, false, false, false, false, false, false, false, false, false, false, false, false, false, false]
def b6_5 : EC := EC.ops false [EOper.mk (some 72) (EOp.fa 4 (Opd.t 7)) none, EOper.mk none (EOp.st 1 (Opd.t 72) (Opd.c (V.bool false))) none]
def m6_5 : List Bool := [false, false, false, false, false, false, false, false, false, false, false, false, false, false, false, false, false, false, false, false, false, false, false, false, false, false, false, false, false, false, false, false, false, false, false, false, false, false, false, false, false, false, false, false, false, false, false, false, false, false, false, false, false, false, false, false, false, false, false, false, false, false, false, false, false, false, false, false, false, false, false, false, true, false, false, false, false, false, false, false, false, false, false, false, false, false, false, false, false, false, false, false, false, false, false, false, false, false, false, false, false, false, false, false, false, false, false, false, false, false, false, false, false, false, false, false, false, false, false, false, false, false, false, false, false, false, false, false, false, false, false, false, false, false, false, false, false]
def b6_6 : EC := EC.ops false [EOper.mk (some 73) (EOp.fa 5 (Opd.t 7)) none, EOper.mk none (EOp.st 1 (Opd.t 73) (Opd.c (V.bool false))) none]
def m6_6 : List Bool := [false, false, false, false, false, false, false, false, false, false, false, false, false, false, false, false, false, false, false, false, false, false, false, false, false, false, false, false, false, false, false, false, false, false, false, false, false, false, false, false, false, false, false, false, false, false, false, false, false, false, false, false, false, false, false, false, false, false, false, false, false, false, false, false, false, false, false, false, false, false, false, false, false, true, false, false, false, false, false, false, false, false, false, false, false, false, false, false, false, false, false, false, false, false, false, false, false, false, false, false, false, false, false, false, false, false, false, false, false, false, false, false, false, false, false, false, false, false, false, false, false, false, false, false, false, false, false, false, false, false, false, false, false, false, false, false, false]
def b6_7 : EC := EC.ops false [EOper.mk (some 74) (EOp.ld true 8 (Opd.t 3)) none, EOper.mk (some 8) (EOp.alloc true 26 [V.bool false, V.int .i64 (0), V.int .u32 (0), V.int
  .u32 (0), V.bool false, V.bool false, V.int .i64 (0), V.bool false]) none, EOper.mk none (EOp.st 8 (Opd.t 8) (Opd.t 74)) none]
def m6_7 : List Bool := [false, false, false, false, false, false, false, false, true, false, false, false, false, false, false, false, false, false, false, false, false, false, false, false, false, false, false, false, false, false, false, false, false, false, false, false, false, false, false, false, false, false, false, false, false, false, false, false, false, false, false, false, false, false, false, false, false, false, false, false, false, false, false, false, false, false, false, false, false, false, false, false, false, false, true, false, false, false, false, false, false, false, false, false, false, false, false, false, false, false, false, false, false, false, false, false, false, false, false, false, false, false, false, false, false, false, false, false, false, false, false, false, false, false, false, false, false, false, false, false, false, false, false, false, false, false, false, false, false, false, false, false, false, false, false, false, false]
def b6_8 : EC := EC.ops false [EOper.mk (some 75) (EOp.fa 4 (Opd.t 8)) none, EOper.mk none (EOp.st 1 (Opd.t 75) (Opd.c (V.bool true))) none]
def m6_8 : List Bool := [false, false, false, false, false, false, false, false, false, false, false, false, false, false, false, false, false, false, false, false, false, false, false, false, false, false, false, false, false, false, false, false, false, false, false, false, false, false, false, false, false, false, false, false, false, false, false, false, false, false, false, false, false, false, false, false, false, false, false, false, false, false, false, false, false, false, false, false, false, false, false, false, false, false, false, true, false, false, false, false, false, false, false, false, false, false, false, false, false, false, false, false, false, false, false, false, false, false, false, false, false, false, false, false, false, false, false, false, false, false, false, false, false, false, false, false, false, false, false, false, false, false, false, false, false, false, false, false, false, false, false, false, false, false, false, false, false]
def b6_9 : EC := EC.ops false [EOper.mk (some 76) (EOp.fa 5 (Opd.t 8)) none, EOper.mk none (EOp.st 1 (Opd.t 76) (Opd.c (V.bool true))) none]
def m6_9 : List Bool := [false, false, false, false, false, false, false, false, false, false, false, false, false, false, false, false, false, false, false, false, false, false, false, false, false, false, false, false, false, false, false, false, false, false, false, false, false, false, false, false, false, false, false, false, false, false, false, false, false, false, false, false, false, false, false, false, false, false, false, false, false, false, false, false, false, false, false, false, false, false, false, false, false, false, false, false, true, false, false, false, false, false, false, false, false, false, false, false, false, false, false, false, false, false, false, false, false, false, false, false, false, false, false, false, false, false, false, false, false, false, false, false, false, false, false, false, false, false, false, false, false, false, false, false, false, false, false, false, false, false, false, false, false, false, false, false, false]
def b6_10 : EC := EC.seq (EC.ops false [EOper.mk (some 77) (EOp.ld true 8 (Opd.t 7)) none, EOper.mk (some 78) (EOp.ld true 5 (Opd.t 5)) none, EOper.mk (some 79) (EOp.call
  (Opd.f 15) [Opd.t 77, Opd.t 78]) none, EOper.mk (some 80) (EOp.mv (Opd.t 79)) none, EOper.mk (some 81) (EOp.ld true 8 (Opd.t 3)) (some (80, false)), EOper.mk (some 82)
  (EOp.ld true 5 (Opd.t 5)) (some (80, false)), EOper.mk (some 83) (EOp.call (Opd.f 14) [Opd.t 81, Opd.t 82]) (some (80, false)), EOper.mk (some 84) (EOp.mv (Opd.t 83))
  (some (80, false)), EOper.mk (some 85) (EOp.fa 0 (Opd.t 3)) (some (84, true)), EOper.mk (some 86) (EOp.ld false 1 (Opd.t 85)) (some (84, true)), EOper.mk (some 87)
  (EOp.pick (Opd.t 84) (Opd.t 86) (Opd.c (V.bool false))) (some (80, false)), EOper.mk (some 88) (EOp.mv (Opd.t 87)) (some (80, false)), EOper.mk (some 89) (EOp.ld true 8
  (Opd.t 8)) (some (88, true)), EOper.mk (some 90) (EOp.ld true 5 (Opd.t 5)) (some (88, true)), EOper.mk (some 91) (EOp.call (Opd.f 15) [Opd.t 89, Opd.t 90]) (some (88,
  true)), EOper.mk (some 92) (EOp.un .not (Opd.t 91)) (some (88, true)), EOper.mk (some 93) (EOp.pick (Opd.t 88) (Opd.t 92) (Opd.c (V.bool false))) (some (80, false)),
  EOper.mk (some 94) (EOp.pick (Opd.t 80) (Opd.c (V.bool true)) (Opd.t 93)) none]) (EC.cond (Opd.t 94) (EC.seq (EC.ops false [EOper.mk (some 6) (EOp.mv (Opd.c (V.bool
  false))) none]) EC.ret) EC.skip)
def m6_10 : List Bool := [false, false, false, false, false, false, true, false, false, false, false, false, false, false, false, false, false, false, false, false, false, false, false, false, false, false, false, false, false, false, false, false, false, false, false, false, false, false, false, false, false, false, false, false, false, false, false, false, false, false, false, false, false, false, false, false, false, false, false, false, false, false, false, false, false, false, false, false, false, false, false, false, false, false, false, false, false, true, true, true, true, true, true, true, true, true, true, true, true, true, true, true, true, true, true, false, false, false, false, false, false, false, false, false, false, false, false, false, false, false, false, false, false, false, false, false, false, false, false, false, false, false, false, false, false, false, false, false, false, false, false, false, false, false, false, false, false]
def b6_11 : EC := EC.ops false [EOper.mk (some 95) (EOp.ld true 8 (Opd.t 3)) none, EOper.mk (some 96) (EOp.call (Opd.f 12) [Opd.t 95]) none, EOper.mk (some 97) (EOp.mv
  (Opd.t 96)) none, EOper.mk (some 98) (EOp.ld true 8 (Opd.t 4)) (some (97, true)), EOper.mk (some 99) (EOp.call (Opd.f 12) [Opd.t 98]) (some (97, true)), EOper.mk (some
  100) (EOp.pick (Opd.t 97) (Opd.t 99) (Opd.c (V.bool false))) none, EOper.mk (some 101) (EOp.mv (Opd.t 100)) none, EOper.mk (some 102) (EOp.fa 0 (Opd.t 3)) (some (101,
  true)), EOper.mk (some 103) (EOp.ld false 1 (Opd.t 102)) (some (101, true)), EOper.mk (some 104) (EOp.pick (Opd.t 101) (Opd.t 103) (Opd.c (V.bool false))) none, EOper.mk
  (some 105) (EOp.mv (Opd.t 104)) none, EOper.mk (some 106) (EOp.fa 0 (Opd.t 4)) (some (105, true)), EOper.mk (some 107) (EOp.ld false 1 (Opd.t 106)) (some (105, true)),
  EOper.mk (some 108) (EOp.pick (Opd.t 105) (Opd.t 107) (Opd.c (V.bool false))) none, EOper.mk (some 9) (EOp.mv (Opd.t 108)) none]
def m6_11 : List Bool := [false, false, false, false, false, false, false, false, false, true, false, false, false, false, false, false, false, false, false, false, false, false, false, false, false, false, false, false, false, false, false, false, false, false, false, false, false, false, false, false, false, false, false, false, false, false, false, false, false, false, false, false, false, false, false, false, false, false, false, false, false, false, false, false, false, false, false, false, false, false, false, false, false, false, false, false, false, false, false, false, false, false, false, false, false, false, false, false, false, false, false, false, false, false, false, true, true, true, true, true, true, true, true, true, true, true, true, true, true, false, false, false, false, false, false, false, false, false, false, false, false, false, false, false, false, false, false, false, false, false, false, false, false, false, false, false, false]
def b6_12 : EC := EC.ops false [EOper.mk (some 109) (EOp.ld true 8 (Opd.t 3)) none, EOper.mk (some 110) (EOp.ld true 8 (Opd.t 4)) none, EOper.mk (some 111) (EOp.call
  (Opd.f 17) [Opd.t 109, Opd.t 110]) none, EOper.mk (some 112) (EOp.mv (Opd.t 111)) none, EOper.mk (some 113) (EOp.ld true 8 (Opd.t 4)) (some (112, false)), EOper.mk (some
  114) (EOp.ld true 8 (Opd.t 3)) (some (112, false)), EOper.mk (some 115) (EOp.call (Opd.f 17) [Opd.t 113, Opd.t 114]) (some (112, false)), EOper.mk (some 116) (EOp.pick
  (Opd.t 112) (Opd.c (V.bool true)) (Opd.t 115)) none, EOper.mk (some 117) (EOp.mv (Opd.t 9)) none, EOper.mk (some 118) (EOp.mv (Opd.t 117)) none, EOper.mk (some 119)
  (EOp.fa 6 (Opd.t 3)) (some (118, true)), EOper.mk (some 120) (EOp.ld false 1 (Opd.t 119)) (some (118, true)), EOper.mk (some 121) (EOp.fa 6 (Opd.t 4)) (some (118,
  true)), EOper.mk (some 122) (EOp.ld false 1 (Opd.t 121)) (some (118, true)), EOper.mk (some 123) (EOp.bin .neq (Opd.t 120) (Opd.t 122)) (some (118, true)), EOper.mk
  (some 124) (EOp.pick (Opd.t 118) (Opd.t 123) (Opd.c (V.bool false))) none, EOper.mk (some 125) (EOp.eqb false (Opd.t 116) (Opd.t 124)) none, EOper.mk (some 126) (EOp.mv
  (Opd.t 125)) none, EOper.mk (some 127) (EOp.ld true 8 (Opd.t 3)) (some (126, true)), EOper.mk (some 128) (EOp.ld true 8 (Opd.t 4)) (some (126, true)), EOper.mk (some
  129) (EOp.call (Opd.f 17) [Opd.t 127, Opd.t 128]) (some (126, true)), EOper.mk (some 130) (EOp.mv (Opd.t 129)) (some (126, true)), EOper.mk (some 131) (EOp.ld true 8
  (Opd.t 4)) (some (130, true)), EOper.mk (some 132) (EOp.ld true 8 (Opd.t 3)) (some (130, true)), EOper.mk (some 133) (EOp.call (Opd.f 17) [Opd.t 131, Opd.t 132]) (some
  (130, true)), EOper.mk (some 134) (EOp.pick (Opd.t 130) (Opd.t 133) (Opd.c (V.bool false))) (some (126, true)), EOper.mk (some 135) (EOp.un .not (Opd.t 134)) (some (126,
  true)), EOper.mk (some 136) (EOp.pick (Opd.t 126) (Opd.t 135) (Opd.c (V.bool false))) none, EOper.mk (some 6) (EOp.mv (Opd.t 136)) none]
def m6_12 : List Bool := [false, false, false, false, false, false, true, false, false, false, false, false, false, false, false, false, false, false, false, false, false, false, false, false, false, false, false, false, false, false, false, false, false, false, false, false, false, false, false, false, false, false, false, false, false, false, false, false, false, false, false, false, false, false, false, false, false, false, false, false, false, false, false, false, false, false, false, false, false, false, false, false, false, false, false, false, false, false, false, false, false, false, false, false, false, false, false, false, false, false, false, false, false, false, false, false, false, false, false, false, false, false, false, false, false, false, false, false, false, true, true, true, true, true, true, true, true, true, true, true, true, true, true, true, true, true, true, true, true, true, true, true, true, true, true, true, true]
def b6_13 : EC := EC.ret
def m6_13 : List Bool := [false, false, false, false, false, false, false, false, false, false, false, false, false, false, false, false, false, false, false, false, false, false, false, false, false, false, false, false, false, false, false, false, false, false, false, false, false, false, false, false, false, false, false, false, false, false, false, false, false, false, false, false, false, false, false, false, false, false, false, false, false, false, false, false, false, false, false, false, false, false, false, false, false, false, false, false, false, false, false, false, false, false, false, false, false, false, false, false, false, false, false, false, false, false, false, false, false, false, false, false, false, false, false, false, false, false, false, false, false, false, false, false, false, false, false, false, false, false, false, false, false, false, false, false, false, false, false, false, false, false, false, false, false, false, false, false, false]
def r6_13 : EC := b6_13
def r6_12 : EC := EC.seq b6_12 r6_13
def r6_11 : EC := EC.seq b6_11 r6_12
def r6_10 : EC := EC.seq b6_10 r6_11
def r6_9 : EC := EC.seq b6_9 r6_10
def r6_8 : EC := EC.seq b6_8 r6_9
def r6_7 : EC := EC.seq b6_7 r6_8
def r6_6 : EC := EC.seq b6_6 r6_7
def r6_5 : EC := EC.seq b6_5 r6_6
def r6_4 : EC := EC.seq b6_4 r6_5
def r6_3 : EC := EC.seq b6_3 r6_4
def r6_2 : EC := EC.seq b6_2 r6_3
def r6_1 : EC := EC.seq b6_1 r6_2
def r6_0 : EC := EC.seq b6_0 r6_1
def e6 : EFun := EFun.mk 137 [ERes.t 6] r6_0
theorem c6 : cFun Tryd.prog 1 (fun _ => false) Tryd.f6 = some e6 := by kernel_rfl
theorem x6 : Tryd.prog.funcs[6]? = some Tryd.f6 := by kernel_rfl
theorem n6 : (Tryd.f6.name == "runtime.NumGoroutine") = false := by kernel_rfl
/-! 7: septumlaw06.asks -/
def b7_0 : EC := EC.ops false [EOper.mk (some 3) (EOp.box true 26 (Opd.t 0)) none, EOper.mk (some 4) (EOp.box true 28 (Opd.t 1)) none, EOper.mk (some 5) (EOp.box true 26
  (Opd.t 2)) none, EOper.mk (some 6) (EOp.mv (Opd.c (V.bool false))) none]
def m7_0 : List Bool := [false, false, false, true, true, true, true, false, false, false, false, false, false, false, false, false, false, false, false, false, false, false, false, false, false, false, false, false, false, false, false, false, false, false, false, false, false, false, false, false, false, false, false, false, false, false, false, false]
def b7_1 : EC := EC.ops true [EOper.mk (some 7) (EOp.ld true 8 (Opd.t 3)) none, EOper.mk (some 8) (EOp.call (Opd.f 12) [Opd.t 7]) none, EOper.mk (some 9) (EOp.ld true 8
  (Opd.t 3)) none, EOper.mk (some 10) (EOp.call (Opd.f 18) [Opd.t 9]) none, EOper.mk (some 11) (EOp.eqb false (Opd.t 8) (Opd.t 10)) none, EOper.mk (some 12) (EOp.mv (Opd.t
  11)) none, EOper.mk (some 13) (EOp.ld true 8 (Opd.t 3)) (some (12, true)), EOper.mk (some 14) (EOp.ld true 5 (Opd.t 4)) (some (12, true)), EOper.mk (some 15) (EOp.call
  (Opd.f 14) [Opd.t 13, Opd.t 14]) (some (12, true)), EOper.mk (some 16) (EOp.ld true 8 (Opd.t 3)) (some (12, true)), EOper.mk (some 17) (EOp.ld true 5 (Opd.t 4)) (some
  (12, true)), EOper.mk (some 18) (EOp.call (Opd.f 19) [Opd.t 16, Opd.t 17]) (some (12, true)), EOper.mk (some 19) (EOp.eqb false (Opd.t 15) (Opd.t 18)) (some (12, true)),
  EOper.mk (some 20) (EOp.pick (Opd.t 12) (Opd.t 19) (Opd.c (V.bool false))) none, EOper.mk (some 21) (EOp.mv (Opd.t 20)) none, EOper.mk (some 22) (EOp.ld true 8 (Opd.t
  3)) (some (21, true)), EOper.mk (some 23) (EOp.ld true 5 (Opd.t 4)) (some (21, true)), EOper.mk (some 24) (EOp.call (Opd.f 15) [Opd.t 22, Opd.t 23]) (some (21, true)),
  EOper.mk (some 25) (EOp.ld true 8 (Opd.t 3)) (some (21, true)), EOper.mk (some 26) (EOp.ld true 5 (Opd.t 4)) (some (21, true)), EOper.mk (some 27) (EOp.call (Opd.f 20)
  [Opd.t 25, Opd.t 26]) (some (21, true)), EOper.mk (some 28) (EOp.eqb false (Opd.t 24) (Opd.t 27)) (some (21, true)), EOper.mk (some 29) (EOp.pick (Opd.t 21) (Opd.t 28)
  (Opd.c (V.bool false))) none, EOper.mk (some 30) (EOp.mv (Opd.t 29)) none, EOper.mk (some 31) (EOp.ld true 8 (Opd.t 3)) (some (30, true)), EOper.mk (some 32) (EOp.ld
  true 8 (Opd.t 5)) (some (30, true)), EOper.mk (some 33) (EOp.call (Opd.f 11) [Opd.t 31, Opd.t 32]) (some (30, true)), EOper.mk (some 34) (EOp.ld true 8 (Opd.t 3)) (some
  (30, true)), EOper.mk (some 35) (EOp.ld true 8 (Opd.t 5)) (some (30, true)), EOper.mk (some 36) (EOp.call (Opd.f 21) [Opd.t 34, Opd.t 35]) (some (30, true)), EOper.mk
  (some 37) (EOp.eqb false (Opd.t 33) (Opd.t 36)) (some (30, true)), EOper.mk (some 38) (EOp.pick (Opd.t 30) (Opd.t 37) (Opd.c (V.bool false))) none, EOper.mk (some 39)
  (EOp.mv (Opd.t 38)) none, EOper.mk (some 40) (EOp.ld true 8 (Opd.t 3)) (some (39, true)), EOper.mk (some 41) (EOp.ld true 8 (Opd.t 5)) (some (39, true)), EOper.mk (some
  42) (EOp.call (Opd.f 17) [Opd.t 40, Opd.t 41]) (some (39, true)), EOper.mk (some 43) (EOp.ld true 8 (Opd.t 3)) (some (39, true)), EOper.mk (some 44) (EOp.ld true 8
  (Opd.t 5)) (some (39, true)), EOper.mk (some 45) (EOp.call (Opd.f 22) [Opd.t 43, Opd.t 44]) (some (39, true)), EOper.mk (some 46) (EOp.eqb false (Opd.t 42) (Opd.t 45))
  (some (39, true)), EOper.mk (some 47) (EOp.pick (Opd.t 39) (Opd.t 46) (Opd.c (V.bool false))) none, EOper.mk (some 6) (EOp.mv (Opd.t 47)) none]
def m7_1 : List Bool := [false, false, false, false, false, false, true, true, true, true, true, true, true, true, true, true, true, true, true, true, true, true, true, true, true, true, true, true, true, true, true, true, true, true, true, true, true, true, true, true, true, true, true, true, true, true, true, true]
def b7_2 : EC := EC.ret
def m7_2 : List Bool := [false, false, false, false, false, false, false, false, false, false, false, false, false, false, false, false, false, false, false, false, false, false, false, false, false, false, false, false, false, false, false, false, false, false, false, false, false, false, false, false, false, false, false, false, false, false, false, false]
def r7_2 : EC := b7_2
def r7_1 : EC := EC.seq b7_1 r7_2
def r7_0 : EC := EC.seq b7_0 r7_1
def e7 : EFun := EFun.mk 48 [ERes.t 6] r7_0
theorem c7 : cFun Tryd.prog 1 (fun _ => false) Tryd.f7 = some e7 := by kernel_rfl
theorem x7 : Tryd.prog.funcs[7]? = some Tryd.f7 := by kernel_rfl
theorem n7 : (Tryd.f7.name == "runtime.NumGoroutine") = false := by kernel_rfl
/-! 8: septumlaw06.awake -/
def b8_0 : EC := EC.ops false [EOper.mk (some 0) (EOp.mv (Opd.c (V.bool false))) none]
def m8_0 : List Bool := [true, false, false, false, false, false, false, false, false, false, false, false, false, false, false, false, false, false, false, false, false, false, false, false, false, false, false, false, false, false, false, false, false, false, false, false, false, false, false, false, false, false, false, false, false, false, false, false, false, false, false, false, false, false]
def b8_1 : EC := EC.ops false [EOper.mk (some 5) (EOp.call (Opd.f 10) []) none, EOper.mk (some 1) (EOp.alloc true 26 [V.bool false, V.int .i64 (0), V.int .u32 (0), V.int
  .u32 (0), V.bool false, V.bool false, V.int .i64 (0), V.bool false]) none, EOper.mk none (EOp.st 8 (Opd.t 1) (Opd.t 5)) none]
def m8_1 : List Bool := [false, true, false, false, false, true, false, false, false, false, false, false, false, false, false, false, false, false, false, false, false, false, false, false, false, false, false, false, false, false, false, false, false, false, false, false, false, false, false, false, false, false, false, false, false, false, false, false, false, false, false, false, false, false]
def b8_2 : EC := EC.ops false [EOper.mk (some 6) (EOp.build [V.int .i64 (0), V.bool false, V.int .u32 (0), V.int .i64 (0), V.int .u32 (0)] [(0, 1, Opd.c (V.int .i64 (1))),
  (2, 1, Opd.c (V.int .u32 (508))), (3, 1, Opd.c (V.int .i64 (4)))]) none, EOper.mk (some 2) (EOp.alloc true 28 [V.int .i64 (0), V.bool false, V.int .u32 (0), V.int .i64
  (0), V.int .u32 (0)]) none, EOper.mk none (EOp.st 5 (Opd.t 2) (Opd.t 6)) none]
def m8_2 : List Bool := [false, false, true, false, false, false, true, false, false, false, false, false, false, false, false, false, false, false, false, false, false, false, false, false, false, false, false, false, false, false, false, false, false, false, false, false, false, false, false, false, false, false, false, false, false, false, false, false, false, false, false, false, false, false]
def b8_3 : EC := EC.ops false [EOper.mk (some 7) (EOp.ld true 5 (Opd.t 2)) none, EOper.mk (some 3) (EOp.alloc true 28 [V.int .i64 (0), V.bool false, V.int .u32 (0), V.int
  .i64 (0), V.int .u32 (0)]) none, EOper.mk none (EOp.st 5 (Opd.t 3) (Opd.t 7)) none]
def m8_3 : List Bool := [false, false, false, true, false, false, false, true, false, false, false, false, false, false, false, false, false, false, false, false, false, false, false, false, false, false, false, false, false, false, false, false, false, false, false, false, false, false, false, false, false, false, false, false, false, false, false, false, false, false, false, false, false, false]
def b8_4 : EC := EC.ops false [EOper.mk (some 8) (EOp.fa 1 (Opd.t 3)) none, EOper.mk none (EOp.st 1 (Opd.t 8) (Opd.c (V.bool true))) none]
def m8_4 : List Bool := [false, false, false, false, false, false, false, false, true, false, false, false, false, false, false, false, false, false, false, false, false, false, false, false, false, false, false, false, false, false, false, false, false, false, false, false, false, false, false, false, false, false, false, false, false, false, false, false, false, false, false, false, false, false]
def b8_5 : EC := EC.ops false [EOper.mk (some 9) (EOp.build [V.int .u32 (0), V.int .u32 (0)] [(0, 1, Opd.c (V.int .u32 (511))), (1, 1, Opd.c (V.int .u32 (767)))]) none,
  EOper.mk (some 10) (EOp.build [V.bool false, V.int .i64 (0), V.int .u32 (0), V.int .u32 (0), V.bool false, V.bool false, V.int .i64 (0), V.bool false] [(0, 1, Opd.c
  (V.bool true)), (1, 1, Opd.c (V.int .i64 (2))), (2, 2, Opd.t 9)]) none, EOper.mk (some 4) (EOp.alloc true 26 [V.bool false, V.int .i64 (0), V.int .u32 (0), V.int .u32
  (0), V.bool false, V.bool false, V.int .i64 (0), V.bool false]) none, EOper.mk none (EOp.st 8 (Opd.t 4) (Opd.t 10)) none]
def m8_5 : List Bool := [false, false, false, false, true, false, false, false, false, true, true, false, false, false, false, false, false, false, false, false, false, false, false, false, false, false, false, false, false, false, false, false, false, false, false, false, false, false, false, false, false, false, false, false, false, false, false, false, false, false, false, false, false, false]
def b8_6 : EC := EC.ops false [EOper.mk (some 11) (EOp.ld true 8 (Opd.t 1)) none, EOper.mk (some 12) (EOp.call (Opd.f 12) [Opd.t 11]) none, EOper.mk (some 13) (EOp.mv
  (Opd.t 12)) none, EOper.mk (some 14) (EOp.ld true 8 (Opd.t 1)) (some (13, true)), EOper.mk (some 15) (EOp.ld true 5 (Opd.t 2)) (some (13, true)), EOper.mk (some 16)
  (EOp.call (Opd.f 14) [Opd.t 14, Opd.t 15]) (some (13, true)), EOper.mk (some 17) (EOp.pick (Opd.t 13) (Opd.t 16) (Opd.c (V.bool false))) none, EOper.mk (some 18) (EOp.mv
  (Opd.t 17)) none, EOper.mk (some 19) (EOp.ld true 8 (Opd.t 1)) (some (18, true)), EOper.mk (some 20) (EOp.ld true 5 (Opd.t 2)) (some (18, true)), EOper.mk (some 21)
  (EOp.call (Opd.f 15) [Opd.t 19, Opd.t 20]) (some (18, true)), EOper.mk (some 22) (EOp.pick (Opd.t 18) (Opd.t 21) (Opd.c (V.bool false))) none, EOper.mk (some 23) (EOp.mv
  (Opd.t 22)) none, EOper.mk (some 24) (EOp.ld true 8 (Opd.t 1)) (some (23, true)), EOper.mk (some 25) (EOp.ld true 5 (Opd.t 3)) (some (23, true)), EOper.mk (some 26)
  (EOp.call (Opd.f 14) [Opd.t 24, Opd.t 25]) (some (23, true)), EOper.mk (some 27) (EOp.pick (Opd.t 23) (Opd.t 26) (Opd.c (V.bool false))) none, EOper.mk (some 28) (EOp.mv
  (Opd.t 27)) none, EOper.mk (some 29) (EOp.ld true 8 (Opd.t 1)) (some (28, true)), EOper.mk (some 30) (EOp.ld true 5 (Opd.t 3)) (some (28, true)), EOper.mk (some 31)
  (EOp.call (Opd.f 15) [Opd.t 29, Opd.t 30]) (some (28, true)), EOper.mk (some 32) (EOp.un .not (Opd.t 31)) (some (28, true)), EOper.mk (some 33) (EOp.pick (Opd.t 28)
  (Opd.t 32) (Opd.c (V.bool false))) none, EOper.mk (some 34) (EOp.mv (Opd.t 33)) none, EOper.mk (some 35) (EOp.ld true 8 (Opd.t 1)) (some (34, true)), EOper.mk (some 36)
  (EOp.build [V.int .i64 (0), V.bool false, V.int .u32 (0), V.int .i64 (0), V.int .u32 (0)] [(0, 1, Opd.c (V.int .i64 (1))), (2, 1, Opd.c (V.int .u32 (510))), (3, 1, Opd.c
  (V.int .i64 (4)))]) (some (34, true)), EOper.mk (some 37) (EOp.call (Opd.f 14) [Opd.t 35, Opd.t 36]) (some (34, true)), EOper.mk (some 38) (EOp.un .not (Opd.t 37)) (some
  (34, true)), EOper.mk (some 39) (EOp.pick (Opd.t 34) (Opd.t 38) (Opd.c (V.bool false))) none, EOper.mk (some 40) (EOp.mv (Opd.t 39)) none, EOper.mk (some 41) (EOp.ld
  true 8 (Opd.t 1)) (some (40, true)), EOper.mk (some 42) (EOp.build [V.int .i64 (0), V.bool false, V.int .u32 (0), V.int .i64 (0), V.int .u32 (0)] [(0, 1, Opd.c (V.int
  .i64 (1))), (2, 1, Opd.c (V.int .u32 (510))), (3, 1, Opd.c (V.int .i64 (2)))]) (some (40, true)), EOper.mk (some 43) (EOp.call (Opd.f 15) [Opd.t 41, Opd.t 42]) (some
  (40, true)), EOper.mk (some 44) (EOp.pick (Opd.t 40) (Opd.t 43) (Opd.c (V.bool false))) none, EOper.mk (some 45) (EOp.mv (Opd.t 44)) none, EOper.mk (some 46) (EOp.ld
  true 8 (Opd.t 1)) (some (45, true)), EOper.mk (some 47) (EOp.ld true 8 (Opd.t 4)) (some (45, true)), EOper.mk (some 48) (EOp.call (Opd.f 11) [Opd.t 46, Opd.t 47]) (some
  (45, true)), EOper.mk (some 49) (EOp.pick (Opd.t 45) (Opd.t 48) (Opd.c (V.bool false))) none, EOper.mk (some 50) (EOp.mv (Opd.t 49)) none, EOper.mk (some 51) (EOp.build
  [V.bool false, V.int .i64 (0), V.int .u32 (0), V.int .u32 (0), V.bool false, V.bool false, V.int .i64 (0), V.bool false] []) (some (50, true)), EOper.mk (some 52)
  (EOp.call (Opd.f 12) [Opd.t 51]) (some (50, true)), EOper.mk (some 53) (EOp.pick (Opd.t 50) (Opd.t 52) (Opd.c (V.bool false))) none, EOper.mk (some 0) (EOp.mv (Opd.t
  53)) none]
def m8_6 : List Bool := [true, false, false, false, false, false, false, false, false, false, false, true, true, true, true, true, true, true, true, true, true, true, true, true, true, true, true, true, true, true, true, true, true, true, true, true, true, true, true, true, true, true, true, true, true, true, true, true, true, true, true, true, true, true]
def b8_7 : EC := EC.ret
def m8_7 : List Bool := [false, false, false, false, false, false, false, false, false, false, false, false, false, false, false, false, false, false, false, false, false, false, false, false, false, false, false, false, false, false, false, false, false, false, false, false, false, false, false, false, false, false, false, false, false, false, false, false, false, false, false, false, false, false]
def r8_7 : EC := b8_7
def r8_6 : EC := EC.seq b8_6 r8_7
def r8_5 : EC := EC.seq b8_5 r8_6
def r8_4 : EC := EC.seq b8_4 r8_5
def r8_3 : EC := EC.seq b8_3 r8_4
def r8_2 : EC := EC.seq b8_2 r8_3
def r8_1 : EC := EC.seq b8_1 r8_2
def r8_0 : EC := EC.seq b8_0 r8_1
def e8 : EFun := EFun.mk 54 [ERes.t 0] r8_0
theorem c8 : cFun Tryd.prog 1 (fun _ => false) Tryd.f8 = some e8 := by kernel_rfl
theorem x8 : Tryd.prog.funcs[8]? = some Tryd.f8 := by kernel_rfl
theorem n8 : (Tryd.f8.name == "runtime.NumGoroutine") = false := by kernel_rfl
/-! 9: septumlaw06.turned -/
def b9_0 : EC := EC.ops false [EOper.mk (some 4) (EOp.alloc true 26 [V.bool false, V.int .i64 (0), V.int .u32 (0), V.int .u32 (0), V.bool false, V.bool false, V.int .i64
  (0), V.bool false]) none]
def m9_0 : List Bool := [false, false, false, false, true, false, false, false, false, false, false, false, false, false, false, false, false, false, false, false, false, false, false, false, false, false, false, false, false, false, false, false, false, false, false, false, false, false, false, false, false, false, false, false, false, false, false, false, false, false, false, false, false, false, false, false, false, false]
def b9_1 : EC := EC.ops false [EOper.mk (some 6) (EOp.call (Opd.f 10) []) none, EOper.mk (some 5) (EOp.alloc true 26 [V.bool false, V.int .i64 (0), V.int .u32 (0), V.int
  .u32 (0), V.bool false, V.bool false, V.int .i64 (0), V.bool false]) none, EOper.mk none (EOp.st 8 (Opd.t 5) (Opd.t 6)) none]
def m9_1 : List Bool := [false, false, false, false, false, true, true, false, false, false, false, false, false, false, false, false, false, false, false, false, false, false, false, false, false, false, false, false, false, false, false, false, false, false, false, false, false, false, false, false, false, false, false, false, false, false, false, false, false, false, false, false, false, false, false, false, false, false]
def b9_2 : EC := EC.seq (EC.ops false [EOper.mk (some 7) (EOp.mv (Opd.t 0)) none]) (EC.block 0 (EC.seq (EC.ops false [EOper.mk (some 13) (EOp.bin .eql (Opd.t 7) (Opd.c
  (V.int .i64 (0)))) none, EOper.mk (some 12) (EOp.mv (Opd.t 13)) none]) (EC.cond (Opd.t 12) (EC.ops false [EOper.mk (some 14) (EOp.fa 0 (Opd.t 5)) none, EOper.mk none
  (EOp.st 1 (Opd.t 14) (Opd.c (V.bool false))) none]) (EC.seq (EC.ops false [EOper.mk (some 16) (EOp.bin .eql (Opd.t 7) (Opd.c (V.int .i64 (1)))) none, EOper.mk (some 15)
  (EOp.mv (Opd.t 16)) none]) (EC.cond (Opd.t 15) (EC.ops false [EOper.mk (some 17) (EOp.mv (Opd.t 1)) none, EOper.mk (some 18) (EOp.bin .sub (Opd.t 17) (Opd.c (V.int .i64
  (2)))) none, EOper.mk (some 19) (EOp.fa 1 (Opd.t 5)) none, EOper.mk none (EOp.st 1 (Opd.t 19) (Opd.t 18)) none]) (EC.seq (EC.ops false [EOper.mk (some 21) (EOp.bin .eql
  (Opd.t 7) (Opd.c (V.int .i64 (2)))) none, EOper.mk (some 20) (EOp.mv (Opd.t 21)) none]) (EC.cond (Opd.t 20) (EC.ops false [EOper.mk (some 22) (EOp.mv (Opd.t 1)) none,
  EOper.mk (some 23) (EOp.conv .u32 (Opd.t 22)) none, EOper.mk (some 24) (EOp.bin .mul (Opd.t 23) (Opd.c (V.int .u32 (64)))) none, EOper.mk (some 25) (EOp.fa 2 (Opd.t 5))
  none, EOper.mk (some 26) (EOp.fa 0 (Opd.t 25)) none, EOper.mk none (EOp.st 1 (Opd.t 26) (Opd.t 24)) none]) (EC.seq (EC.ops false [EOper.mk (some 28) (EOp.bin .eql (Opd.t
  7) (Opd.c (V.int .i64 (3)))) none, EOper.mk (some 27) (EOp.mv (Opd.t 28)) none]) (EC.cond (Opd.t 27) (EC.ops false [EOper.mk (some 29) (EOp.mv (Opd.t 1)) none, EOper.mk
  (some 30) (EOp.conv .u32 (Opd.t 29)) none, EOper.mk (some 31) (EOp.bin .mul (Opd.t 30) (Opd.c (V.int .u32 (64)))) none, EOper.mk (some 32) (EOp.fa 2 (Opd.t 5)) none,
  EOper.mk (some 33) (EOp.fa 1 (Opd.t 32)) none, EOper.mk none (EOp.st 1 (Opd.t 33) (Opd.t 31)) none]) (EC.seq (EC.ops false [EOper.mk (some 35) (EOp.bin .eql (Opd.t 7)
  (Opd.c (V.int .i64 (4)))) none, EOper.mk (some 34) (EOp.mv (Opd.t 35)) none]) (EC.cond (Opd.t 34) (EC.ops false [EOper.mk (some 36) (EOp.fa 4 (Opd.t 5)) none, EOper.mk
  none (EOp.st 1 (Opd.t 36) (Opd.c (V.bool false))) none]) (EC.seq (EC.ops false [EOper.mk (some 38) (EOp.bin .eql (Opd.t 7) (Opd.c (V.int .i64 (5)))) none, EOper.mk (some
  37) (EOp.mv (Opd.t 38)) none]) (EC.cond (Opd.t 37) (EC.ops false [EOper.mk (some 39) (EOp.mv (Opd.t 1)) none, EOper.mk (some 40) (EOp.bin .rem (Opd.t 39) (Opd.c (V.int
  .i64 (2)))) none, EOper.mk (some 41) (EOp.bin .eql (Opd.t 40) (Opd.c (V.int .i64 (0)))) none, EOper.mk (some 42) (EOp.fa 5 (Opd.t 5)) none, EOper.mk none (EOp.st 1
  (Opd.t 42) (Opd.t 41)) none]) (EC.seq (EC.ops false [EOper.mk (some 44) (EOp.bin .eql (Opd.t 7) (Opd.c (V.int .i64 (6)))) none, EOper.mk (some 43) (EOp.mv (Opd.t 44))
  none]) (EC.cond (Opd.t 43) (EC.ops false [EOper.mk (some 45) (EOp.mv (Opd.t 1)) none, EOper.mk (some 46) (EOp.bin .mul (Opd.t 45) (Opd.c (V.int .i64 (32)))) none,
  EOper.mk (some 47) (EOp.bin .sub (Opd.t 46) (Opd.c (V.int .i64 (32)))) none, EOper.mk (some 48) (EOp.fa 6 (Opd.t 5)) none, EOper.mk none (EOp.st 1 (Opd.t 48) (Opd.t 47))
  none]) (EC.seq (EC.ops false [EOper.mk (some 50) (EOp.bin .eql (Opd.t 7) (Opd.c (V.int .i64 (7)))) none, EOper.mk (some 49) (EOp.mv (Opd.t 50)) none]) (EC.cond (Opd.t
  49) (EC.ops false [EOper.mk (some 51) (EOp.fa 7 (Opd.t 5)) none, EOper.mk none (EOp.st 1 (Opd.t 51) (Opd.c (V.bool true))) none]) (EC.seq (EC.ops false [EOper.mk (some
  53) (EOp.bin .eql (Opd.t 7) (Opd.c (V.int .i64 (8)))) none, EOper.mk (some 52) (EOp.mv (Opd.t 53)) none]) (EC.cond (Opd.t 52) (EC.ops false [EOper.mk (some 54) (EOp.mv
  (Opd.t 1)) none, EOper.mk (some 55) (EOp.mv (Opd.t 1)) none, EOper.mk (some 56) (EOp.build [V.bool false, V.int .i64 (0), V.int .u32 (0), V.int .u32 (0), V.bool false,
  V.bool false, V.int .i64 (0), V.bool false] [(1, 1, Opd.t 54), (6, 1, Opd.t 55)]) none, EOper.mk none (EOp.st 8 (Opd.t 5) (Opd.t 56)) none]) (EC.ops false [EOper.mk
  (some 8) (EOp.mv (Opd.t 1)) none, EOper.mk (some 9) (EOp.bin .rem (Opd.t 8) (Opd.c (V.int .i64 (3)))) none, EOper.mk (some 10) (EOp.bin .sub (Opd.c (V.int .i64 (256)))
  (Opd.t 9)) none, EOper.mk (some 11) (EOp.fa 6 (Opd.t 5)) none, EOper.mk none (EOp.st 1 (Opd.t 11) (Opd.t 10)) none]))))))))))))))))))))
def m9_2 : List Bool := [false, false, false, false, false, false, false, true, true, true, true, true, true, true, true, true, true, true, true, true, true, true, true, true, true, true, true, true, true, true, true, true, true, true, true, true, true, true, true, true, true, true, true, true, true, true, true, true, true, true, true, true, true, true, true, true, true, false]
def b9_3 : EC := EC.ops false [EOper.mk (some 57) (EOp.ld true 8 (Opd.t 5)) none, EOper.mk none (EOp.st 8 (Opd.t 4) (Opd.t 57)) none]
def m9_3 : List Bool := [false, false, false, false, false, false, false, false, false, false, false, false, false, false, false, false, false, false, false, false, false, false, false, false, false, false, false, false, false, false, false, false, false, false, false, false, false, false, false, false, false, false, false, false, false, false, false, false, false, false, false, false, false, false, false, false, false, true]
def b9_4 : EC := EC.ret
def m9_4 : List Bool := [false, false, false, false, false, false, false, false, false, false, false, false, false, false, false, false, false, false, false, false, false, false, false, false, false, false, false, false, false, false, false, false, false, false, false, false, false, false, false, false, false, false, false, false, false, false, false, false, false, false, false, false, false, false, false, false, false, false]
def r9_4 : EC := b9_4
def r9_3 : EC := EC.seq b9_3 r9_4
def r9_2 : EC := EC.seq b9_2 r9_3
def r9_1 : EC := EC.seq b9_1 r9_2
def r9_0 : EC := EC.seq b9_0 r9_1
def e9 : EFun := EFun.mk 58 [ERes.c 4 8] r9_0
theorem c9 : cFun Tryd.prog 1 (fun _ => false) Tryd.f9 = some e9 := by kernel_rfl
theorem x9 : Tryd.prog.funcs[9]? = some Tryd.f9 := by kernel_rfl
theorem n9 : (Tryd.f9.name == "runtime.NumGoroutine") = false := by kernel_rfl
/-! 10: septumlaw06.example -/
def b10_0 : EC := EC.ops false [EOper.mk (some 0) (EOp.alloc true 26 [V.bool false, V.int .i64 (0), V.int .u32 (0), V.int .u32 (0), V.bool false, V.bool false, V.int .i64
  (0), V.bool false]) none]
def m10_0 : List Bool := [true, false, false]
def b10_1 : EC := EC.ops false [EOper.mk (some 1) (EOp.build [V.int .u32 (0), V.int .u32 (0)] [(0, 1, Opd.c (V.int .u32 (256))), (1, 1, Opd.c (V.int .u32 (511)))]) none,
  EOper.mk (some 2) (EOp.build [V.bool false, V.int .i64 (0), V.int .u32 (0), V.int .u32 (0), V.bool false, V.bool false, V.int .i64 (0), V.bool false] [(0, 1, Opd.c
  (V.bool true)), (1, 1, Opd.c (V.int .i64 (1))), (2, 2, Opd.t 1), (4, 1, Opd.c (V.bool true)), (6, 1, Opd.c (V.int .i64 (3)))]) none, EOper.mk none (EOp.st 8 (Opd.t 0)
  (Opd.t 2)) none]
def m10_1 : List Bool := [false, true, true]
def b10_2 : EC := EC.ret
def m10_2 : List Bool := [false, false, false]
def r10_2 : EC := b10_2
def r10_1 : EC := EC.seq b10_1 r10_2
def r10_0 : EC := EC.seq b10_0 r10_1
def e10 : EFun := EFun.mk 3 [ERes.c 0 8] r10_0
theorem c10 : cFun Tryd.prog 1 (fun _ => false) Tryd.f10 = some e10 := by kernel_rfl
theorem x10 : Tryd.prog.funcs[10]? = some Tryd.f10 := by kernel_rfl
theorem n10 : (Tryd.f10.name == "runtime.NumGoroutine") = false := by kernel_rfl
/-! 11: region.Clash -/
def b11_0 : EC := EC.ops false [EOper.mk (some 2) (EOp.box true 26 (Opd.t 0)) none, EOper.mk (some 3) (EOp.box true 26 (Opd.t 1)) none, EOper.mk (some 4) (EOp.mv (Opd.c
  (V.bool false))) none]
def m11_0 : List Bool := [false, false, true, true, true, false, false, false, false, false, false, false, false, false, false, false, false, false, false, false, false, false, false, false]
def b11_1 : EC := EC.ops false [EOper.mk (some 5) (EOp.ld true 8 (Opd.t 2)) none, EOper.mk (some 6) (EOp.ld true 8 (Opd.t 3)) none, EOper.mk (some 7) (EOp.call (Opd.f 23)
  [Opd.t 5, Opd.t 6]) none, EOper.mk (some 8) (EOp.mv (Opd.t 7)) none, EOper.mk (some 9) (EOp.fa 1 (Opd.t 2)) (some (8, true)), EOper.mk (some 10) (EOp.ld false 1 (Opd.t
  9)) (some (8, true)), EOper.mk (some 11) (EOp.fa 1 (Opd.t 3)) (some (8, true)), EOper.mk (some 12) (EOp.ld false 1 (Opd.t 11)) (some (8, true)), EOper.mk (some 13)
  (EOp.bin .neq (Opd.t 10) (Opd.t 12)) (some (8, true)), EOper.mk (some 14) (EOp.pick (Opd.t 8) (Opd.t 13) (Opd.c (V.bool false))) none, EOper.mk (some 15) (EOp.mv (Opd.t
  14)) none, EOper.mk (some 16) (EOp.fa 2 (Opd.t 2)) (some (15, true)), EOper.mk (some 17) (EOp.ld true 2 (Opd.t 16)) (some (15, true)), EOper.mk (some 18) (EOp.fa 2
  (Opd.t 3)) (some (15, true)), EOper.mk (some 19) (EOp.ld true 2 (Opd.t 18)) (some (15, true)), EOper.mk (some 20) (EOp.bslice 24 2 [V.int .u32 (0), V.int .u32 (0), V.int
  .u32 (0), V.int .u32 (0)] [(0, 2, Opd.t 17), (2, 2, Opd.t 19)]) (some (15, true)), EOper.mk (some 21) (EOp.call (Opd.f 24) [Opd.t 20]) (some (15, true)), EOper.mk (some
  22) (EOp.un .not (Opd.t 21)) (some (15, true)), EOper.mk (some 23) (EOp.pick (Opd.t 15) (Opd.t 22) (Opd.c (V.bool false))) none, EOper.mk (some 4) (EOp.mv (Opd.t 23))
  none]
def m11_1 : List Bool := [false, false, false, false, true, true, true, true, true, true, true, true, true, true, true, true, true, true, true, true, true, true, true, true]
def b11_2 : EC := EC.ret
def m11_2 : List Bool := [false, false, false, false, false, false, false, false, false, false, false, false, false, false, false, false, false, false, false, false, false, false, false, false]
def r11_2 : EC := b11_2
def r11_1 : EC := EC.seq b11_1 r11_2
def r11_0 : EC := EC.seq b11_0 r11_1
def e11 : EFun := EFun.mk 24 [ERes.t 4] r11_0
theorem c11 : cFun Tryd.prog 1 (fun _ => false) Tryd.f11 = some e11 := by kernel_rfl
theorem x11 : Tryd.prog.funcs[11]? = some Tryd.f11 := by kernel_rfl
theorem n11 : (Tryd.f11.name == "runtime.NumGoroutine") = false := by kernel_rfl
/-! 12: region.Right -/
def b12_0 : EC := EC.ops false [EOper.mk (some 1) (EOp.box true 26 (Opd.t 0)) none, EOper.mk (some 2) (EOp.mv (Opd.c (V.bool false))) none]
def m12_0 : List Bool := [false, true, true, false, false, false, false, false, false, false, false]
def b12_1 : EC := EC.ops false [EOper.mk (some 3) (EOp.ld true 8 (Opd.t 1)) none, EOper.mk (some 4) (EOp.build [V.bool false, V.int .i64 (0), V.int .u32 (0), V.int .u32
  (0), V.bool false, V.bool false, V.int .i64 (0), V.bool false] []) none, EOper.mk (some 5) (EOp.cmp false [false, true, true, true, false, false, true, false] (Opd.t 3)
  (Opd.t 4)) none, EOper.mk (some 6) (EOp.mv (Opd.t 5)) none, EOper.mk (some 7) (EOp.ld true 8 (Opd.t 1)) (some (6, false)), EOper.mk (some 8) (EOp.build [V.bool false,
  V.int .i64 (0), V.int .u32 (0), V.int .u32 (0), V.bool false, V.bool false, V.int .i64 (0), V.bool false] [(0, 8, Opd.t 7)]) (some (6, false)), EOper.mk (some 9)
  (EOp.call (Opd.f 25) [Opd.t 8]) (some (6, false)), EOper.mk (some 10) (EOp.pick (Opd.t 6) (Opd.c (V.bool true)) (Opd.t 9)) none, EOper.mk (some 2) (EOp.mv (Opd.t 10))
  none]
def m12_1 : List Bool := [false, false, true, true, true, true, true, true, true, true, true]
def b12_2 : EC := EC.ret
def m12_2 : List Bool := [false, false, false, false, false, false, false, false, false, false, false]
def r12_2 : EC := b12_2
def r12_1 : EC := EC.seq b12_1 r12_2
def r12_0 : EC := EC.seq b12_0 r12_1
def e12 : EFun := EFun.mk 11 [ERes.t 2] r12_0
theorem c12 : cFun Tryd.prog 1 (fun _ => false) Tryd.f12 = some e12 := by kernel_rfl
theorem x12 : Tryd.prog.funcs[12]? = some Tryd.f12 := by kernel_rfl
theorem n12 : (Tryd.f12.name == "runtime.NumGoroutine") = false := by kernel_rfl
/-! 13: reach.Has -/
def b13_0 : EC := EC.ops false [EOper.mk (some 2) (EOp.box true 24 (Opd.t 0)) none, EOper.mk (some 4) (EOp.mv (Opd.c (V.bool false))) none]
def m13_0 : List Bool := [false, false, true, false, true, false, false, false, false]
def b13_1 : EC := EC.ops false [EOper.mk (some 5) (EOp.ld true 2 (Opd.t 2)) none, EOper.mk (some 6) (EOp.build [V.int .u32 (0), V.int .u32 (0)] [(0, 2, Opd.t 5)]) none,
  EOper.mk (some 7) (EOp.mv (Opd.t 1)) none, EOper.mk (some 8) (EOp.call (Opd.f 26) [Opd.t 6, Opd.t 7]) none, EOper.mk (some 4) (EOp.mv (Opd.t 8)) none]
def m13_1 : List Bool := [false, false, false, false, true, true, true, true, true]
def b13_2 : EC := EC.ret
def m13_2 : List Bool := [false, false, false, false, false, false, false, false, false]
def r13_2 : EC := b13_2
def r13_1 : EC := EC.seq b13_1 r13_2
def r13_0 : EC := EC.seq b13_0 r13_1
def e13 : EFun := EFun.mk 9 [ERes.t 4] r13_0
theorem c13 : cFun Tryd.prog 1 (fun _ => false) Tryd.f13 = some e13 := by kernel_rfl
theorem x13 : Tryd.prog.funcs[13]? = some Tryd.f13 := by kernel_rfl
theorem n13 : (Tryd.f13.name == "runtime.NumGoroutine") = false := by kernel_rfl
/-! 14: region.Has -/
def b14_0 : EC := EC.ops false [EOper.mk (some 2) (EOp.box true 26 (Opd.t 0)) none, EOper.mk (some 3) (EOp.box true 28 (Opd.t 1)) none, EOper.mk (some 4) (EOp.mv (Opd.c
  (V.bool false))) none]
def m14_0 : List Bool := [false, false, true, true, true, false, false, false, false, false, false, false, false, false, false, false, false, false, false, false, false, false, false, false, false, false, false, false, false, false, false]
def b14_1 : EC := EC.ops false [EOper.mk (some 8) (EOp.ld true 5 (Opd.t 3)) none, EOper.mk (some 9) (EOp.call (Opd.f 27) [Opd.t 8]) none, EOper.mk (some 7) (EOp.mv (Opd.t
  9)) none, EOper.mk (some 10) (EOp.ext (Opd.t 7) 0) none, EOper.mk (some 11) (EOp.ext (Opd.t 7) 1) none, EOper.mk (some 5) (EOp.alloc true 24 [V.int .u32 (0), V.int .u32
  (0)]) none, EOper.mk none (EOp.st 2 (Opd.t 5) (Opd.t 10)) none, EOper.mk (some 6) (EOp.mv (Opd.t 11)) none]
def m14_1 : List Bool := [false, false, false, false, false, true, true, true, true, true, true, true, false, false, false, false, false, false, false, false, false, false, false, false, false, false, false, false, false, false, false]
def b14_2 : EC := EC.ops false [EOper.mk (some 12) (EOp.ld true 8 (Opd.t 2)) none, EOper.mk (some 13) (EOp.build [V.bool false, V.int .i64 (0), V.int .u32 (0), V.int .u32
  (0), V.bool false, V.bool false, V.int .i64 (0), V.bool false] [(0, 8, Opd.t 12)]) none, EOper.mk (some 14) (EOp.call (Opd.f 25) [Opd.t 13]) none, EOper.mk (some 15)
  (EOp.mv (Opd.t 14)) none, EOper.mk (some 16) (EOp.mv (Opd.t 6)) (some (15, true)), EOper.mk (some 17) (EOp.pick (Opd.t 15) (Opd.t 16) (Opd.c (V.bool false))) none,
  EOper.mk (some 18) (EOp.mv (Opd.t 17)) none, EOper.mk (some 19) (EOp.fa 1 (Opd.t 2)) (some (18, true)), EOper.mk (some 20) (EOp.ld false 1 (Opd.t 19)) (some (18, true)),
  EOper.mk (some 21) (EOp.fa 0 (Opd.t 3)) (some (18, true)), EOper.mk (some 22) (EOp.ld false 1 (Opd.t 21)) (some (18, true)), EOper.mk (some 23) (EOp.bin .eql (Opd.t 20)
  (Opd.t 22)) (some (18, true)), EOper.mk (some 24) (EOp.pick (Opd.t 18) (Opd.t 23) (Opd.c (V.bool false))) none, EOper.mk (some 25) (EOp.mv (Opd.t 24)) none, EOper.mk
  (some 26) (EOp.ld true 2 (Opd.t 5)) (some (25, true)), EOper.mk (some 27) (EOp.fa 2 (Opd.t 2)) (some (25, true)), EOper.mk (some 28) (EOp.ld true 2 (Opd.t 27)) (some
  (25, true)), EOper.mk (some 29) (EOp.call (Opd.f 16) [Opd.t 26, Opd.t 28]) (some (25, true)), EOper.mk (some 30) (EOp.pick (Opd.t 25) (Opd.t 29) (Opd.c (V.bool false)))
  none, EOper.mk (some 4) (EOp.mv (Opd.t 30)) none]
def m14_2 : List Bool := [false, false, false, false, true, false, false, false, false, false, false, false, true, true, true, true, true, true, true, true, true, true, true, true, true, true, true, true, true, true, true]
def b14_3 : EC := EC.ret
def m14_3 : List Bool := [false, false, false, false, false, false, false, false, false, false, false, false, false, false, false, false, false, false, false, false, false, false, false, false, false, false, false, false, false, false, false]
def r14_3 : EC := b14_3
def r14_2 : EC := EC.seq b14_2 r14_3
def r14_1 : EC := EC.seq b14_1 r14_2
def r14_0 : EC := EC.seq b14_0 r14_1
def e14 : EFun := EFun.mk 31 [ERes.t 4] r14_0
theorem c14 : cFun Tryd.prog 1 (fun _ => false) Tryd.f14 = some e14 := by kernel_rfl
theorem x14 : Tryd.prog.funcs[14]? = some Tryd.f14 := by kernel_rfl
theorem n14 : (Tryd.f14.name == "runtime.NumGoroutine") = false := by kernel_rfl
/-! 15: region.Lets -/
def b15_0 : EC := EC.ops false [EOper.mk (some 2) (EOp.box true 26 (Opd.t 0)) none, EOper.mk (some 3) (EOp.box true 28 (Opd.t 1)) none, EOper.mk (some 4) (EOp.mv (Opd.c
  (V.bool false))) none]
def m15_0 : List Bool := [false, false, true, true, true, false, false, false, false, false, false, false, false, false, false, false, false, false, false, false, false, false, false, false]
def b15_1 : EC := EC.seq (EC.ops false [EOper.mk (some 5) (EOp.ld true 8 (Opd.t 2)) none, EOper.mk (some 6) (EOp.ld true 5 (Opd.t 3)) none, EOper.mk (some 7) (EOp.call
  (Opd.f 14) [Opd.t 5, Opd.t 6]) none, EOper.mk (some 8) (EOp.un .not (Opd.t 7)) none]) (EC.cond (Opd.t 8) (EC.seq (EC.ops false [EOper.mk (some 4) (EOp.mv (Opd.c (V.bool
  false))) none]) EC.ret) EC.skip)
def m15_1 : List Bool := [false, false, false, false, true, true, true, true, true, false, false, false, false, false, false, false, false, false, false, false, false, false, false, false]
def b15_2 : EC := EC.ops false [EOper.mk (some 9) (EOp.fa 1 (Opd.t 3)) none, EOper.mk (some 10) (EOp.ld false 1 (Opd.t 9)) none, EOper.mk (some 11) (EOp.mv (Opd.t 10))
  none, EOper.mk (some 12) (EOp.fa 5 (Opd.t 2)) (some (11, true)), EOper.mk (some 13) (EOp.ld false 1 (Opd.t 12)) (some (11, true)), EOper.mk (some 14) (EOp.pick (Opd.t
  11) (Opd.t 13) (Opd.c (V.bool false))) none, EOper.mk (some 15) (EOp.mv (Opd.t 14)) none, EOper.mk (some 16) (EOp.fa 1 (Opd.t 3)) (some (15, false)), EOper.mk (some 17)
  (EOp.ld false 1 (Opd.t 16)) (some (15, false)), EOper.mk (some 18) (EOp.un .not (Opd.t 17)) (some (15, false)), EOper.mk (some 19) (EOp.mv (Opd.t 18)) (some (15,
  false)), EOper.mk (some 20) (EOp.fa 4 (Opd.t 2)) (some (19, true)), EOper.mk (some 21) (EOp.ld false 1 (Opd.t 20)) (some (19, true)), EOper.mk (some 22) (EOp.pick (Opd.t
  19) (Opd.t 21) (Opd.c (V.bool false))) (some (15, false)), EOper.mk (some 23) (EOp.pick (Opd.t 15) (Opd.c (V.bool true)) (Opd.t 22)) none, EOper.mk (some 4) (EOp.mv
  (Opd.t 23)) none]
def m15_2 : List Bool := [false, false, false, false, true, false, false, false, false, true, true, true, true, true, true, true, true, true, true, true, true, true, true, true]
def b15_3 : EC := EC.ret
def m15_3 : List Bool := [false, false, false, false, false, false, false, false, false, false, false, false, false, false, false, false, false, false, false, false, false, false, false, false]
def r15_3 : EC := b15_3
def r15_2 : EC := EC.seq b15_2 r15_3
def r15_1 : EC := EC.seq b15_1 r15_2
def r15_0 : EC := EC.seq b15_0 r15_1
def e15 : EFun := EFun.mk 24 [ERes.t 4] r15_0
theorem c15 : cFun Tryd.prog 1 (fun _ => false) Tryd.f15 = some e15 := by kernel_rfl
theorem x15 : Tryd.prog.funcs[15]? = some Tryd.f15 := by kernel_rfl
theorem n15 : (Tryd.f15.name == "runtime.NumGoroutine") = false := by kernel_rfl
/-! 16: reach.In -/
def b16_0 : EC := EC.ops false [EOper.mk (some 2) (EOp.box true 24 (Opd.t 0)) none, EOper.mk (some 3) (EOp.box true 24 (Opd.t 1)) none, EOper.mk (some 4) (EOp.mv (Opd.c
  (V.bool false))) none]
def m16_0 : List Bool := [false, false, true, true, true, false, false, false]
def b16_1 : EC := EC.ops false [EOper.mk (some 5) (EOp.ld true 2 (Opd.t 2)) none, EOper.mk (some 6) (EOp.ld true 2 (Opd.t 3)) none, EOper.mk (some 7) (EOp.call (Opd.f 28)
  [Opd.t 5, Opd.t 6, Opd.f 29]) none, EOper.mk (some 4) (EOp.mv (Opd.t 7)) none]
def m16_1 : List Bool := [false, false, false, false, true, true, true, true]
def b16_2 : EC := EC.ret
def m16_2 : List Bool := [false, false, false, false, false, false, false, false]
def r16_2 : EC := b16_2
def r16_1 : EC := EC.seq b16_1 r16_2
def r16_0 : EC := EC.seq b16_0 r16_1
def e16 : EFun := EFun.mk 8 [ERes.t 4] r16_0
theorem c16 : cFun Tryd.prog 1 (fun _ => false) Tryd.f16 = some e16 := by kernel_rfl
theorem x16 : Tryd.prog.funcs[16]? = some Tryd.f16 := by kernel_rfl
theorem n16 : (Tryd.f16.name == "runtime.NumGoroutine") = false := by kernel_rfl
/-! 17: region.Above -/
def b17_0 : EC := EC.ops false [EOper.mk (some 2) (EOp.box true 26 (Opd.t 0)) none, EOper.mk (some 3) (EOp.box true 26 (Opd.t 1)) none, EOper.mk (some 4) (EOp.mv (Opd.c
  (V.bool false))) none]
def m17_0 : List Bool := [false, false, true, true, true, false, false, false, false, false, false, false, false, false, false]
def b17_1 : EC := EC.ops false [EOper.mk (some 5) (EOp.ld true 8 (Opd.t 2)) none, EOper.mk (some 6) (EOp.ld true 8 (Opd.t 3)) none, EOper.mk (some 7) (EOp.call (Opd.f 23)
  [Opd.t 5, Opd.t 6]) none, EOper.mk (some 8) (EOp.mv (Opd.t 7)) none, EOper.mk (some 9) (EOp.fa 6 (Opd.t 2)) (some (8, true)), EOper.mk (some 10) (EOp.ld false 1 (Opd.t
  9)) (some (8, true)), EOper.mk (some 11) (EOp.fa 6 (Opd.t 3)) (some (8, true)), EOper.mk (some 12) (EOp.ld false 1 (Opd.t 11)) (some (8, true)), EOper.mk (some 13)
  (EOp.bin .gtr (Opd.t 10) (Opd.t 12)) (some (8, true)), EOper.mk (some 14) (EOp.pick (Opd.t 8) (Opd.t 13) (Opd.c (V.bool false))) none, EOper.mk (some 4) (EOp.mv (Opd.t
  14)) none]
def m17_1 : List Bool := [false, false, false, false, true, true, true, true, true, true, true, true, true, true, true]
def b17_2 : EC := EC.ret
def m17_2 : List Bool := [false, false, false, false, false, false, false, false, false, false, false, false, false, false, false]
def r17_2 : EC := b17_2
def r17_1 : EC := EC.seq b17_1 r17_2
def r17_0 : EC := EC.seq b17_0 r17_1
def e17 : EFun := EFun.mk 15 [ERes.t 4] r17_0
theorem c17 : cFun Tryd.prog 1 (fun _ => false) Tryd.f17 = some e17 := by kernel_rfl
theorem x17 : Tryd.prog.funcs[17]? = some Tryd.f17 := by kernel_rfl
theorem n17 : (Tryd.f17.name == "runtime.NumGoroutine") = false := by kernel_rfl
/-! 18: septumref06.Right -/
def b18_0 : EC := EC.ops false [EOper.mk (some 1) (EOp.box true 26 (Opd.t 0)) none, EOper.mk (some 2) (EOp.mv (Opd.c (V.bool false))) none]
def m18_0 : List Bool := [false, true, true, false, false, false, false, false, false, false, false, false, false, false, false, false, false, false, false, false, false, false, false, false, false, false, false, false, false, false, false, false]
def b18_1 : EC := EC.seq (EC.ops false [EOper.mk (some 3) (EOp.fa 0 (Opd.t 1)) none, EOper.mk (some 4) (EOp.ld false 1 (Opd.t 3)) none, EOper.mk (some 5) (EOp.un .not
  (Opd.t 4)) none]) (EC.cond (Opd.t 5) (EC.seq (EC.ops false [EOper.mk (some 6) (EOp.ld true 8 (Opd.t 1)) none, EOper.mk (some 7) (EOp.build [V.bool false, V.int .i64 (0),
  V.int .u32 (0), V.int .u32 (0), V.bool false, V.bool false, V.int .i64 (0), V.bool false] []) none, EOper.mk (some 8) (EOp.cmp false [false, true, true, true, false,
  false, true, false] (Opd.t 6) (Opd.t 7)) none, EOper.mk (some 2) (EOp.mv (Opd.t 8)) none]) EC.ret) EC.skip)
def m18_1 : List Bool := [false, false, true, true, true, true, true, true, true, false, false, false, false, false, false, false, false, false, false, false, false, false, false, false, false, false, false, false, false, false, false, false]
def b18_2 : EC := EC.ops false [EOper.mk (some 9) (EOp.fa 1 (Opd.t 1)) none, EOper.mk (some 10) (EOp.ld false 1 (Opd.t 9)) none, EOper.mk (some 11) (EOp.bin .geq (Opd.t
  10) (Opd.c (V.int .i64 (0)))) none, EOper.mk (some 12) (EOp.mv (Opd.t 11)) none, EOper.mk (some 13) (EOp.fa 1 (Opd.t 1)) (some (12, true)), EOper.mk (some 14) (EOp.ld
  false 1 (Opd.t 13)) (some (12, true)), EOper.mk (some 15) (EOp.bin .lss (Opd.t 14) (Opd.c (V.int .i64 (8)))) (some (12, true)), EOper.mk (some 16) (EOp.pick (Opd.t 12)
  (Opd.t 15) (Opd.c (V.bool false))) none, EOper.mk (some 17) (EOp.mv (Opd.t 16)) none, EOper.mk (some 18) (EOp.fa 2 (Opd.t 1)) (some (17, true)), EOper.mk (some 19)
  (EOp.ld true 2 (Opd.t 18)) (some (17, true)), EOper.mk (some 20) (EOp.call (Opd.f 30) [Opd.t 19]) (some (17, true)), EOper.mk (some 21) (EOp.pick (Opd.t 17) (Opd.t 20)
  (Opd.c (V.bool false))) none, EOper.mk (some 22) (EOp.mv (Opd.t 21)) none, EOper.mk (some 23) (EOp.fa 6 (Opd.t 1)) (some (22, true)), EOper.mk (some 24) (EOp.ld false 1
  (Opd.t 23)) (some (22, true)), EOper.mk (some 25) (EOp.bin .geq (Opd.t 24) (Opd.c (V.int .i64 (0)))) (some (22, true)), EOper.mk (some 26) (EOp.pick (Opd.t 22) (Opd.t
  25) (Opd.c (V.bool false))) none, EOper.mk (some 27) (EOp.mv (Opd.t 26)) none, EOper.mk (some 28) (EOp.fa 6 (Opd.t 1)) (some (27, true)), EOper.mk (some 29) (EOp.ld
  false 1 (Opd.t 28)) (some (27, true)), EOper.mk (some 30) (EOp.bin .leq (Opd.t 29) (Opd.c (V.int .i64 (255)))) (some (27, true)), EOper.mk (some 31) (EOp.pick (Opd.t 27)
  (Opd.t 30) (Opd.c (V.bool false))) none, EOper.mk (some 2) (EOp.mv (Opd.t 31)) none]
def m18_2 : List Bool := [false, false, true, false, false, false, false, false, false, true, true, true, true, true, true, true, true, true, true, true, true, true, true, true, true, true, true, true, true, true, true, true]
def b18_3 : EC := EC.ret
def m18_3 : List Bool := [false, false, false, false, false, false, false, false, false, false, false, false, false, false, false, false, false, false, false, false, false, false, false, false, false, false, false, false, false, false, false, false]
def r18_3 : EC := b18_3
def r18_2 : EC := EC.seq b18_2 r18_3
def r18_1 : EC := EC.seq b18_1 r18_2
def r18_0 : EC := EC.seq b18_0 r18_1
def e18 : EFun := EFun.mk 32 [ERes.t 2] r18_0
theorem c18 : cFun Tryd.prog 1 (fun _ => false) Tryd.f18 = some e18 := by kernel_rfl
theorem x18 : Tryd.prog.funcs[18]? = some Tryd.f18 := by kernel_rfl
theorem n18 : (Tryd.f18.name == "runtime.NumGoroutine") = false := by kernel_rfl
/-! 19: septumref06.Has -/
def b19_0 : EC := EC.ops false [EOper.mk (some 2) (EOp.box true 26 (Opd.t 0)) none, EOper.mk (some 3) (EOp.box true 28 (Opd.t 1)) none, EOper.mk (some 4) (EOp.mv (Opd.c
  (V.bool false))) none]
def m19_0 : List Bool := [false, false, true, true, true, false, false, false, false, false, false, false, false, false, false, false, false, false, false, false, false, false, false, false, false, false, false, false, false, false, false, false, false, false]
def b19_1 : EC := EC.ops false [EOper.mk (some 8) (EOp.ld true 5 (Opd.t 3)) none, EOper.mk (some 9) (EOp.call (Opd.f 31) [Opd.t 8]) none, EOper.mk (some 7) (EOp.mv (Opd.t
  9)) none, EOper.mk (some 10) (EOp.ext (Opd.t 7) 0) none, EOper.mk (some 11) (EOp.ext (Opd.t 7) 1) none, EOper.mk (some 5) (EOp.alloc true 24 [V.int .u32 (0), V.int .u32
  (0)]) none, EOper.mk none (EOp.st 2 (Opd.t 5) (Opd.t 10)) none, EOper.mk (some 6) (EOp.mv (Opd.t 11)) none]
def m19_1 : List Bool := [false, false, false, false, false, true, true, true, true, true, true, true, false, false, false, false, false, false, false, false, false, false, false, false, false, false, false, false, false, false, false, false, false, false]
def b19_2 : EC := EC.ops false [EOper.mk (some 12) (EOp.ld true 8 (Opd.t 2)) none, EOper.mk (some 13) (EOp.call (Opd.f 18) [Opd.t 12]) none, EOper.mk (some 14) (EOp.mv
  (Opd.t 13)) none, EOper.mk (some 15) (EOp.fa 0 (Opd.t 2)) (some (14, true)), EOper.mk (some 16) (EOp.ld false 1 (Opd.t 15)) (some (14, true)), EOper.mk (some 17)
  (EOp.pick (Opd.t 14) (Opd.t 16) (Opd.c (V.bool false))) none, EOper.mk (some 18) (EOp.mv (Opd.t 17)) none, EOper.mk (some 19) (EOp.mv (Opd.t 6)) (some (18, true)),
  EOper.mk (some 20) (EOp.pick (Opd.t 18) (Opd.t 19) (Opd.c (V.bool false))) none, EOper.mk (some 21) (EOp.mv (Opd.t 20)) none, EOper.mk (some 22) (EOp.fa 0 (Opd.t 3))
  (some (21, true)), EOper.mk (some 23) (EOp.ld false 1 (Opd.t 22)) (some (21, true)), EOper.mk (some 24) (EOp.fa 1 (Opd.t 2)) (some (21, true)), EOper.mk (some 25)
  (EOp.ld false 1 (Opd.t 24)) (some (21, true)), EOper.mk (some 26) (EOp.bin .eql (Opd.t 23) (Opd.t 25)) (some (21, true)), EOper.mk (some 27) (EOp.pick (Opd.t 21) (Opd.t
  26) (Opd.c (V.bool false))) none, EOper.mk (some 28) (EOp.mv (Opd.t 27)) none, EOper.mk (some 29) (EOp.ld true 2 (Opd.t 5)) (some (28, true)), EOper.mk (some 30) (EOp.fa
  2 (Opd.t 2)) (some (28, true)), EOper.mk (some 31) (EOp.ld true 2 (Opd.t 30)) (some (28, true)), EOper.mk (some 32) (EOp.call (Opd.f 32) [Opd.t 29, Opd.t 31]) (some (28,
  true)), EOper.mk (some 33) (EOp.pick (Opd.t 28) (Opd.t 32) (Opd.c (V.bool false))) none, EOper.mk (some 4) (EOp.mv (Opd.t 33)) none]
def m19_2 : List Bool := [false, false, false, false, true, false, false, false, false, false, false, false, true, true, true, true, true, true, true, true, true, true, true, true, true, true, true, true, true, true, true, true, true, true]
def b19_3 : EC := EC.ret
def m19_3 : List Bool := [false, false, false, false, false, false, false, false, false, false, false, false, false, false, false, false, false, false, false, false, false, false, false, false, false, false, false, false, false, false, false, false, false, false]
def r19_3 : EC := b19_3
def r19_2 : EC := EC.seq b19_2 r19_3
def r19_1 : EC := EC.seq b19_1 r19_2
def r19_0 : EC := EC.seq b19_0 r19_1
def e19 : EFun := EFun.mk 34 [ERes.t 4] r19_0
theorem c19 : cFun Tryd.prog 1 (fun _ => false) Tryd.f19 = some e19 := by kernel_rfl
theorem x19 : Tryd.prog.funcs[19]? = some Tryd.f19 := by kernel_rfl
theorem n19 : (Tryd.f19.name == "runtime.NumGoroutine") = false := by kernel_rfl
/-! 20: septumref06.Lets -/
def b20_0 : EC := EC.ops false [EOper.mk (some 2) (EOp.box true 26 (Opd.t 0)) none, EOper.mk (some 3) (EOp.box true 28 (Opd.t 1)) none, EOper.mk (some 4) (EOp.mv (Opd.c
  (V.bool false))) none]
def m20_0 : List Bool := [false, false, true, true, true, false, false, false, false, false, false, false, false, false, false, false, false, false, false, false, false]
def b20_1 : EC := EC.seq (EC.ops false [EOper.mk (some 5) (EOp.fa 1 (Opd.t 3)) none, EOper.mk (some 6) (EOp.ld false 1 (Opd.t 5)) none]) (EC.cond (Opd.t 6) (EC.seq (EC.ops
  false [EOper.mk (some 7) (EOp.ld true 8 (Opd.t 2)) none, EOper.mk (some 8) (EOp.ld true 5 (Opd.t 3)) none, EOper.mk (some 9) (EOp.call (Opd.f 19) [Opd.t 7, Opd.t 8])
  none, EOper.mk (some 10) (EOp.mv (Opd.t 9)) none, EOper.mk (some 11) (EOp.fa 5 (Opd.t 2)) (some (10, true)), EOper.mk (some 12) (EOp.ld false 1 (Opd.t 11)) (some (10,
  true)), EOper.mk (some 13) (EOp.pick (Opd.t 10) (Opd.t 12) (Opd.c (V.bool false))) none, EOper.mk (some 4) (EOp.mv (Opd.t 13)) none]) EC.ret) EC.skip)
def m20_1 : List Bool := [false, false, false, false, true, true, true, true, true, true, true, true, true, true, false, false, false, false, false, false, false]
def b20_2 : EC := EC.ops false [EOper.mk (some 14) (EOp.ld true 8 (Opd.t 2)) none, EOper.mk (some 15) (EOp.ld true 5 (Opd.t 3)) none, EOper.mk (some 16) (EOp.call (Opd.f
  19) [Opd.t 14, Opd.t 15]) none, EOper.mk (some 17) (EOp.mv (Opd.t 16)) none, EOper.mk (some 18) (EOp.fa 4 (Opd.t 2)) (some (17, true)), EOper.mk (some 19) (EOp.ld false
  1 (Opd.t 18)) (some (17, true)), EOper.mk (some 20) (EOp.pick (Opd.t 17) (Opd.t 19) (Opd.c (V.bool false))) none, EOper.mk (some 4) (EOp.mv (Opd.t 20)) none]
def m20_2 : List Bool := [false, false, false, false, true, false, false, false, false, false, false, false, false, false, true, true, true, true, true, true, true]
def b20_3 : EC := EC.ret
def m20_3 : List Bool := [false, false, false, false, false, false, false, false, false, false, false, false, false, false, false, false, false, false, false, false, false]
def r20_3 : EC := b20_3
def r20_2 : EC := EC.seq b20_2 r20_3
def r20_1 : EC := EC.seq b20_1 r20_2
def r20_0 : EC := EC.seq b20_0 r20_1
def e20 : EFun := EFun.mk 21 [ERes.t 4] r20_0
theorem c20 : cFun Tryd.prog 1 (fun _ => false) Tryd.f20 = some e20 := by kernel_rfl
theorem x20 : Tryd.prog.funcs[20]? = some Tryd.f20 := by kernel_rfl
theorem n20 : (Tryd.f20.name == "runtime.NumGoroutine") = false := by kernel_rfl
/-! 21: septumref06.Clash -/
def b21_0 : EC := EC.ops false [EOper.mk (some 2) (EOp.box true 26 (Opd.t 0)) none, EOper.mk (some 3) (EOp.box true 26 (Opd.t 1)) none, EOper.mk (some 4) (EOp.mv (Opd.c
  (V.bool false))) none]
def m21_0 : List Bool := [false, false, true, true, true, false, false, false, false, false, false, false, false, false, false, false, false, false, false, false, false, false, false, false, false, false, false, false, false, false, false, false, false, false, false, false, false, false, false]
def b21_1 : EC := EC.ops false [EOper.mk (some 8) (EOp.fa 2 (Opd.t 2)) none, EOper.mk (some 9) (EOp.ld true 2 (Opd.t 8)) none, EOper.mk (some 10) (EOp.fa 2 (Opd.t 3))
  none, EOper.mk (some 11) (EOp.ld true 2 (Opd.t 10)) none, EOper.mk (some 12) (EOp.call (Opd.f 33) [Opd.t 9, Opd.t 11]) none, EOper.mk (some 7) (EOp.mv (Opd.t 12)) none,
  EOper.mk (some 13) (EOp.ext (Opd.t 7) 0) none, EOper.mk (some 14) (EOp.ext (Opd.t 7) 1) none, EOper.mk (some 5) (EOp.alloc true 24 [V.int .u32 (0), V.int .u32 (0)])
  none, EOper.mk none (EOp.st 2 (Opd.t 5) (Opd.t 13)) none, EOper.mk (some 6) (EOp.mv (Opd.t 14)) none]
def m21_1 : List Bool := [false, false, false, false, false, true, true, true, true, true, true, true, true, true, true, false, false, false, false, false, false, false, false, false, false, false, false, false, false, false, false, false, false, false, false, false, false, false, false]
def b21_2 : EC := EC.ops false [EOper.mk (some 15) (EOp.ld true 8 (Opd.t 2)) none, EOper.mk (some 16) (EOp.call (Opd.f 18) [Opd.t 15]) none, EOper.mk (some 17) (EOp.mv
  (Opd.t 16)) none, EOper.mk (some 18) (EOp.ld true 8 (Opd.t 3)) (some (17, true)), EOper.mk (some 19) (EOp.call (Opd.f 18) [Opd.t 18]) (some (17, true)), EOper.mk (some
  20) (EOp.pick (Opd.t 17) (Opd.t 19) (Opd.c (V.bool false))) none, EOper.mk (some 21) (EOp.mv (Opd.t 20)) none, EOper.mk (some 22) (EOp.fa 0 (Opd.t 2)) (some (21, true)),
  EOper.mk (some 23) (EOp.ld false 1 (Opd.t 22)) (some (21, true)), EOper.mk (some 24) (EOp.pick (Opd.t 21) (Opd.t 23) (Opd.c (V.bool false))) none, EOper.mk (some 25)
  (EOp.mv (Opd.t 24)) none, EOper.mk (some 26) (EOp.fa 0 (Opd.t 3)) (some (25, true)), EOper.mk (some 27) (EOp.ld false 1 (Opd.t 26)) (some (25, true)), EOper.mk (some 28)
  (EOp.pick (Opd.t 25) (Opd.t 27) (Opd.c (V.bool false))) none, EOper.mk (some 29) (EOp.mv (Opd.t 28)) none, EOper.mk (some 30) (EOp.fa 1 (Opd.t 2)) (some (29, true)),
  EOper.mk (some 31) (EOp.ld false 1 (Opd.t 30)) (some (29, true)), EOper.mk (some 32) (EOp.fa 1 (Opd.t 3)) (some (29, true)), EOper.mk (some 33) (EOp.ld false 1 (Opd.t
  32)) (some (29, true)), EOper.mk (some 34) (EOp.bin .neq (Opd.t 31) (Opd.t 33)) (some (29, true)), EOper.mk (some 35) (EOp.pick (Opd.t 29) (Opd.t 34) (Opd.c (V.bool
  false))) none, EOper.mk (some 36) (EOp.mv (Opd.t 35)) none, EOper.mk (some 37) (EOp.mv (Opd.t 6)) (some (36, true)), EOper.mk (some 38) (EOp.pick (Opd.t 36) (Opd.t 37)
  (Opd.c (V.bool false))) none, EOper.mk (some 4) (EOp.mv (Opd.t 38)) none]
def m21_2 : List Bool := [false, false, false, false, true, false, false, false, false, false, false, false, false, false, false, true, true, true, true, true, true, true, true, true, true, true, true, true, true, true, true, true, true, true, true, true, true, true, true]
def b21_3 : EC := EC.ret
def m21_3 : List Bool := [false, false, false, false, false, false, false, false, false, false, false, false, false, false, false, false, false, false, false, false, false, false, false, false, false, false, false, false, false, false, false, false, false, false, false, false, false, false, false]
def r21_3 : EC := b21_3
def r21_2 : EC := EC.seq b21_2 r21_3
def r21_1 : EC := EC.seq b21_1 r21_2
def r21_0 : EC := EC.seq b21_0 r21_1
def e21 : EFun := EFun.mk 39 [ERes.t 4] r21_0
theorem c21 : cFun Tryd.prog 1 (fun _ => false) Tryd.f21 = some e21 := by kernel_rfl
theorem x21 : Tryd.prog.funcs[21]? = some Tryd.f21 := by kernel_rfl
theorem n21 : (Tryd.f21.name == "runtime.NumGoroutine") = false := by kernel_rfl
/-! 22: septumref06.Above -/
def b22_0 : EC := EC.ops false [EOper.mk (some 2) (EOp.box true 26 (Opd.t 0)) none, EOper.mk (some 3) (EOp.box true 26 (Opd.t 1)) none, EOper.mk (some 4) (EOp.mv (Opd.c
  (V.bool false))) none]
def m22_0 : List Bool := [false, false, true, true, true, false, false, false, false, false, false, false, false, false, false, false, false, false, false, false, false, false, false, false, false, false]
def b22_1 : EC := EC.ops false [EOper.mk (some 5) (EOp.ld true 8 (Opd.t 2)) none, EOper.mk (some 6) (EOp.call (Opd.f 18) [Opd.t 5]) none, EOper.mk (some 7) (EOp.mv (Opd.t
  6)) none, EOper.mk (some 8) (EOp.ld true 8 (Opd.t 3)) (some (7, true)), EOper.mk (some 9) (EOp.call (Opd.f 18) [Opd.t 8]) (some (7, true)), EOper.mk (some 10) (EOp.pick
  (Opd.t 7) (Opd.t 9) (Opd.c (V.bool false))) none, EOper.mk (some 11) (EOp.mv (Opd.t 10)) none, EOper.mk (some 12) (EOp.fa 0 (Opd.t 2)) (some (11, true)), EOper.mk (some
  13) (EOp.ld false 1 (Opd.t 12)) (some (11, true)), EOper.mk (some 14) (EOp.pick (Opd.t 11) (Opd.t 13) (Opd.c (V.bool false))) none, EOper.mk (some 15) (EOp.mv (Opd.t
  14)) none, EOper.mk (some 16) (EOp.fa 0 (Opd.t 3)) (some (15, true)), EOper.mk (some 17) (EOp.ld false 1 (Opd.t 16)) (some (15, true)), EOper.mk (some 18) (EOp.pick
  (Opd.t 15) (Opd.t 17) (Opd.c (V.bool false))) none, EOper.mk (some 19) (EOp.mv (Opd.t 18)) none, EOper.mk (some 20) (EOp.fa 6 (Opd.t 2)) (some (19, true)), EOper.mk
  (some 21) (EOp.ld false 1 (Opd.t 20)) (some (19, true)), EOper.mk (some 22) (EOp.fa 6 (Opd.t 3)) (some (19, true)), EOper.mk (some 23) (EOp.ld false 1 (Opd.t 22)) (some
  (19, true)), EOper.mk (some 24) (EOp.bin .gtr (Opd.t 21) (Opd.t 23)) (some (19, true)), EOper.mk (some 25) (EOp.pick (Opd.t 19) (Opd.t 24) (Opd.c (V.bool false))) none,
  EOper.mk (some 4) (EOp.mv (Opd.t 25)) none]
def m22_1 : List Bool := [false, false, false, false, true, true, true, true, true, true, true, true, true, true, true, true, true, true, true, true, true, true, true, true, true, true]
def b22_2 : EC := EC.ret
def m22_2 : List Bool := [false, false, false, false, false, false, false, false, false, false, false, false, false, false, false, false, false, false, false, false, false, false, false, false, false, false]
def r22_2 : EC := b22_2
def r22_1 : EC := EC.seq b22_1 r22_2
def r22_0 : EC := EC.seq b22_0 r22_1
def e22 : EFun := EFun.mk 26 [ERes.t 4] r22_0
theorem c22 : cFun Tryd.prog 1 (fun _ => false) Tryd.f22 = some e22 := by kernel_rfl
theorem x22 : Tryd.prog.funcs[22]? = some Tryd.f22 := by kernel_rfl
theorem n22 : (Tryd.f22.name == "runtime.NumGoroutine") = false := by kernel_rfl
/-! 23: region.both -/
def b23_0 : EC := EC.ops false [EOper.mk (some 2) (EOp.box true 26 (Opd.t 0)) none, EOper.mk (some 3) (EOp.box true 26 (Opd.t 1)) none, EOper.mk (some 4) (EOp.mv (Opd.c
  (V.bool false))) none]
def m23_0 : List Bool := [false, false, true, true, true, false, false, false, false, false, false, false, false]
def b23_1 : EC := EC.ops false [EOper.mk (some 5) (EOp.ld true 8 (Opd.t 2)) none, EOper.mk (some 6) (EOp.build [V.bool false, V.int .i64 (0), V.int .u32 (0), V.int .u32
  (0), V.bool false, V.bool false, V.int .i64 (0), V.bool false] [(0, 8, Opd.t 5)]) none, EOper.mk (some 7) (EOp.call (Opd.f 25) [Opd.t 6]) none, EOper.mk (some 8) (EOp.mv
  (Opd.t 7)) none, EOper.mk (some 9) (EOp.ld true 8 (Opd.t 3)) (some (8, true)), EOper.mk (some 10) (EOp.build [V.bool false, V.int .i64 (0), V.int .u32 (0), V.int .u32
  (0), V.bool false, V.bool false, V.int .i64 (0), V.bool false] [(0, 8, Opd.t 9)]) (some (8, true)), EOper.mk (some 11) (EOp.call (Opd.f 25) [Opd.t 10]) (some (8, true)),
  EOper.mk (some 12) (EOp.pick (Opd.t 8) (Opd.t 11) (Opd.c (V.bool false))) none, EOper.mk (some 4) (EOp.mv (Opd.t 12)) none]
def m23_1 : List Bool := [false, false, false, false, true, true, true, true, true, true, true, true, true]
def b23_2 : EC := EC.ret
def m23_2 : List Bool := [false, false, false, false, false, false, false, false, false, false, false, false, false]
def r23_2 : EC := b23_2
def r23_1 : EC := EC.seq b23_1 r23_2
def r23_0 : EC := EC.seq b23_0 r23_1
def e23 : EFun := EFun.mk 13 [ERes.t 4] r23_0
theorem c23 : cFun Tryd.prog 1 (fun _ => false) Tryd.f23 = some e23 := by kernel_rfl
theorem x23 : Tryd.prog.funcs[23]? = some Tryd.f23 := by kernel_rfl
theorem n23 : (Tryd.f23.name == "runtime.NumGoroutine") = false := by kernel_rfl
/-! 24: reach.Apart -/
def l24_0p0 : EC := EC.ops false [EOper.mk (some 8) (EOp.bin .lss (Opd.t 7) (Opd.t 6)) none]
def l24_0m0 : List Bool := [false, false, false, false, false, false, false, false, true, false, false, false, false, false, false, false, false, false, false, false, false, false, false]
def l24_0p1 : EC := EC.cond (Opd.t 8) EC.skip (EC.exit 0)
def l24_0m1 : List Bool := [false, false, false, false, false, false, false, false, false, false, false, false, false, false, false, false, false, false, false, false, false, false, false]
def l24_0p2 : EC := EC.block 1 (EC.seq (EC.ops false [EOper.mk (some 9) (EOp.mv (Opd.t 7)) none, EOper.mk (some 10) (EOp.ixs 2 (Opd.t 5) (Opd.t 7)) none, EOper.mk (some
  11) (EOp.ld true 2 (Opd.t 10)) none, EOper.mk (some 4) (EOp.alloc false 24 [V.int .u32 (0), V.int .u32 (0)]) none, EOper.mk (some 3) (EOp.mv (Opd.t 9)) none, EOper.mk
  none (EOp.st 2 (Opd.t 4) (Opd.t 11)) none]) (EC.seq (EC.ops false [EOper.mk (some 12) (EOp.ld true 2 (Opd.t 4)) none, EOper.mk (some 13) (EOp.call (Opd.f 34) [Opd.t 12])
  none, EOper.mk (some 14) (EOp.un .not (Opd.t 13)) none, EOper.mk (some 15) (EOp.mv (Opd.t 14)) none, EOper.mk (some 16) (EOp.mv (Opd.t 0)) (some (15, false)), EOper.mk
  (some 17) (EOp.mv (Opd.t 3)) (some (15, false)), EOper.mk (some 18) (EOp.slc 2 (Opd.t 16) none (some (Opd.t 17))) (some (15, false)), EOper.mk (some 19) (EOp.mkfn 36 []
  [Opd.t 4]) (some (15, false)), EOper.mk (some 20) (EOp.call (Opd.f 35) [Opd.t 18, Opd.t 19]) (some (15, false)), EOper.mk (some 21) (EOp.pick (Opd.t 15) (Opd.c (V.bool
  true)) (Opd.t 20)) none]) (EC.cond (Opd.t 21) (EC.seq (EC.ops false [EOper.mk (some 2) (EOp.mv (Opd.c (V.bool false))) none]) EC.ret) EC.skip)))
def l24_0m2 : List Bool := [false, false, true, true, true, false, false, false, false, true, true, true, true, true, true, true, true, true, true, true, true, true, false]
def l24_0p3 : EC := EC.ops false [EOper.mk (some 22) (EOp.bin .add (Opd.t 7) (Opd.c (V.int .i64 (1)))) none, EOper.mk (some 7) (EOp.mv (Opd.t 22)) none]
def l24_0m3 : List Bool := [false, false, false, false, false, false, false, true, false, false, false, false, false, false, false, false, false, false, false, false, false, false, true]
def l24_0r3 : EC := l24_0p3
def l24_0r2 : EC := EC.seq l24_0p2 l24_0r3
def l24_0r1 : EC := EC.seq l24_0p1 l24_0r2
def l24_0r0 : EC := EC.seq l24_0p0 l24_0r1
def l24_0 : EC := l24_0r0
def b24_0 : EC := EC.ops false [EOper.mk (some 2) (EOp.mv (Opd.c (V.bool false))) none]
def m24_0 : List Bool := [false, false, true, false, false, false, false, false, false, false, false, false, false, false, false, false, false, false, false, false, false, false, false]
def b24_1 : EC := EC.seq (EC.ops false [EOper.mk (some 5) (EOp.mv (Opd.t 0)) none, EOper.mk (some 6) (EOp.len false (Opd.t 5)) none, EOper.mk (some 7) (EOp.mv (Opd.c
  (V.int .i64 (0)))) none]) (EC.block 0 (EC.loop l24_0))
def m24_1 : List Bool := [false, false, true, true, true, true, true, true, true, true, true, true, true, true, true, true, true, true, true, true, true, true, true]
def b24_2 : EC := EC.ops false [EOper.mk (some 2) (EOp.mv (Opd.c (V.bool true))) none]
def m24_2 : List Bool := [false, false, true, false, false, false, false, false, false, false, false, false, false, false, false, false, false, false, false, false, false, false, false]
def b24_3 : EC := EC.ret
def m24_3 : List Bool := [false, false, false, false, false, false, false, false, false, false, false, false, false, false, false, false, false, false, false, false, false, false, false]
def r24_3 : EC := b24_3
def r24_2 : EC := EC.seq b24_2 r24_3
def r24_1 : EC := EC.seq b24_1 r24_2
def r24_0 : EC := EC.seq b24_0 r24_1
def e24 : EFun := EFun.mk 23 [ERes.t 2] r24_0
theorem c24 : cFun Tryd.prog 1 (fun d => d == 4) Tryd.f24 = some e24 := by kernel_rfl
theorem x24 : Tryd.prog.funcs[24]? = some Tryd.f24 := by kernel_rfl
theorem n24 : (Tryd.f24.name == "runtime.NumGoroutine") = false := by kernel_rfl
/-! 25: region.rule.on -/
def b25_0 : EC := EC.ops false [EOper.mk (some 1) (EOp.box true 43 (Opd.t 0)) none, EOper.mk (some 2) (EOp.mv (Opd.c (V.bool false))) none]
def m25_0 : List Bool := [false, true, true, false, false, false, false, false, false, false, false, false, false, false, false, false, false]
def b25_1 : EC := EC.ops false [EOper.mk (some 3) (EOp.fa 0 (Opd.t 1)) none, EOper.mk (some 4) (EOp.fa 0 (Opd.t 3)) none, EOper.mk (some 5) (EOp.ld false 1 (Opd.t 4))
  none, EOper.mk (some 6) (EOp.mv (Opd.t 5)) none, EOper.mk (some 7) (EOp.ld true 8 (Opd.t 1)) (some (6, true)), EOper.mk (some 8) (EOp.mkfn 39 [Opd.t 7] []) (some (6,
  true)), EOper.mk (some 9) (EOp.ld true 8 (Opd.t 1)) (some (6, true)), EOper.mk (some 10) (EOp.mkfn 40 [Opd.t 9] []) (some (6, true)), EOper.mk (some 11) (EOp.ld true 8
  (Opd.t 1)) (some (6, true)), EOper.mk (some 12) (EOp.mkfn 41 [Opd.t 11] []) (some (6, true)), EOper.mk (some 13) (EOp.bslice 30 3 [V.nilf, V.nilf, V.nilf] [(0, 1, Opd.t
  8), (1, 1, Opd.t 10), (2, 1, Opd.t 12)]) (some (6, true)), EOper.mk (some 14) (EOp.call (Opd.f 38) [Opd.t 13, Opd.f 42]) (some (6, true)), EOper.mk (some 15) (EOp.un
  .not (Opd.t 14)) (some (6, true)), EOper.mk (some 16) (EOp.pick (Opd.t 6) (Opd.t 15) (Opd.c (V.bool false))) none, EOper.mk (some 2) (EOp.mv (Opd.t 16)) none]
def m25_1 : List Bool := [false, false, true, true, true, true, true, true, true, true, true, true, true, true, true, true, true]
def b25_2 : EC := EC.ret
def m25_2 : List Bool := [false, false, false, false, false, false, false, false, false, false, false, false, false, false, false, false, false]
def r25_2 : EC := b25_2
def r25_1 : EC := EC.seq b25_1 r25_2
def r25_0 : EC := EC.seq b25_0 r25_1
def e25 : EFun := EFun.mk 17 [ERes.t 2] r25_0
theorem c25 : cFun Tryd.prog 1 (fun _ => false) Tryd.f25 = some e25 := by kernel_rfl
theorem x25 : Tryd.prog.funcs[25]? = some Tryd.f25 := by kernel_rfl
theorem n25 : (Tryd.f25.name == "runtime.NumGoroutine") = false := by kernel_rfl
/-! 26: reach.ends.has -/
def b26_0 : EC := EC.ops false [EOper.mk (some 2) (EOp.box true 45 (Opd.t 0)) none, EOper.mk (some 4) (EOp.mv (Opd.c (V.bool false))) none]
def m26_0 : List Bool := [false, false, true, false, true, false, false, false, false, false, false, false, false, false, false, false, false, false, false, false, false]
def b26_1 : EC := EC.ops false [EOper.mk (some 5) (EOp.ld true 2 (Opd.t 2)) none, EOper.mk (some 6) (EOp.call (Opd.f 43) [Opd.t 5]) none, EOper.mk (some 7) (EOp.mv (Opd.t
  6)) none, EOper.mk (some 8) (EOp.fa 0 (Opd.t 2)) (some (7, true)), EOper.mk (some 9) (EOp.fa 0 (Opd.t 8)) (some (7, true)), EOper.mk (some 10) (EOp.ld false 1 (Opd.t 9))
  (some (7, true)), EOper.mk (some 11) (EOp.mv (Opd.t 1)) (some (7, true)), EOper.mk (some 12) (EOp.bin .leq (Opd.t 10) (Opd.t 11)) (some (7, true)), EOper.mk (some 13)
  (EOp.pick (Opd.t 7) (Opd.t 12) (Opd.c (V.bool false))) none, EOper.mk (some 14) (EOp.mv (Opd.t 13)) none, EOper.mk (some 15) (EOp.mv (Opd.t 1)) (some (14, true)),
  EOper.mk (some 16) (EOp.fa 0 (Opd.t 2)) (some (14, true)), EOper.mk (some 17) (EOp.fa 1 (Opd.t 16)) (some (14, true)), EOper.mk (some 18) (EOp.ld false 1 (Opd.t 17))
  (some (14, true)), EOper.mk (some 19) (EOp.bin .leq (Opd.t 15) (Opd.t 18)) (some (14, true)), EOper.mk (some 20) (EOp.pick (Opd.t 14) (Opd.t 19) (Opd.c (V.bool false)))
  none, EOper.mk (some 4) (EOp.mv (Opd.t 20)) none]
def m26_1 : List Bool := [false, false, false, false, true, true, true, true, true, true, true, true, true, true, true, true, true, true, true, true, true]
def b26_2 : EC := EC.ret
def m26_2 : List Bool := [false, false, false, false, false, false, false, false, false, false, false, false, false, false, false, false, false, false, false, false, false]
def r26_2 : EC := b26_2
def r26_1 : EC := EC.seq b26_1 r26_2
def r26_0 : EC := EC.seq b26_0 r26_1
def e26 : EFun := EFun.mk 21 [ERes.t 4] r26_0
theorem c26 : cFun Tryd.prog 1 (fun _ => false) Tryd.f26 = some e26 := by kernel_rfl
theorem x26 : Tryd.prog.funcs[26]? = some Tryd.f26 := by kernel_rfl
theorem n26 : (Tryd.f26.name == "runtime.NumGoroutine") = false := by kernel_rfl
/-! 27: access.Reach -/
def b27_0 : EC := EC.ops false [EOper.mk (some 1) (EOp.box true 28 (Opd.t 0)) none, EOper.mk (some 2) (EOp.alloc true 24 [V.int .u32 (0), V.int .u32 (0)]) none, EOper.mk
  (some 3) (EOp.mv (Opd.c (V.bool false))) none]
def m27_0 : List Bool := [false, true, true, true, false, false, false, false, false, false, false, false, false, false, false]
def b27_1 : EC := EC.seq (EC.ops false [EOper.mk (some 4) (EOp.ld true 5 (Opd.t 1)) none, EOper.mk (some 5) (EOp.call (Opd.f 44) [Opd.t 4]) none, EOper.mk (some 6) (EOp.un
  .not (Opd.t 5)) none]) (EC.cond (Opd.t 6) (EC.seq (EC.ops false [EOper.mk (some 7) (EOp.build [V.int .u32 (0), V.int .u32 (0)] []) none, EOper.mk none (EOp.st 2 (Opd.t
  2) (Opd.t 7)) none, EOper.mk (some 3) (EOp.mv (Opd.c (V.bool false))) none]) EC.ret) EC.skip)
def m27_1 : List Bool := [false, false, false, true, true, true, true, true, false, false, false, false, false, false, false]
def b27_2 : EC := EC.ops false [EOper.mk (some 8) (EOp.fa 2 (Opd.t 1)) none, EOper.mk (some 9) (EOp.ld false 1 (Opd.t 8)) none, EOper.mk (some 10) (EOp.fa 3 (Opd.t 1))
  none, EOper.mk (some 11) (EOp.ld false 1 (Opd.t 10)) none, EOper.mk (some 12) (EOp.call (Opd.f 45) [Opd.t 9, Opd.t 11]) none, EOper.mk (some 13) (EOp.ext (Opd.t 12) 0)
  none, EOper.mk (some 14) (EOp.ext (Opd.t 12) 1) none, EOper.mk none (EOp.st 2 (Opd.t 2) (Opd.t 13)) none, EOper.mk (some 3) (EOp.mv (Opd.t 14)) none]
def m27_2 : List Bool := [false, false, false, true, false, false, false, false, true, true, true, true, true, true, true]
def b27_3 : EC := EC.ret
def m27_3 : List Bool := [false, false, false, false, false, false, false, false, false, false, false, false, false, false, false]
def r27_3 : EC := b27_3
def r27_2 : EC := EC.seq b27_2 r27_3
def r27_1 : EC := EC.seq b27_1 r27_2
def r27_0 : EC := EC.seq b27_0 r27_1
def e27 : EFun := EFun.mk 15 [ERes.c 2 2, ERes.t 3] r27_0
theorem c27 : cFun Tryd.prog 1 (fun _ => false) Tryd.f27 = some e27 := by kernel_rfl
theorem x27 : Tryd.prog.funcs[27]? = some Tryd.f27 := by kernel_rfl
theorem n27 : (Tryd.f27.name == "runtime.NumGoroutine") = false := by kernel_rfl
/-! 28: reach.two -/
def b28_0 : EC := EC.ops false [EOper.mk (some 3) (EOp.box true 24 (Opd.t 0)) none, EOper.mk (some 4) (EOp.box true 24 (Opd.t 1)) none, EOper.mk (some 6) (EOp.mv (Opd.c
  (V.bool false))) none]
def m28_0 : List Bool := [false, false, false, true, true, false, true, false, false, false, false, false, false]
def b28_1 : EC := EC.ops false [EOper.mk (some 7) (EOp.mv (Opd.t 2)) none, EOper.mk (some 8) (EOp.ld true 2 (Opd.t 3)) none, EOper.mk (some 9) (EOp.build [V.int .u32 (0),
  V.int .u32 (0)] [(0, 2, Opd.t 8)]) none, EOper.mk (some 10) (EOp.ld true 2 (Opd.t 4)) none, EOper.mk (some 11) (EOp.build [V.int .u32 (0), V.int .u32 (0)] [(0, 2, Opd.t
  10)]) none, EOper.mk (some 12) (EOp.call (Opd.t 7) [Opd.t 9, Opd.t 11]) none, EOper.mk (some 6) (EOp.mv (Opd.t 12)) none]
def m28_1 : List Bool := [false, false, false, false, false, false, true, true, true, true, true, true, true]
def b28_2 : EC := EC.ret
def m28_2 : List Bool := [false, false, false, false, false, false, false, false, false, false, false, false, false]
def r28_2 : EC := b28_2
def r28_1 : EC := EC.seq b28_1 r28_2
def r28_0 : EC := EC.seq b28_0 r28_1
def e28 : EFun := EFun.mk 13 [ERes.t 6] r28_0
theorem c28 : cFun Tryd.prog 1 (fun _ => false) Tryd.f28 = some e28 := by kernel_rfl
theorem x28 : Tryd.prog.funcs[28]? = some Tryd.f28 := by kernel_rfl
theorem n28 : (Tryd.f28.name == "runtime.NumGoroutine") = false := by kernel_rfl
/-! 29: reach.ends.in -/
def b29_0 : EC := EC.ops false [EOper.mk (some 2) (EOp.box true 45 (Opd.t 0)) none, EOper.mk (some 3) (EOp.box true 45 (Opd.t 1)) none, EOper.mk (some 4) (EOp.mv (Opd.c
  (V.bool false))) none]
def m29_0 : List Bool := [false, false, true, true, true, false, false, false, false, false, false, false, false, false, false, false, false, false, false, false, false]
def b29_1 : EC := EC.ops false [EOper.mk (some 5) (EOp.ld true 2 (Opd.t 2)) none, EOper.mk (some 6) (EOp.call (Opd.f 43) [Opd.t 5]) none, EOper.mk (some 7) (EOp.mv (Opd.t
  6)) none, EOper.mk (some 8) (EOp.ld true 2 (Opd.t 3)) (some (7, true)), EOper.mk (some 9) (EOp.fa 0 (Opd.t 2)) (some (7, true)), EOper.mk (some 10) (EOp.fa 0 (Opd.t 9))
  (some (7, true)), EOper.mk (some 11) (EOp.ld false 1 (Opd.t 10)) (some (7, true)), EOper.mk (some 12) (EOp.call (Opd.f 26) [Opd.t 8, Opd.t 11]) (some (7, true)),
  EOper.mk (some 13) (EOp.pick (Opd.t 7) (Opd.t 12) (Opd.c (V.bool false))) none, EOper.mk (some 14) (EOp.mv (Opd.t 13)) none, EOper.mk (some 15) (EOp.ld true 2 (Opd.t 3))
  (some (14, true)), EOper.mk (some 16) (EOp.fa 0 (Opd.t 2)) (some (14, true)), EOper.mk (some 17) (EOp.fa 1 (Opd.t 16)) (some (14, true)), EOper.mk (some 18) (EOp.ld
  false 1 (Opd.t 17)) (some (14, true)), EOper.mk (some 19) (EOp.call (Opd.f 26) [Opd.t 15, Opd.t 18]) (some (14, true)), EOper.mk (some 20) (EOp.pick (Opd.t 14) (Opd.t
  19) (Opd.c (V.bool false))) none, EOper.mk (some 4) (EOp.mv (Opd.t 20)) none]
def m29_1 : List Bool := [false, false, false, false, true, true, true, true, true, true, true, true, true, true, true, true, true, true, true, true, true]
def b29_2 : EC := EC.ret
def m29_2 : List Bool := [false, false, false, false, false, false, false, false, false, false, false, false, false, false, false, false, false, false, false, false, false]
def r29_2 : EC := b29_2
def r29_1 : EC := EC.seq b29_1 r29_2
def r29_0 : EC := EC.seq b29_0 r29_1
def e29 : EFun := EFun.mk 21 [ERes.t 4] r29_0
theorem c29 : cFun Tryd.prog 1 (fun _ => false) Tryd.f29 = some e29 := by kernel_rfl
theorem x29 : Tryd.prog.funcs[29]? = some Tryd.f29 := by kernel_rfl
theorem n29 : (Tryd.f29.name == "runtime.NumGoroutine") = false := by kernel_rfl
/-! 30: septumref02.Right -/
def b30_0 : EC := EC.ops false [EOper.mk (some 1) (EOp.box true 24 (Opd.t 0)) none, EOper.mk (some 2) (EOp.mv (Opd.c (V.bool false))) none]
def m30_0 : List Bool := [false, true, true, false, false, false, false, false]
def b30_1 : EC := EC.ops false [EOper.mk (some 3) (EOp.fa 0 (Opd.t 1)) none, EOper.mk (some 4) (EOp.ld false 1 (Opd.t 3)) none, EOper.mk (some 5) (EOp.fa 1 (Opd.t 1))
  none, EOper.mk (some 6) (EOp.ld false 1 (Opd.t 5)) none, EOper.mk (some 7) (EOp.bin .leq (Opd.t 4) (Opd.t 6)) none, EOper.mk (some 2) (EOp.mv (Opd.t 7)) none]
def m30_1 : List Bool := [false, false, true, true, true, true, true, true]
def b30_2 : EC := EC.ret
def m30_2 : List Bool := [false, false, false, false, false, false, false, false]
def r30_2 : EC := b30_2
def r30_1 : EC := EC.seq b30_1 r30_2
def r30_0 : EC := EC.seq b30_0 r30_1
def e30 : EFun := EFun.mk 8 [ERes.t 2] r30_0
theorem c30 : cFun Tryd.prog 1 (fun _ => false) Tryd.f30 = some e30 := by kernel_rfl
theorem x30 : Tryd.prog.funcs[30]? = some Tryd.f30 := by kernel_rfl
theorem n30 : (Tryd.f30.name == "runtime.NumGoroutine") = false := by kernel_rfl
/-! 31: septumref04.Reach -/
def b31_0 : EC := EC.ops false [EOper.mk (some 1) (EOp.box true 28 (Opd.t 0)) none, EOper.mk (some 2) (EOp.alloc true 24 [V.int .u32 (0), V.int .u32 (0)]) none, EOper.mk
  (some 3) (EOp.mv (Opd.c (V.bool false))) none]
def m31_0 : List Bool := [false, true, true, true, false, false, false, false, false, false, false, false, false, false, false]
def b31_1 : EC := EC.seq (EC.ops false [EOper.mk (some 4) (EOp.ld true 5 (Opd.t 1)) none, EOper.mk (some 5) (EOp.call (Opd.f 46) [Opd.t 4]) none, EOper.mk (some 6) (EOp.un
  .not (Opd.t 5)) none]) (EC.cond (Opd.t 6) (EC.seq (EC.ops false [EOper.mk (some 7) (EOp.build [V.int .u32 (0), V.int .u32 (0)] []) none, EOper.mk none (EOp.st 2 (Opd.t
  2) (Opd.t 7)) none, EOper.mk (some 3) (EOp.mv (Opd.c (V.bool false))) none]) EC.ret) EC.skip)
def m31_1 : List Bool := [false, false, false, true, true, true, true, true, false, false, false, false, false, false, false]
def b31_2 : EC := EC.ops false [EOper.mk (some 8) (EOp.fa 2 (Opd.t 1)) none, EOper.mk (some 9) (EOp.ld false 1 (Opd.t 8)) none, EOper.mk (some 10) (EOp.fa 3 (Opd.t 1))
  none, EOper.mk (some 11) (EOp.ld false 1 (Opd.t 10)) none, EOper.mk (some 12) (EOp.call (Opd.f 47) [Opd.t 9, Opd.t 11]) none, EOper.mk (some 13) (EOp.ext (Opd.t 12) 0)
  none, EOper.mk (some 14) (EOp.ext (Opd.t 12) 1) none, EOper.mk none (EOp.st 2 (Opd.t 2) (Opd.t 13)) none, EOper.mk (some 3) (EOp.mv (Opd.t 14)) none]
def m31_2 : List Bool := [false, false, false, true, false, false, false, false, true, true, true, true, true, true, true]
def b31_3 : EC := EC.ret
def m31_3 : List Bool := [false, false, false, false, false, false, false, false, false, false, false, false, false, false, false]
def r31_3 : EC := b31_3
def r31_2 : EC := EC.seq b31_2 r31_3
def r31_1 : EC := EC.seq b31_1 r31_2
def r31_0 : EC := EC.seq b31_0 r31_1
def e31 : EFun := EFun.mk 15 [ERes.c 2 2, ERes.t 3] r31_0
theorem c31 : cFun Tryd.prog 1 (fun _ => false) Tryd.f31 = some e31 := by kernel_rfl
theorem x31 : Tryd.prog.funcs[31]? = some Tryd.f31 := by kernel_rfl
theorem n31 : (Tryd.f31.name == "runtime.NumGoroutine") = false := by kernel_rfl
/-! 32: septumref02.In -/
def b32_0 : EC := EC.ops false [EOper.mk (some 2) (EOp.box true 24 (Opd.t 0)) none, EOper.mk (some 3) (EOp.box true 24 (Opd.t 1)) none, EOper.mk (some 4) (EOp.mv (Opd.c
  (V.bool false))) none]
def m32_0 : List Bool := [false, false, true, true, true, false, false, false, false, false, false, false, false, false, false, false, false, false, false, false, false, false, false]
def b32_1 : EC := EC.ops false [EOper.mk (some 5) (EOp.ld true 2 (Opd.t 2)) none, EOper.mk (some 6) (EOp.call (Opd.f 30) [Opd.t 5]) none, EOper.mk (some 7) (EOp.mv (Opd.t
  6)) none, EOper.mk (some 8) (EOp.ld true 2 (Opd.t 3)) (some (7, true)), EOper.mk (some 9) (EOp.call (Opd.f 30) [Opd.t 8]) (some (7, true)), EOper.mk (some 10) (EOp.pick
  (Opd.t 7) (Opd.t 9) (Opd.c (V.bool false))) none, EOper.mk (some 11) (EOp.mv (Opd.t 10)) none, EOper.mk (some 12) (EOp.ld true 2 (Opd.t 3)) (some (11, true)), EOper.mk
  (some 13) (EOp.fa 0 (Opd.t 2)) (some (11, true)), EOper.mk (some 14) (EOp.ld false 1 (Opd.t 13)) (some (11, true)), EOper.mk (some 15) (EOp.call (Opd.f 48) [Opd.t 12,
  Opd.t 14]) (some (11, true)), EOper.mk (some 16) (EOp.pick (Opd.t 11) (Opd.t 15) (Opd.c (V.bool false))) none, EOper.mk (some 17) (EOp.mv (Opd.t 16)) none, EOper.mk
  (some 18) (EOp.ld true 2 (Opd.t 3)) (some (17, true)), EOper.mk (some 19) (EOp.fa 1 (Opd.t 2)) (some (17, true)), EOper.mk (some 20) (EOp.ld false 1 (Opd.t 19)) (some
  (17, true)), EOper.mk (some 21) (EOp.call (Opd.f 48) [Opd.t 18, Opd.t 20]) (some (17, true)), EOper.mk (some 22) (EOp.pick (Opd.t 17) (Opd.t 21) (Opd.c (V.bool false)))
  none, EOper.mk (some 4) (EOp.mv (Opd.t 22)) none]
def m32_1 : List Bool := [false, false, false, false, true, true, true, true, true, true, true, true, true, true, true, true, true, true, true, true, true, true, true]
def b32_2 : EC := EC.ret
def m32_2 : List Bool := [false, false, false, false, false, false, false, false, false, false, false, false, false, false, false, false, false, false, false, false, false, false, false]
def r32_2 : EC := b32_2
def r32_1 : EC := EC.seq b32_1 r32_2
def r32_0 : EC := EC.seq b32_0 r32_1
def e32 : EFun := EFun.mk 23 [ERes.t 4] r32_0
theorem c32 : cFun Tryd.prog 1 (fun _ => false) Tryd.f32 = some e32 := by kernel_rfl
theorem x32 : Tryd.prog.funcs[32]? = some Tryd.f32 := by kernel_rfl
theorem n32 : (Tryd.f32.name == "runtime.NumGoroutine") = false := by kernel_rfl
/-! 33: septumref02.Meet -/
def b33_0 : EC := EC.ops false [EOper.mk (some 2) (EOp.box true 24 (Opd.t 0)) none, EOper.mk (some 3) (EOp.box true 24 (Opd.t 1)) none, EOper.mk (some 4) (EOp.alloc true
  24 [V.int .u32 (0), V.int .u32 (0)]) none, EOper.mk (some 5) (EOp.mv (Opd.c (V.bool false))) none]
def m33_0 : List Bool := [false, false, true, true, true, true, false, false, false, false, false, false, false, false, false, false, false, false, false, false, false, false, false, false, false, false, false, false, false, false, false, false, false]
def b33_1 : EC := EC.ops false [EOper.mk (some 7) (EOp.fa 0 (Opd.t 2)) none, EOper.mk (some 8) (EOp.ld false 1 (Opd.t 7)) none, EOper.mk (some 9) (EOp.fa 0 (Opd.t 3))
  none, EOper.mk (some 10) (EOp.ld false 1 (Opd.t 9)) none, EOper.mk (some 11) (EOp.mm true (Opd.t 8) (Opd.t 10)) none, EOper.mk (some 12) (EOp.fa 1 (Opd.t 2)) none,
  EOper.mk (some 13) (EOp.ld false 1 (Opd.t 12)) none, EOper.mk (some 14) (EOp.fa 1 (Opd.t 3)) none, EOper.mk (some 15) (EOp.ld false 1 (Opd.t 14)) none, EOper.mk (some
  16) (EOp.mm false (Opd.t 13) (Opd.t 15)) none, EOper.mk (some 17) (EOp.build [V.int .u32 (0), V.int .u32 (0)] [(0, 1, Opd.t 11), (1, 1, Opd.t 16)]) none, EOper.mk (some
  6) (EOp.alloc true 24 [V.int .u32 (0), V.int .u32 (0)]) none, EOper.mk none (EOp.st 2 (Opd.t 6) (Opd.t 17)) none]
def m33_1 : List Bool := [false, false, false, false, false, false, true, true, true, true, true, true, true, true, true, true, true, true, false, false, false, false, false, false, false, false, false, false, false, false, false, false, false]
def b33_2 : EC := EC.seq (EC.ops false [EOper.mk (some 18) (EOp.ld true 2 (Opd.t 2)) none, EOper.mk (some 19) (EOp.call (Opd.f 30) [Opd.t 18]) none, EOper.mk (some 20)
  (EOp.un .not (Opd.t 19)) none, EOper.mk (some 21) (EOp.mv (Opd.t 20)) none, EOper.mk (some 22) (EOp.ld true 2 (Opd.t 3)) (some (21, false)), EOper.mk (some 23) (EOp.call
  (Opd.f 30) [Opd.t 22]) (some (21, false)), EOper.mk (some 24) (EOp.un .not (Opd.t 23)) (some (21, false)), EOper.mk (some 25) (EOp.pick (Opd.t 21) (Opd.c (V.bool true))
  (Opd.t 24)) none, EOper.mk (some 26) (EOp.mv (Opd.t 25)) none, EOper.mk (some 27) (EOp.ld true 2 (Opd.t 6)) (some (26, false)), EOper.mk (some 28) (EOp.call (Opd.f 30)
  [Opd.t 27]) (some (26, false)), EOper.mk (some 29) (EOp.un .not (Opd.t 28)) (some (26, false)), EOper.mk (some 30) (EOp.pick (Opd.t 26) (Opd.c (V.bool true)) (Opd.t 29))
  none]) (EC.cond (Opd.t 30) (EC.seq (EC.ops false [EOper.mk (some 31) (EOp.build [V.int .u32 (0), V.int .u32 (0)] []) none, EOper.mk none (EOp.st 2 (Opd.t 4) (Opd.t 31))
  none, EOper.mk (some 5) (EOp.mv (Opd.c (V.bool false))) none]) EC.ret) EC.skip)
def m33_2 : List Bool := [false, false, false, false, false, true, false, false, false, false, false, false, false, false, false, false, false, false, true, true, true, true, true, true, true, true, true, true, true, true, true, true, false]
def b33_3 : EC := EC.ops false [EOper.mk (some 32) (EOp.ld true 2 (Opd.t 6)) none, EOper.mk none (EOp.st 2 (Opd.t 4) (Opd.t 32)) none, EOper.mk (some 5) (EOp.mv (Opd.c
  (V.bool true))) none]
def m33_3 : List Bool := [false, false, false, false, false, true, false, false, false, false, false, false, false, false, false, false, false, false, false, false, false, false, false, false, false, false, false, false, false, false, false, false, true]
def b33_4 : EC := EC.ret
def m33_4 : List Bool := [false, false, false, false, false, false, false, false, false, false, false, false, false, false, false, false, false, false, false, false, false, false, false, false, false, false, false, false, false, false, false, false, false]
def r33_4 : EC := b33_4
def r33_3 : EC := EC.seq b33_3 r33_4
def r33_2 : EC := EC.seq b33_2 r33_3
def r33_1 : EC := EC.seq b33_1 r33_2
def r33_0 : EC := EC.seq b33_0 r33_1
def e33 : EFun := EFun.mk 33 [ERes.c 4 2, ERes.t 5] r33_0
theorem c33 : cFun Tryd.prog 1 (fun _ => false) Tryd.f33 = some e33 := by kernel_rfl
theorem x33 : Tryd.prog.funcs[33]? = some Tryd.f33 := by kernel_rfl
theorem n33 : (Tryd.f33.name == "runtime.NumGoroutine") = false := by kernel_rfl
/-! 34: reach.Right -/
def b34_0 : EC := EC.ops false [EOper.mk (some 1) (EOp.box true 24 (Opd.t 0)) none, EOper.mk (some 2) (EOp.mv (Opd.c (V.bool false))) none]
def m34_0 : List Bool := [false, true, true, false, false, false]
def b34_1 : EC := EC.ops false [EOper.mk (some 3) (EOp.ld true 2 (Opd.t 1)) none, EOper.mk (some 4) (EOp.build [V.int .u32 (0), V.int .u32 (0)] [(0, 2, Opd.t 3)]) none,
  EOper.mk (some 5) (EOp.call (Opd.f 43) [Opd.t 4]) none, EOper.mk (some 2) (EOp.mv (Opd.t 5)) none]
def m34_1 : List Bool := [false, false, true, true, true, true]
def b34_2 : EC := EC.ret
def m34_2 : List Bool := [false, false, false, false, false, false]
def r34_2 : EC := b34_2
def r34_1 : EC := EC.seq b34_1 r34_2
def r34_0 : EC := EC.seq b34_0 r34_1
def e34 : EFun := EFun.mk 6 [ERes.t 2] r34_0
theorem c34 : cFun Tryd.prog 1 (fun _ => false) Tryd.f34 = some e34 := by kernel_rfl
theorem x34 : Tryd.prog.funcs[34]? = some Tryd.f34 := by kernel_rfl
theorem n34 : (Tryd.f34.name == "runtime.NumGoroutine") = false := by kernel_rfl
/-! 35: slices.ContainsFunc:api.Reach -/
def b35_0 : EC := EC.ops false [EOper.mk (some 4) (EOp.mv (Opd.c (V.bool false))) none]
def m35_0 : List Bool := [false, false, false, false, true, false, false, false, false]
def b35_1 : EC := EC.ops false [EOper.mk (some 5) (EOp.mv (Opd.t 0)) none, EOper.mk (some 6) (EOp.mv (Opd.t 1)) none, EOper.mk (some 7) (EOp.call (Opd.f 49) [Opd.t 5,
  Opd.t 6]) none, EOper.mk (some 8) (EOp.bin .geq (Opd.t 7) (Opd.c (V.int .i64 (0)))) none, EOper.mk (some 4) (EOp.mv (Opd.t 8)) none]
def m35_1 : List Bool := [false, false, false, false, true, true, true, true, true]
def b35_2 : EC := EC.ret
def m35_2 : List Bool := [false, false, false, false, false, false, false, false, false]
def r35_2 : EC := b35_2
def r35_1 : EC := EC.seq b35_1 r35_2
def r35_0 : EC := EC.seq b35_0 r35_1
def e35 : EFun := EFun.mk 9 [ERes.t 4] r35_0
theorem c35 : cFun Tryd.prog 1 (fun _ => false) Tryd.f35 = some e35 := by kernel_rfl
theorem x35 : Tryd.prog.funcs[35]? = some Tryd.f35 := by kernel_rfl
theorem n35 : (Tryd.f35.name == "runtime.NumGoroutine") = false := by kernel_rfl
/-! 36: reach.Apart$1 -/
def b36_0 : EC := EC.ops false [EOper.mk (some 2) (EOp.box true 24 (Opd.t 0)) none, EOper.mk (some 3) (EOp.mv (Opd.c (V.bool false))) none]
def m36_0 : List Bool := [false, false, true, true, false, false, false]
def b36_1 : EC := EC.ops false [EOper.mk (some 4) (EOp.ld true 2 (Opd.t 2)) none, EOper.mk (some 5) (EOp.ld true 2 (Opd.t 1)) none, EOper.mk (some 6) (EOp.call (Opd.f 28)
  [Opd.t 4, Opd.t 5, Opd.f 37]) none, EOper.mk (some 3) (EOp.mv (Opd.t 6)) none]
def m36_1 : List Bool := [false, false, false, true, true, true, true]
def b36_2 : EC := EC.ret
def m36_2 : List Bool := [false, false, false, false, false, false, false]
def r36_2 : EC := b36_2
def r36_1 : EC := EC.seq b36_1 r36_2
def r36_0 : EC := EC.seq b36_0 r36_1
def e36 : EFun := EFun.mk 7 [ERes.t 3] r36_0
theorem c36 : cFun Tryd.prog 1 (fun _ => false) Tryd.f36 = some e36 := by kernel_rfl
theorem x36 : Tryd.prog.funcs[36]? = some Tryd.f36 := by kernel_rfl
theorem n36 : (Tryd.f36.name == "runtime.NumGoroutine") = false := by kernel_rfl
/-! 37: reach.ends.meets -/
def b37_0 : EC := EC.ops false [EOper.mk (some 2) (EOp.box true 45 (Opd.t 0)) none, EOper.mk (some 3) (EOp.box true 45 (Opd.t 1)) none, EOper.mk (some 4) (EOp.mv (Opd.c
  (V.bool false))) none]
def m37_0 : List Bool := [false, false, true, true, true, false, false, false, false, false, false, false, false, false, false, false, false]
def b37_1 : EC := EC.ops false [EOper.mk (some 5) (EOp.ld true 2 (Opd.t 2)) none, EOper.mk (some 6) (EOp.call (Opd.f 43) [Opd.t 5]) none, EOper.mk (some 7) (EOp.mv (Opd.t
  6)) none, EOper.mk (some 8) (EOp.ld true 2 (Opd.t 3)) (some (7, true)), EOper.mk (some 9) (EOp.call (Opd.f 43) [Opd.t 8]) (some (7, true)), EOper.mk (some 10) (EOp.pick
  (Opd.t 7) (Opd.t 9) (Opd.c (V.bool false))) none, EOper.mk (some 11) (EOp.mv (Opd.t 10)) none, EOper.mk (some 12) (EOp.ld true 2 (Opd.t 2)) (some (11, true)), EOper.mk
  (some 13) (EOp.ld true 2 (Opd.t 3)) (some (11, true)), EOper.mk (some 14) (EOp.call (Opd.f 50) [Opd.t 12, Opd.t 13]) (some (11, true)), EOper.mk (some 15) (EOp.call
  (Opd.f 43) [Opd.t 14]) (some (11, true)), EOper.mk (some 16) (EOp.pick (Opd.t 11) (Opd.t 15) (Opd.c (V.bool false))) none, EOper.mk (some 4) (EOp.mv (Opd.t 16)) none]
def m37_1 : List Bool := [false, false, false, false, true, true, true, true, true, true, true, true, true, true, true, true, true]
def b37_2 : EC := EC.ret
def m37_2 : List Bool := [false, false, false, false, false, false, false, false, false, false, false, false, false, false, false, false, false]
def r37_2 : EC := b37_2
def r37_1 : EC := EC.seq b37_1 r37_2
def r37_0 : EC := EC.seq b37_0 r37_1
def e37 : EFun := EFun.mk 17 [ERes.t 4] r37_0
theorem c37 : cFun Tryd.prog 1 (fun _ => false) Tryd.f37 = some e37 := by kernel_rfl
theorem x37 : Tryd.prog.funcs[37]? = some Tryd.f37 := by kernel_rfl
theorem n37 : (Tryd.f37.name == "runtime.NumGoroutine") = false := by kernel_rfl
/-! 38: slices.ContainsFunc:func()_bool -/
def b38_0 : EC := EC.ops false [EOper.mk (some 4) (EOp.mv (Opd.c (V.bool false))) none]
def m38_0 : List Bool := [false, false, false, false, true, false, false, false, false]
def b38_1 : EC := EC.ops false [EOper.mk (some 5) (EOp.mv (Opd.t 0)) none, EOper.mk (some 6) (EOp.mv (Opd.t 1)) none, EOper.mk (some 7) (EOp.call (Opd.f 51) [Opd.t 5,
  Opd.t 6]) none, EOper.mk (some 8) (EOp.bin .geq (Opd.t 7) (Opd.c (V.int .i64 (0)))) none, EOper.mk (some 4) (EOp.mv (Opd.t 8)) none]
def m38_1 : List Bool := [false, false, false, false, true, true, true, true, true]
def b38_2 : EC := EC.ret
def m38_2 : List Bool := [false, false, false, false, false, false, false, false, false]
def r38_2 : EC := b38_2
def r38_1 : EC := EC.seq b38_1 r38_2
def r38_0 : EC := EC.seq b38_0 r38_1
def e38 : EFun := EFun.mk 9 [ERes.t 4] r38_0
theorem c38 : cFun Tryd.prog 1 (fun _ => false) Tryd.f38 = some e38 := by kernel_rfl
theorem x38 : Tryd.prog.funcs[38]? = some Tryd.f38 := by kernel_rfl
theorem n38 : (Tryd.f38.name == "runtime.NumGoroutine") = false := by kernel_rfl
/-! 39: region.rule.world -/
def b39_0 : EC := EC.ops false [EOper.mk (some 1) (EOp.box true 43 (Opd.t 0)) none, EOper.mk (some 2) (EOp.mv (Opd.c (V.bool false))) none]
def m39_0 : List Bool := [false, true, true, false, false, false, false, false, false, false, false, false, false]
def b39_1 : EC := EC.ops false [EOper.mk (some 3) (EOp.fa 0 (Opd.t 1)) none, EOper.mk (some 4) (EOp.fa 1 (Opd.t 3)) none, EOper.mk (some 5) (EOp.ld false 1 (Opd.t 4))
  none, EOper.mk (some 6) (EOp.bin .geq (Opd.t 5) (Opd.c (V.int .i64 (0)))) none, EOper.mk (some 7) (EOp.mv (Opd.t 6)) none, EOper.mk (some 8) (EOp.fa 0 (Opd.t 1)) (some
  (7, true)), EOper.mk (some 9) (EOp.fa 1 (Opd.t 8)) (some (7, true)), EOper.mk (some 10) (EOp.ld false 1 (Opd.t 9)) (some (7, true)), EOper.mk (some 11) (EOp.bin .lss
  (Opd.t 10) (Opd.c (V.int .i64 (8)))) (some (7, true)), EOper.mk (some 12) (EOp.pick (Opd.t 7) (Opd.t 11) (Opd.c (V.bool false))) none, EOper.mk (some 2) (EOp.mv (Opd.t
  12)) none]
def m39_1 : List Bool := [false, false, true, true, true, true, true, true, true, true, true, true, true]
def b39_2 : EC := EC.ret
def m39_2 : List Bool := [false, false, false, false, false, false, false, false, false, false, false, false, false]
def r39_2 : EC := b39_2
def r39_1 : EC := EC.seq b39_1 r39_2
def r39_0 : EC := EC.seq b39_0 r39_1
def e39 : EFun := EFun.mk 13 [ERes.t 2] r39_0
theorem c39 : cFun Tryd.prog 1 (fun _ => false) Tryd.f39 = some e39 := by kernel_rfl
theorem x39 : Tryd.prog.funcs[39]? = some Tryd.f39 := by kernel_rfl
theorem n39 : (Tryd.f39.name == "runtime.NumGoroutine") = false := by kernel_rfl
/-! 40: region.rule.ends -/
def b40_0 : EC := EC.ops false [EOper.mk (some 1) (EOp.box true 43 (Opd.t 0)) none, EOper.mk (some 2) (EOp.mv (Opd.c (V.bool false))) none]
def m40_0 : List Bool := [false, true, true, false, false, false, false]
def b40_1 : EC := EC.ops false [EOper.mk (some 3) (EOp.fa 0 (Opd.t 1)) none, EOper.mk (some 4) (EOp.fa 2 (Opd.t 3)) none, EOper.mk (some 5) (EOp.ld true 2 (Opd.t 4)) none,
  EOper.mk (some 6) (EOp.call (Opd.f 34) [Opd.t 5]) none, EOper.mk (some 2) (EOp.mv (Opd.t 6)) none]
def m40_1 : List Bool := [false, false, true, true, true, true, true]
def b40_2 : EC := EC.ret
def m40_2 : List Bool := [false, false, false, false, false, false, false]
def r40_2 : EC := b40_2
def r40_1 : EC := EC.seq b40_1 r40_2
def r40_0 : EC := EC.seq b40_0 r40_1
def e40 : EFun := EFun.mk 7 [ERes.t 2] r40_0
theorem c40 : cFun Tryd.prog 1 (fun _ => false) Tryd.f40 = some e40 := by kernel_rfl
theorem x40 : Tryd.prog.funcs[40]? = some Tryd.f40 := by kernel_rfl
theorem n40 : (Tryd.f40.name == "runtime.NumGoroutine") = false := by kernel_rfl
/-! 41: region.rule.rank -/
def b41_0 : EC := EC.ops false [EOper.mk (some 1) (EOp.box true 43 (Opd.t 0)) none, EOper.mk (some 2) (EOp.mv (Opd.c (V.bool false))) none]
def m41_0 : List Bool := [false, true, true, false, false, false, false, false, false, false, false, false, false]
def b41_1 : EC := EC.ops false [EOper.mk (some 3) (EOp.fa 0 (Opd.t 1)) none, EOper.mk (some 4) (EOp.fa 6 (Opd.t 3)) none, EOper.mk (some 5) (EOp.ld false 1 (Opd.t 4))
  none, EOper.mk (some 6) (EOp.bin .geq (Opd.t 5) (Opd.c (V.int .i64 (0)))) none, EOper.mk (some 7) (EOp.mv (Opd.t 6)) none, EOper.mk (some 8) (EOp.fa 0 (Opd.t 1)) (some
  (7, true)), EOper.mk (some 9) (EOp.fa 6 (Opd.t 8)) (some (7, true)), EOper.mk (some 10) (EOp.ld false 1 (Opd.t 9)) (some (7, true)), EOper.mk (some 11) (EOp.bin .leq
  (Opd.t 10) (Opd.c (V.int .i64 (255)))) (some (7, true)), EOper.mk (some 12) (EOp.pick (Opd.t 7) (Opd.t 11) (Opd.c (V.bool false))) none, EOper.mk (some 2) (EOp.mv (Opd.t
  12)) none]
def m41_1 : List Bool := [false, false, true, true, true, true, true, true, true, true, true, true, true]
def b41_2 : EC := EC.ret
def m41_2 : List Bool := [false, false, false, false, false, false, false, false, false, false, false, false, false]
def r41_2 : EC := b41_2
def r41_1 : EC := EC.seq b41_1 r41_2
def r41_0 : EC := EC.seq b41_0 r41_1
def e41 : EFun := EFun.mk 13 [ERes.t 2] r41_0
theorem c41 : cFun Tryd.prog 1 (fun _ => false) Tryd.f41 = some e41 := by kernel_rfl
theorem x41 : Tryd.prog.funcs[41]? = some Tryd.f41 := by kernel_rfl
theorem n41 : (Tryd.f41.name == "runtime.NumGoroutine") = false := by kernel_rfl
/-! 42: region.rule.on$1 -/
def b42_0 : EC := EC.ops false [EOper.mk (some 2) (EOp.mv (Opd.c (V.bool false))) none]
def m42_0 : List Bool := [false, false, true, false, false, false]
def b42_1 : EC := EC.ops false [EOper.mk (some 3) (EOp.mv (Opd.t 0)) none, EOper.mk (some 4) (EOp.call (Opd.t 3) []) none, EOper.mk (some 5) (EOp.un .not (Opd.t 4)) none,
  EOper.mk (some 2) (EOp.mv (Opd.t 5)) none]
def m42_1 : List Bool := [false, false, true, true, true, true]
def b42_2 : EC := EC.ret
def m42_2 : List Bool := [false, false, false, false, false, false]
def r42_2 : EC := b42_2
def r42_1 : EC := EC.seq b42_1 r42_2
def r42_0 : EC := EC.seq b42_0 r42_1
def e42 : EFun := EFun.mk 6 [ERes.t 2] r42_0
theorem c42 : cFun Tryd.prog 1 (fun _ => false) Tryd.f42 = some e42 := by kernel_rfl
theorem x42 : Tryd.prog.funcs[42]? = some Tryd.f42 := by kernel_rfl
theorem n42 : (Tryd.f42.name == "runtime.NumGoroutine") = false := by kernel_rfl
/-! 43: reach.ends.right -/
def b43_0 : EC := EC.ops false [EOper.mk (some 1) (EOp.box true 45 (Opd.t 0)) none, EOper.mk (some 2) (EOp.mv (Opd.c (V.bool false))) none]
def m43_0 : List Bool := [false, true, true, false, false, false, false, false, false, false]
def b43_1 : EC := EC.ops false [EOper.mk (some 3) (EOp.fa 0 (Opd.t 1)) none, EOper.mk (some 4) (EOp.fa 0 (Opd.t 3)) none, EOper.mk (some 5) (EOp.ld false 1 (Opd.t 4))
  none, EOper.mk (some 6) (EOp.fa 0 (Opd.t 1)) none, EOper.mk (some 7) (EOp.fa 1 (Opd.t 6)) none, EOper.mk (some 8) (EOp.ld false 1 (Opd.t 7)) none, EOper.mk (some 9)
  (EOp.bin .leq (Opd.t 5) (Opd.t 8)) none, EOper.mk (some 2) (EOp.mv (Opd.t 9)) none]
def m43_1 : List Bool := [false, false, true, true, true, true, true, true, true, true]
def b43_2 : EC := EC.ret
def m43_2 : List Bool := [false, false, false, false, false, false, false, false, false, false]
def r43_2 : EC := b43_2
def r43_1 : EC := EC.seq b43_1 r43_2
def r43_0 : EC := EC.seq b43_0 r43_1
def e43 : EFun := EFun.mk 10 [ERes.t 2] r43_0
theorem c43 : cFun Tryd.prog 1 (fun _ => false) Tryd.f43 = some e43 := by kernel_rfl
theorem x43 : Tryd.prog.funcs[43]? = some Tryd.f43 := by kernel_rfl
theorem n43 : (Tryd.f43.name == "runtime.NumGoroutine") = false := by kernel_rfl
/-! 44: access.Right -/
def b44_0 : EC := EC.ops false [EOper.mk (some 1) (EOp.box true 28 (Opd.t 0)) none, EOper.mk (some 2) (EOp.mv (Opd.c (V.bool false))) none]
def m44_0 : List Bool := [false, true, true, false, false, false]
def b44_1 : EC := EC.ops false [EOper.mk (some 3) (EOp.ld true 5 (Opd.t 1)) none, EOper.mk (some 4) (EOp.build [V.int .i64 (0), V.bool false, V.int .u32 (0), V.int .i64
  (0), V.int .u32 (0)] [(0, 5, Opd.t 3)]) none, EOper.mk (some 5) (EOp.call (Opd.f 52) [Opd.t 4]) none, EOper.mk (some 2) (EOp.mv (Opd.t 5)) none]
def m44_1 : List Bool := [false, false, true, true, true, true]
def b44_2 : EC := EC.ret
def m44_2 : List Bool := [false, false, false, false, false, false]
def r44_2 : EC := b44_2
def r44_1 : EC := EC.seq b44_1 r44_2
def r44_0 : EC := EC.seq b44_0 r44_1
def e44 : EFun := EFun.mk 6 [ERes.t 2] r44_0
theorem c44 : cFun Tryd.prog 1 (fun _ => false) Tryd.f44 = some e44 := by kernel_rfl
theorem x44 : Tryd.prog.funcs[44]? = some Tryd.f44 := by kernel_rfl
theorem n44 : (Tryd.f44.name == "runtime.NumGoroutine") = false := by kernel_rfl
/-! 45: reach.Of -/
def b45_0 : EC := EC.ops false [EOper.mk (some 4) (EOp.alloc true 24 [V.int .u32 (0), V.int .u32 (0)]) none, EOper.mk (some 5) (EOp.mv (Opd.c (V.bool false))) none]
def m45_0 : List Bool := [false, false, false, false, true, true, false, false, false, false, false, false, false, false, false, false, false, false, false, false, false, false, false, false]
def b45_1 : EC := EC.seq (EC.ops false [EOper.mk (some 6) (EOp.mv (Opd.t 1)) none, EOper.mk (some 7) (EOp.bin .lss (Opd.t 6) (Opd.c (V.int .i64 (1)))) none, EOper.mk (some
  8) (EOp.mv (Opd.t 7)) none, EOper.mk (some 9) (EOp.mv (Opd.t 1)) (some (8, false)), EOper.mk (some 10) (EOp.bin .sub (Opd.t 9) (Opd.c (V.int .i64 (1)))) (some (8,
  false)), EOper.mk (some 11) (EOp.mv (Opd.t 0)) (some (8, false)), EOper.mk (some 12) (EOp.un .xor (Opd.t 11)) (some (8, false)), EOper.mk (some 13) (EOp.conv .i64 (Opd.t
  12)) (some (8, false)), EOper.mk (some 14) (EOp.bin .gtr (Opd.t 10) (Opd.t 13)) (some (8, false)), EOper.mk (some 15) (EOp.pick (Opd.t 8) (Opd.c (V.bool true)) (Opd.t
  14)) none]) (EC.cond (Opd.t 15) (EC.seq (EC.ops false [EOper.mk (some 16) (EOp.build [V.int .u32 (0), V.int .u32 (0)] []) none, EOper.mk none (EOp.st 2 (Opd.t 4) (Opd.t
  16)) none, EOper.mk (some 5) (EOp.mv (Opd.c (V.bool false))) none]) EC.ret) EC.skip)
def m45_1 : List Bool := [false, false, false, false, false, true, true, true, true, true, true, true, true, true, true, true, true, false, false, false, false, false, false, false]
def b45_2 : EC := EC.ops false [EOper.mk (some 17) (EOp.mv (Opd.t 0)) none, EOper.mk (some 18) (EOp.mv (Opd.t 0)) none, EOper.mk (some 19) (EOp.mv (Opd.t 1)) none,
  EOper.mk (some 20) (EOp.bin .sub (Opd.t 19) (Opd.c (V.int .i64 (1)))) none, EOper.mk (some 21) (EOp.conv .u32 (Opd.t 20)) none, EOper.mk (some 22) (EOp.bin .add (Opd.t
  18) (Opd.t 21)) none, EOper.mk (some 23) (EOp.build [V.int .u32 (0), V.int .u32 (0)] [(0, 1, Opd.t 17), (1, 1, Opd.t 22)]) none, EOper.mk none (EOp.st 2 (Opd.t 4) (Opd.t
  23)) none, EOper.mk (some 5) (EOp.mv (Opd.c (V.bool true))) none]
def m45_2 : List Bool := [false, false, false, false, false, true, false, false, false, false, false, false, false, false, false, false, false, true, true, true, true, true, true, true]
def b45_3 : EC := EC.ret
def m45_3 : List Bool := [false, false, false, false, false, false, false, false, false, false, false, false, false, false, false, false, false, false, false, false, false, false, false, false]
def r45_3 : EC := b45_3
def r45_2 : EC := EC.seq b45_2 r45_3
def r45_1 : EC := EC.seq b45_1 r45_2
def r45_0 : EC := EC.seq b45_0 r45_1
def e45 : EFun := EFun.mk 24 [ERes.c 4 2, ERes.t 5] r45_0
theorem c45 : cFun Tryd.prog 1 (fun _ => false) Tryd.f45 = some e45 := by kernel_rfl
theorem x45 : Tryd.prog.funcs[45]? = some Tryd.f45 := by kernel_rfl
theorem n45 : (Tryd.f45.name == "runtime.NumGoroutine") = false := by kernel_rfl
/-! 46: septumref04.Right -/
def b46_0 : EC := EC.ops false [EOper.mk (some 1) (EOp.box true 28 (Opd.t 0)) none, EOper.mk (some 2) (EOp.mv (Opd.c (V.bool false))) none]
def m46_0 : List Bool := [false, true, true, false, false, false, false, false, false, false, false, false, false, false, false, false, false, false, false, false, false, false, false, false, false, false, false, false, false, false, false, false, false, false, false, false, false, false, false, false, false, false, false, false, false, false]
def b46_1 : EC := EC.ops false [EOper.mk (some 6) (EOp.fa 4 (Opd.t 1)) none, EOper.mk (some 7) (EOp.ld false 1 (Opd.t 6)) none, EOper.mk (some 8) (EOp.fa 3 (Opd.t 1))
  none, EOper.mk (some 9) (EOp.ld false 1 (Opd.t 8)) none, EOper.mk (some 10) (EOp.call (Opd.f 53) [Opd.t 7, Opd.t 9]) none, EOper.mk (some 5) (EOp.mv (Opd.t 10)) none,
  EOper.mk (some 11) (EOp.ext (Opd.t 5) 0) none, EOper.mk (some 12) (EOp.ext (Opd.t 5) 1) none, EOper.mk (some 3) (EOp.mv (Opd.t 11)) none, EOper.mk (some 4) (EOp.mv
  (Opd.t 12)) none]
def m46_1 : List Bool := [false, false, false, true, true, true, true, true, true, true, true, true, true, false, false, false, false, false, false, false, false, false, false, false, false, false, false, false, false, false, false, false, false, false, false, false, false, false, false, false, false, false, false, false, false, false]
def b46_2 : EC := EC.ops false [EOper.mk (some 13) (EOp.fa 0 (Opd.t 1)) none, EOper.mk (some 14) (EOp.ld false 1 (Opd.t 13)) none, EOper.mk (some 15) (EOp.bin .geq (Opd.t
  14) (Opd.c (V.int .i64 (0)))) none, EOper.mk (some 16) (EOp.mv (Opd.t 15)) none, EOper.mk (some 17) (EOp.fa 0 (Opd.t 1)) (some (16, true)), EOper.mk (some 18) (EOp.ld
  false 1 (Opd.t 17)) (some (16, true)), EOper.mk (some 19) (EOp.bin .lss (Opd.t 18) (Opd.c (V.int .i64 (8)))) (some (16, true)), EOper.mk (some 20) (EOp.pick (Opd.t 16)
  (Opd.t 19) (Opd.c (V.bool false))) none, EOper.mk (some 21) (EOp.mv (Opd.t 20)) none, EOper.mk (some 22) (EOp.fa 2 (Opd.t 1)) (some (21, true)), EOper.mk (some 23)
  (EOp.ld false 1 (Opd.t 22)) (some (21, true)), EOper.mk (some 24) (EOp.fa 3 (Opd.t 1)) (some (21, true)), EOper.mk (some 25) (EOp.ld false 1 (Opd.t 24)) (some (21,
  true)), EOper.mk (some 26) (EOp.call (Opd.f 54) [Opd.t 23, Opd.t 25]) (some (21, true)), EOper.mk (some 27) (EOp.pick (Opd.t 21) (Opd.t 26) (Opd.c (V.bool false))) none,
  EOper.mk (some 28) (EOp.mv (Opd.t 27)) none, EOper.mk (some 29) (EOp.mv (Opd.t 4)) (some (28, true)), EOper.mk (some 30) (EOp.pick (Opd.t 28) (Opd.t 29) (Opd.c (V.bool
  false))) none, EOper.mk (some 31) (EOp.mv (Opd.t 30)) none, EOper.mk (some 32) (EOp.mv (Opd.t 3)) (some (31, true)), EOper.mk (some 33) (EOp.fa 4 (Opd.t 1)) (some (31,
  true)), EOper.mk (some 34) (EOp.ld false 1 (Opd.t 33)) (some (31, true)), EOper.mk (some 35) (EOp.bin .eql (Opd.t 32) (Opd.t 34)) (some (31, true)), EOper.mk (some 36)
  (EOp.pick (Opd.t 31) (Opd.t 35) (Opd.c (V.bool false))) none, EOper.mk (some 37) (EOp.mv (Opd.t 36)) none, EOper.mk (some 38) (EOp.fa 1 (Opd.t 1)) (some (37, true)),
  EOper.mk (some 39) (EOp.ld false 1 (Opd.t 38)) (some (37, true)), EOper.mk (some 40) (EOp.mv (Opd.t 39)) (some (37, true)), EOper.mk (some 41) (EOp.fa 4 (Opd.t 1)) (some
  (40, false)), EOper.mk (some 42) (EOp.ld false 1 (Opd.t 41)) (some (40, false)), EOper.mk (some 43) (EOp.bin .eql (Opd.t 42) (Opd.c (V.int .u32 (0)))) (some (40,
  false)), EOper.mk (some 44) (EOp.pick (Opd.t 40) (Opd.c (V.bool true)) (Opd.t 43)) (some (37, true)), EOper.mk (some 45) (EOp.pick (Opd.t 37) (Opd.t 44) (Opd.c (V.bool
  false))) none, EOper.mk (some 2) (EOp.mv (Opd.t 45)) none]
def m46_2 : List Bool := [false, false, true, false, false, false, false, false, false, false, false, false, false, true, true, true, true, true, true, true, true, true, true, true, true, true, true, true, true, true, true, true, true, true, true, true, true, true, true, true, true, true, true, true, true, true]
def b46_3 : EC := EC.ret
def m46_3 : List Bool := [false, false, false, false, false, false, false, false, false, false, false, false, false, false, false, false, false, false, false, false, false, false, false, false, false, false, false, false, false, false, false, false, false, false, false, false, false, false, false, false, false, false, false, false, false, false]
def r46_3 : EC := b46_3
def r46_2 : EC := EC.seq b46_2 r46_3
def r46_1 : EC := EC.seq b46_1 r46_2
def r46_0 : EC := EC.seq b46_0 r46_1
def e46 : EFun := EFun.mk 46 [ERes.t 2] r46_0
theorem c46 : cFun Tryd.prog 1 (fun _ => false) Tryd.f46 = some e46 := by kernel_rfl
theorem x46 : Tryd.prog.funcs[46]? = some Tryd.f46 := by kernel_rfl
theorem n46 : (Tryd.f46.name == "runtime.NumGoroutine") = false := by kernel_rfl
/-! 47: septumref02.Of -/
def b47_0 : EC := EC.ops false [EOper.mk (some 4) (EOp.alloc true 24 [V.int .u32 (0), V.int .u32 (0)]) none, EOper.mk (some 5) (EOp.mv (Opd.c (V.bool false))) none]
def m47_0 : List Bool := [false, false, false, false, true, true, false, false, false, false, false, false, false, false, false, false, false, false, false, false, false, false, false, false]
def b47_1 : EC := EC.seq (EC.ops false [EOper.mk (some 6) (EOp.mv (Opd.t 1)) none, EOper.mk (some 7) (EOp.bin .lss (Opd.t 6) (Opd.c (V.int .i64 (1)))) none, EOper.mk (some
  8) (EOp.mv (Opd.t 7)) none, EOper.mk (some 9) (EOp.mv (Opd.t 1)) (some (8, false)), EOper.mk (some 10) (EOp.mv (Opd.t 0)) (some (8, false)), EOper.mk (some 11) (EOp.conv
  .i64 (Opd.t 10)) (some (8, false)), EOper.mk (some 12) (EOp.bin .sub (Opd.c (V.int .i64 (4294967296))) (Opd.t 11)) (some (8, false)), EOper.mk (some 13) (EOp.bin .gtr
  (Opd.t 9) (Opd.t 12)) (some (8, false)), EOper.mk (some 14) (EOp.pick (Opd.t 8) (Opd.c (V.bool true)) (Opd.t 13)) none]) (EC.cond (Opd.t 14) (EC.seq (EC.ops false
  [EOper.mk (some 15) (EOp.build [V.int .u32 (0), V.int .u32 (0)] []) none, EOper.mk none (EOp.st 2 (Opd.t 4) (Opd.t 15)) none, EOper.mk (some 5) (EOp.mv (Opd.c (V.bool
  false))) none]) EC.ret) EC.skip)
def m47_1 : List Bool := [false, false, false, false, false, true, true, true, true, true, true, true, true, true, true, true, false, false, false, false, false, false, false, false]
def b47_2 : EC := EC.ops false [EOper.mk (some 16) (EOp.mv (Opd.t 0)) none, EOper.mk (some 17) (EOp.mv (Opd.t 0)) none, EOper.mk (some 18) (EOp.conv .i64 (Opd.t 17)) none,
  EOper.mk (some 19) (EOp.mv (Opd.t 1)) none, EOper.mk (some 20) (EOp.bin .add (Opd.t 18) (Opd.t 19)) none, EOper.mk (some 21) (EOp.bin .sub (Opd.t 20) (Opd.c (V.int .i64
  (1)))) none, EOper.mk (some 22) (EOp.conv .u32 (Opd.t 21)) none, EOper.mk (some 23) (EOp.build [V.int .u32 (0), V.int .u32 (0)] [(0, 1, Opd.t 16), (1, 1, Opd.t 22)])
  none, EOper.mk none (EOp.st 2 (Opd.t 4) (Opd.t 23)) none, EOper.mk (some 5) (EOp.mv (Opd.c (V.bool true))) none]
def m47_2 : List Bool := [false, false, false, false, false, true, false, false, false, false, false, false, false, false, false, false, true, true, true, true, true, true, true, true]
def b47_3 : EC := EC.ret
def m47_3 : List Bool := [false, false, false, false, false, false, false, false, false, false, false, false, false, false, false, false, false, false, false, false, false, false, false, false]
def r47_3 : EC := b47_3
def r47_2 : EC := EC.seq b47_2 r47_3
def r47_1 : EC := EC.seq b47_1 r47_2
def r47_0 : EC := EC.seq b47_0 r47_1
def e47 : EFun := EFun.mk 24 [ERes.c 4 2, ERes.t 5] r47_0
theorem c47 : cFun Tryd.prog 1 (fun _ => false) Tryd.f47 = some e47 := by kernel_rfl
theorem x47 : Tryd.prog.funcs[47]? = some Tryd.f47 := by kernel_rfl
theorem n47 : (Tryd.f47.name == "runtime.NumGoroutine") = false := by kernel_rfl
/-! 48: septumref02.Has -/
def b48_0 : EC := EC.ops false [EOper.mk (some 2) (EOp.box true 24 (Opd.t 0)) none, EOper.mk (some 4) (EOp.mv (Opd.c (V.bool false))) none]
def m48_0 : List Bool := [false, false, true, false, true, false, false, false, false, false, false, false, false, false, false]
def b48_1 : EC := EC.ops false [EOper.mk (some 5) (EOp.mv (Opd.t 1)) none, EOper.mk (some 6) (EOp.fa 0 (Opd.t 2)) none, EOper.mk (some 7) (EOp.ld false 1 (Opd.t 6)) none,
  EOper.mk (some 8) (EOp.bin .geq (Opd.t 5) (Opd.t 7)) none, EOper.mk (some 9) (EOp.mv (Opd.t 8)) none, EOper.mk (some 10) (EOp.mv (Opd.t 1)) (some (9, true)), EOper.mk
  (some 11) (EOp.fa 1 (Opd.t 2)) (some (9, true)), EOper.mk (some 12) (EOp.ld false 1 (Opd.t 11)) (some (9, true)), EOper.mk (some 13) (EOp.bin .leq (Opd.t 10) (Opd.t 12))
  (some (9, true)), EOper.mk (some 14) (EOp.pick (Opd.t 9) (Opd.t 13) (Opd.c (V.bool false))) none, EOper.mk (some 4) (EOp.mv (Opd.t 14)) none]
def m48_1 : List Bool := [false, false, false, false, true, true, true, true, true, true, true, true, true, true, true]
def b48_2 : EC := EC.ret
def m48_2 : List Bool := [false, false, false, false, false, false, false, false, false, false, false, false, false, false, false]
def r48_2 : EC := b48_2
def r48_1 : EC := EC.seq b48_1 r48_2
def r48_0 : EC := EC.seq b48_0 r48_1
def e48 : EFun := EFun.mk 15 [ERes.t 4] r48_0
theorem c48 : cFun Tryd.prog 1 (fun _ => false) Tryd.f48 = some e48 := by kernel_rfl
theorem x48 : Tryd.prog.funcs[48]? = some Tryd.f48 := by kernel_rfl
theorem n48 : (Tryd.f48.name == "runtime.NumGoroutine") = false := by kernel_rfl
/-! 49: slices.IndexFunc:api.Reach -/
def l49_0p0 : EC := EC.ops false [EOper.mk (some 9) (EOp.bin .lss (Opd.t 8) (Opd.t 7)) none]
def l49_0m0 : List Bool := [false, false, false, false, false, false, false, false, false, true, false, false, false, false, false, false, false, false, false]
def l49_0p1 : EC := EC.cond (Opd.t 9) EC.skip (EC.exit 0)
def l49_0m1 : List Bool := [false, false, false, false, false, false, false, false, false, false, false, false, false, false, false, false, false, false, false]
def l49_0p2 : EC := EC.block 1 (EC.seq (EC.ops false [EOper.mk (some 10) (EOp.mv (Opd.t 8)) none, EOper.mk (some 5) (EOp.mv (Opd.t 10)) none]) (EC.seq (EC.ops false
  [EOper.mk (some 11) (EOp.mv (Opd.t 1)) none, EOper.mk (some 12) (EOp.mv (Opd.t 0)) none, EOper.mk (some 13) (EOp.mv (Opd.t 5)) none, EOper.mk (some 14) (EOp.ixs 2 (Opd.t
  12) (Opd.t 13)) none, EOper.mk (some 15) (EOp.ld true 2 (Opd.t 14)) none, EOper.mk (some 16) (EOp.call (Opd.t 11) [Opd.t 15]) none]) (EC.cond (Opd.t 16) (EC.seq (EC.ops
  false [EOper.mk (some 17) (EOp.mv (Opd.t 5)) none, EOper.mk (some 4) (EOp.mv (Opd.t 17)) none]) EC.ret) EC.skip)))
def l49_0m2 : List Bool := [false, false, false, false, true, true, false, false, false, false, true, true, true, true, true, true, true, true, false]
def l49_0p3 : EC := EC.ops false [EOper.mk (some 18) (EOp.bin .add (Opd.t 8) (Opd.c (V.int .i64 (1)))) none, EOper.mk (some 8) (EOp.mv (Opd.t 18)) none]
def l49_0m3 : List Bool := [false, false, false, false, false, false, false, false, true, false, false, false, false, false, false, false, false, false, true]
def l49_0r3 : EC := l49_0p3
def l49_0r2 : EC := EC.seq l49_0p2 l49_0r3
def l49_0r1 : EC := EC.seq l49_0p1 l49_0r2
def l49_0r0 : EC := EC.seq l49_0p0 l49_0r1
def l49_0 : EC := l49_0r0
def b49_0 : EC := EC.ops false [EOper.mk (some 4) (EOp.mv (Opd.c (V.int .i64 (0)))) none]
def m49_0 : List Bool := [false, false, false, false, true, false, false, false, false, false, false, false, false, false, false, false, false, false, false]
def b49_1 : EC := EC.seq (EC.ops false [EOper.mk (some 6) (EOp.mv (Opd.t 0)) none, EOper.mk (some 7) (EOp.len false (Opd.t 6)) none, EOper.mk (some 8) (EOp.mv (Opd.c
  (V.int .i64 (0)))) none]) (EC.block 0 (EC.loop l49_0))
def m49_1 : List Bool := [false, false, false, false, true, true, true, true, true, true, true, true, true, true, true, true, true, true, true]
def b49_2 : EC := EC.ops false [EOper.mk (some 4) (EOp.mv (Opd.c (V.int .i64 (-1)))) none]
def m49_2 : List Bool := [false, false, false, false, true, false, false, false, false, false, false, false, false, false, false, false, false, false, false]
def b49_3 : EC := EC.ret
def m49_3 : List Bool := [false, false, false, false, false, false, false, false, false, false, false, false, false, false, false, false, false, false, false]
def r49_3 : EC := b49_3
def r49_2 : EC := EC.seq b49_2 r49_3
def r49_1 : EC := EC.seq b49_1 r49_2
def r49_0 : EC := EC.seq b49_0 r49_1
def e49 : EFun := EFun.mk 19 [ERes.t 4] r49_0
theorem c49 : cFun Tryd.prog 1 (fun _ => false) Tryd.f49 = some e49 := by kernel_rfl
theorem x49 : Tryd.prog.funcs[49]? = some Tryd.f49 := by kernel_rfl
theorem n49 : (Tryd.f49.name == "runtime.NumGoroutine") = false := by kernel_rfl
/-! 50: reach.ends.both -/
def b50_0 : EC := EC.ops false [EOper.mk (some 2) (EOp.box true 45 (Opd.t 0)) none, EOper.mk (some 3) (EOp.box true 45 (Opd.t 1)) none, EOper.mk (some 4) (EOp.alloc true
  45 [V.int .u32 (0), V.int .u32 (0)]) none]
def m50_0 : List Bool := [false, false, true, true, true, false, false, false, false, false, false, false, false, false, false, false, false, false, false, false, false]
def b50_1 : EC := EC.ops false [EOper.mk (some 5) (EOp.fa 0 (Opd.t 2)) none, EOper.mk (some 6) (EOp.fa 0 (Opd.t 5)) none, EOper.mk (some 7) (EOp.ld false 1 (Opd.t 6))
  none, EOper.mk (some 8) (EOp.fa 0 (Opd.t 3)) none, EOper.mk (some 9) (EOp.fa 0 (Opd.t 8)) none, EOper.mk (some 10) (EOp.ld false 1 (Opd.t 9)) none, EOper.mk (some 11)
  (EOp.mm true (Opd.t 7) (Opd.t 10)) none, EOper.mk (some 12) (EOp.fa 0 (Opd.t 2)) none, EOper.mk (some 13) (EOp.fa 1 (Opd.t 12)) none, EOper.mk (some 14) (EOp.ld false 1
  (Opd.t 13)) none, EOper.mk (some 15) (EOp.fa 0 (Opd.t 3)) none, EOper.mk (some 16) (EOp.fa 1 (Opd.t 15)) none, EOper.mk (some 17) (EOp.ld false 1 (Opd.t 16)) none,
  EOper.mk (some 18) (EOp.mm false (Opd.t 14) (Opd.t 17)) none, EOper.mk (some 19) (EOp.build [V.int .u32 (0), V.int .u32 (0)] [(0, 1, Opd.t 11), (1, 1, Opd.t 18)]) none,
  EOper.mk (some 20) (EOp.build [V.int .u32 (0), V.int .u32 (0)] [(0, 2, Opd.t 19)]) none, EOper.mk none (EOp.st 2 (Opd.t 4) (Opd.t 20)) none]
def m50_1 : List Bool := [false, false, false, false, false, true, true, true, true, true, true, true, true, true, true, true, true, true, true, true, true]
def b50_2 : EC := EC.ret
def m50_2 : List Bool := [false, false, false, false, false, false, false, false, false, false, false, false, false, false, false, false, false, false, false, false, false]
def r50_2 : EC := b50_2
def r50_1 : EC := EC.seq b50_1 r50_2
def r50_0 : EC := EC.seq b50_0 r50_1
def e50 : EFun := EFun.mk 21 [ERes.c 4 2] r50_0
theorem c50 : cFun Tryd.prog 1 (fun _ => false) Tryd.f50 = some e50 := by kernel_rfl
theorem x50 : Tryd.prog.funcs[50]? = some Tryd.f50 := by kernel_rfl
theorem n50 : (Tryd.f50.name == "runtime.NumGoroutine") = false := by kernel_rfl
/-! 51: slices.IndexFunc:func()_bool -/
def l51_0p0 : EC := EC.ops false [EOper.mk (some 9) (EOp.bin .lss (Opd.t 8) (Opd.t 7)) none]
def l51_0m0 : List Bool := [false, false, false, false, false, false, false, false, false, true, false, false, false, false, false, false, false, false, false]
def l51_0p1 : EC := EC.cond (Opd.t 9) EC.skip (EC.exit 0)
def l51_0m1 : List Bool := [false, false, false, false, false, false, false, false, false, false, false, false, false, false, false, false, false, false, false]
def l51_0p2 : EC := EC.block 1 (EC.seq (EC.ops false [EOper.mk (some 10) (EOp.mv (Opd.t 8)) none, EOper.mk (some 5) (EOp.mv (Opd.t 10)) none]) (EC.seq (EC.ops false
  [EOper.mk (some 11) (EOp.mv (Opd.t 1)) none, EOper.mk (some 12) (EOp.mv (Opd.t 0)) none, EOper.mk (some 13) (EOp.mv (Opd.t 5)) none, EOper.mk (some 14) (EOp.ixs 1 (Opd.t
  12) (Opd.t 13)) none, EOper.mk (some 15) (EOp.ld false 1 (Opd.t 14)) none, EOper.mk (some 16) (EOp.call (Opd.t 11) [Opd.t 15]) none]) (EC.cond (Opd.t 16) (EC.seq (EC.ops
  false [EOper.mk (some 17) (EOp.mv (Opd.t 5)) none, EOper.mk (some 4) (EOp.mv (Opd.t 17)) none]) EC.ret) EC.skip)))
def l51_0m2 : List Bool := [false, false, false, false, true, true, false, false, false, false, true, true, true, true, true, true, true, true, false]
def l51_0p3 : EC := EC.ops false [EOper.mk (some 18) (EOp.bin .add (Opd.t 8) (Opd.c (V.int .i64 (1)))) none, EOper.mk (some 8) (EOp.mv (Opd.t 18)) none]
def l51_0m3 : List Bool := [false, false, false, false, false, false, false, false, true, false, false, false, false, false, false, false, false, false, true]
def l51_0r3 : EC := l51_0p3
def l51_0r2 : EC := EC.seq l51_0p2 l51_0r3
def l51_0r1 : EC := EC.seq l51_0p1 l51_0r2
def l51_0r0 : EC := EC.seq l51_0p0 l51_0r1
def l51_0 : EC := l51_0r0
def b51_0 : EC := EC.ops false [EOper.mk (some 4) (EOp.mv (Opd.c (V.int .i64 (0)))) none]
def m51_0 : List Bool := [false, false, false, false, true, false, false, false, false, false, false, false, false, false, false, false, false, false, false]
def b51_1 : EC := EC.seq (EC.ops false [EOper.mk (some 6) (EOp.mv (Opd.t 0)) none, EOper.mk (some 7) (EOp.len false (Opd.t 6)) none, EOper.mk (some 8) (EOp.mv (Opd.c
  (V.int .i64 (0)))) none]) (EC.block 0 (EC.loop l51_0))
def m51_1 : List Bool := [false, false, false, false, true, true, true, true, true, true, true, true, true, true, true, true, true, true, true]
def b51_2 : EC := EC.ops false [EOper.mk (some 4) (EOp.mv (Opd.c (V.int .i64 (-1)))) none]
def m51_2 : List Bool := [false, false, false, false, true, false, false, false, false, false, false, false, false, false, false, false, false, false, false]
def b51_3 : EC := EC.ret
def m51_3 : List Bool := [false, false, false, false, false, false, false, false, false, false, false, false, false, false, false, false, false, false, false]
def r51_3 : EC := b51_3
def r51_2 : EC := EC.seq b51_2 r51_3
def r51_1 : EC := EC.seq b51_1 r51_2
def r51_0 : EC := EC.seq b51_0 r51_1
def e51 : EFun := EFun.mk 19 [ERes.t 4] r51_0
theorem c51 : cFun Tryd.prog 1 (fun _ => false) Tryd.f51 = some e51 := by kernel_rfl
theorem x51 : Tryd.prog.funcs[51]? = some Tryd.f51 := by kernel_rfl
theorem n51 : (Tryd.f51.name == "runtime.NumGoroutine") = false := by kernel_rfl
/-! 52: access.record.right -/
def b52_0 : EC := EC.ops false [EOper.mk (some 1) (EOp.box true 65 (Opd.t 0)) none, EOper.mk (some 2) (EOp.mv (Opd.c (V.bool false))) none]
def m52_0 : List Bool := [false, true, true, false, false, false, false, false, false, false, false, false]
def b52_1 : EC := EC.ops false [EOper.mk (some 3) (EOp.ld true 5 (Opd.t 1)) none, EOper.mk (some 4) (EOp.mkfn 55 [Opd.t 3] []) none, EOper.mk (some 5) (EOp.ld true 5
  (Opd.t 1)) none, EOper.mk (some 6) (EOp.mkfn 56 [Opd.t 5] []) none, EOper.mk (some 7) (EOp.ld true 5 (Opd.t 1)) none, EOper.mk (some 8) (EOp.mkfn 57 [Opd.t 7] []) none,
  EOper.mk (some 9) (EOp.bslice 30 3 [V.nilf, V.nilf, V.nilf] [(0, 1, Opd.t 4), (1, 1, Opd.t 6), (2, 1, Opd.t 8)]) none, EOper.mk (some 10) (EOp.call (Opd.f 38) [Opd.t 9,
  Opd.f 58]) none, EOper.mk (some 11) (EOp.un .not (Opd.t 10)) none, EOper.mk (some 2) (EOp.mv (Opd.t 11)) none]
def m52_1 : List Bool := [false, false, true, true, true, true, true, true, true, true, true, true]
def b52_2 : EC := EC.ret
def m52_2 : List Bool := [false, false, false, false, false, false, false, false, false, false, false, false]
def r52_2 : EC := b52_2
def r52_1 : EC := EC.seq b52_1 r52_2
def r52_0 : EC := EC.seq b52_0 r52_1
def e52 : EFun := EFun.mk 12 [ERes.t 2] r52_0
theorem c52 : cFun Tryd.prog 1 (fun _ => false) Tryd.f52 = some e52 := by kernel_rfl
theorem x52 : Tryd.prog.funcs[52]? = some Tryd.f52 := by kernel_rfl
theorem n52 : (Tryd.f52.name == "runtime.NumGoroutine") = false := by kernel_rfl
/-! 53: septumref01.Low -/
def b53_0 : EC := EC.ops false [EOper.mk (some 4) (EOp.mv (Opd.c (V.int .u32 (0)))) none, EOper.mk (some 5) (EOp.mv (Opd.c (V.bool false))) none]
def m53_0 : List Bool := [false, false, false, false, true, true, false, false, false, false, false, false, false, false, false, false, false, false, false]
def b53_1 : EC := EC.seq (EC.ops false [EOper.mk (some 8) (EOp.mv (Opd.t 1)) none, EOper.mk (some 9) (EOp.call (Opd.f 59) [Opd.t 8]) none, EOper.mk (some 10) (EOp.un .not
  (Opd.t 9)) none]) (EC.cond (Opd.t 10) (EC.seq (EC.ops false [EOper.mk (some 4) (EOp.mv (Opd.c (V.int .u32 (0)))) none, EOper.mk (some 5) (EOp.mv (Opd.c (V.bool false)))
  none]) EC.ret) EC.skip)
def m53_1 : List Bool := [false, false, false, false, true, true, false, false, true, true, true, false, false, false, false, false, false, false, false]
def b53_2 : EC := EC.ops false [EOper.mk (some 12) (EOp.mv (Opd.t 0)) none, EOper.mk (some 13) (EOp.mv (Opd.t 1)) none, EOper.mk (some 14) (EOp.call (Opd.f 61) [Opd.t 12,
  Opd.t 13]) none, EOper.mk (some 15) (EOp.call (Opd.f 60) [Opd.t 14]) none, EOper.mk (some 11) (EOp.mv (Opd.t 15)) none, EOper.mk (some 16) (EOp.ext (Opd.t 11) 0) none,
  EOper.mk (some 17) (EOp.ext (Opd.t 11) 1) none, EOper.mk (some 6) (EOp.mv (Opd.t 16)) none, EOper.mk (some 7) (EOp.mv (Opd.t 17)) none]
def m53_2 : List Bool := [false, false, false, false, false, false, true, true, false, false, false, true, true, true, true, true, true, true, false]
def b53_3 : EC := EC.ops false [EOper.mk (some 18) (EOp.mv (Opd.t 6)) none, EOper.mk (some 4) (EOp.mv (Opd.t 18)) none, EOper.mk (some 5) (EOp.mv (Opd.c (V.bool true)))
  none]
def m53_3 : List Bool := [false, false, false, false, true, true, false, false, false, false, false, false, false, false, false, false, false, false, true]
def b53_4 : EC := EC.ret
def m53_4 : List Bool := [false, false, false, false, false, false, false, false, false, false, false, false, false, false, false, false, false, false, false]
def r53_4 : EC := b53_4
def r53_3 : EC := EC.seq b53_3 r53_4
def r53_2 : EC := EC.seq b53_2 r53_3
def r53_1 : EC := EC.seq b53_1 r53_2
def r53_0 : EC := EC.seq b53_0 r53_1
def e53 : EFun := EFun.mk 19 [ERes.t 4, ERes.t 5] r53_0
theorem c53 : cFun Tryd.prog 1 (fun _ => false) Tryd.f53 = some e53 := by kernel_rfl
theorem x53 : Tryd.prog.funcs[53]? = some Tryd.f53 := by kernel_rfl
theorem n53 : (Tryd.f53.name == "runtime.NumGoroutine") = false := by kernel_rfl
/-! 54: septumref03.Aligned -/
def b54_0 : EC := EC.ops false [EOper.mk (some 4) (EOp.mv (Opd.c (V.bool false))) none]
def m54_0 : List Bool := [false, false, false, false, true, false, false, false, false, false, false, false, false, false]
def b54_1 : EC := EC.ops false [EOper.mk (some 5) (EOp.mv (Opd.t 1)) none, EOper.mk (some 6) (EOp.call (Opd.f 59) [Opd.t 5]) none, EOper.mk (some 7) (EOp.mv (Opd.t 6))
  none, EOper.mk (some 8) (EOp.mv (Opd.t 0)) (some (7, true)), EOper.mk (some 9) (EOp.conv .i64 (Opd.t 8)) (some (7, true)), EOper.mk (some 10) (EOp.mv (Opd.t 1)) (some
  (7, true)), EOper.mk (some 11) (EOp.bin .rem (Opd.t 9) (Opd.t 10)) (some (7, true)), EOper.mk (some 12) (EOp.bin .eql (Opd.t 11) (Opd.c (V.int .i64 (0)))) (some (7,
  true)), EOper.mk (some 13) (EOp.pick (Opd.t 7) (Opd.t 12) (Opd.c (V.bool false))) none, EOper.mk (some 4) (EOp.mv (Opd.t 13)) none]
def m54_1 : List Bool := [false, false, false, false, true, true, true, true, true, true, true, true, true, true]
def b54_2 : EC := EC.ret
def m54_2 : List Bool := [false, false, false, false, false, false, false, false, false, false, false, false, false, false]
def r54_2 : EC := b54_2
def r54_1 : EC := EC.seq b54_1 r54_2
def r54_0 : EC := EC.seq b54_0 r54_1
def e54 : EFun := EFun.mk 14 [ERes.t 4] r54_0
theorem c54 : cFun Tryd.prog 1 (fun _ => false) Tryd.f54 = some e54 := by kernel_rfl
theorem x54 : Tryd.prog.funcs[54]? = some Tryd.f54 := by kernel_rfl
theorem n54 : (Tryd.f54.name == "runtime.NumGoroutine") = false := by kernel_rfl
/-! 55: access.record.world -/
def b55_0 : EC := EC.ops false [EOper.mk (some 1) (EOp.box true 65 (Opd.t 0)) none, EOper.mk (some 2) (EOp.mv (Opd.c (V.bool false))) none]
def m55_0 : List Bool := [false, true, true, false, false, false, false, false, false, false, false, false, false]
def b55_1 : EC := EC.ops false [EOper.mk (some 3) (EOp.fa 0 (Opd.t 1)) none, EOper.mk (some 4) (EOp.fa 0 (Opd.t 3)) none, EOper.mk (some 5) (EOp.ld false 1 (Opd.t 4))
  none, EOper.mk (some 6) (EOp.bin .geq (Opd.t 5) (Opd.c (V.int .i64 (0)))) none, EOper.mk (some 7) (EOp.mv (Opd.t 6)) none, EOper.mk (some 8) (EOp.fa 0 (Opd.t 1)) (some
  (7, true)), EOper.mk (some 9) (EOp.fa 0 (Opd.t 8)) (some (7, true)), EOper.mk (some 10) (EOp.ld false 1 (Opd.t 9)) (some (7, true)), EOper.mk (some 11) (EOp.bin .lss
  (Opd.t 10) (Opd.c (V.int .i64 (8)))) (some (7, true)), EOper.mk (some 12) (EOp.pick (Opd.t 7) (Opd.t 11) (Opd.c (V.bool false))) none, EOper.mk (some 2) (EOp.mv (Opd.t
  12)) none]
def m55_1 : List Bool := [false, false, true, true, true, true, true, true, true, true, true, true, true]
def b55_2 : EC := EC.ret
def m55_2 : List Bool := [false, false, false, false, false, false, false, false, false, false, false, false, false]
def r55_2 : EC := b55_2
def r55_1 : EC := EC.seq b55_1 r55_2
def r55_0 : EC := EC.seq b55_0 r55_1
def e55 : EFun := EFun.mk 13 [ERes.t 2] r55_0
theorem c55 : cFun Tryd.prog 1 (fun _ => false) Tryd.f55 = some e55 := by kernel_rfl
theorem x55 : Tryd.prog.funcs[55]? = some Tryd.f55 := by kernel_rfl
theorem n55 : (Tryd.f55.name == "runtime.NumGoroutine") = false := by kernel_rfl
/-! 56: access.record.place -/
def b56_0 : EC := EC.ops false [EOper.mk (some 1) (EOp.box true 65 (Opd.t 0)) none, EOper.mk (some 2) (EOp.mv (Opd.c (V.bool false))) none]
def m56_0 : List Bool := [false, true, true, false, false, false, false, false, false, false]
def b56_1 : EC := EC.ops false [EOper.mk (some 3) (EOp.fa 0 (Opd.t 1)) none, EOper.mk (some 4) (EOp.fa 2 (Opd.t 3)) none, EOper.mk (some 5) (EOp.ld false 1 (Opd.t 4))
  none, EOper.mk (some 6) (EOp.fa 0 (Opd.t 1)) none, EOper.mk (some 7) (EOp.fa 3 (Opd.t 6)) none, EOper.mk (some 8) (EOp.ld false 1 (Opd.t 7)) none, EOper.mk (some 9)
  (EOp.call (Opd.f 62) [Opd.t 5, Opd.t 8]) none, EOper.mk (some 2) (EOp.mv (Opd.t 9)) none]
def m56_1 : List Bool := [false, false, true, true, true, true, true, true, true, true]
def b56_2 : EC := EC.ret
def m56_2 : List Bool := [false, false, false, false, false, false, false, false, false, false]
def r56_2 : EC := b56_2
def r56_1 : EC := EC.seq b56_1 r56_2
def r56_0 : EC := EC.seq b56_0 r56_1
def e56 : EFun := EFun.mk 10 [ERes.t 2] r56_0
theorem c56 : cFun Tryd.prog 1 (fun _ => false) Tryd.f56 = some e56 := by kernel_rfl
theorem x56 : Tryd.prog.funcs[56]? = some Tryd.f56 := by kernel_rfl
theorem n56 : (Tryd.f56.name == "runtime.NumGoroutine") = false := by kernel_rfl
/-! 57: access.record.data -/
def b57_0 : EC := EC.ops false [EOper.mk (some 1) (EOp.box true 65 (Opd.t 0)) none, EOper.mk (some 2) (EOp.mv (Opd.c (V.bool false))) none]
def m57_0 : List Bool := [false, true, true, false, false, false, false, false, false, false, false, false, false, false, false, false, false, false, false, false, false, false, false, false, false, false, false, false, false, false, false, false, false, false]
def b57_1 : EC := EC.ops false [EOper.mk (some 6) (EOp.fa 0 (Opd.t 1)) none, EOper.mk (some 7) (EOp.fa 4 (Opd.t 6)) none, EOper.mk (some 8) (EOp.ld false 1 (Opd.t 7))
  none, EOper.mk (some 9) (EOp.fa 0 (Opd.t 1)) none, EOper.mk (some 10) (EOp.fa 3 (Opd.t 9)) none, EOper.mk (some 11) (EOp.ld false 1 (Opd.t 10)) none, EOper.mk (some 12)
  (EOp.call (Opd.f 63) [Opd.t 8, Opd.t 11]) none, EOper.mk (some 5) (EOp.mv (Opd.t 12)) none, EOper.mk (some 13) (EOp.ext (Opd.t 5) 0) none, EOper.mk (some 14) (EOp.ext
  (Opd.t 5) 1) none, EOper.mk (some 3) (EOp.mv (Opd.t 13)) none, EOper.mk (some 4) (EOp.mv (Opd.t 14)) none]
def m57_1 : List Bool := [false, false, false, true, true, true, true, true, true, true, true, true, true, true, true, false, false, false, false, false, false, false, false, false, false, false, false, false, false, false, false, false, false, false]
def b57_2 : EC := EC.ops false [EOper.mk (some 15) (EOp.mv (Opd.t 4)) none, EOper.mk (some 16) (EOp.mv (Opd.t 15)) none, EOper.mk (some 17) (EOp.mv (Opd.t 3)) (some (16,
  true)), EOper.mk (some 18) (EOp.fa 0 (Opd.t 1)) (some (16, true)), EOper.mk (some 19) (EOp.fa 4 (Opd.t 18)) (some (16, true)), EOper.mk (some 20) (EOp.ld false 1 (Opd.t
  19)) (some (16, true)), EOper.mk (some 21) (EOp.bin .eql (Opd.t 17) (Opd.t 20)) (some (16, true)), EOper.mk (some 22) (EOp.pick (Opd.t 16) (Opd.t 21) (Opd.c (V.bool
  false))) none, EOper.mk (some 23) (EOp.mv (Opd.t 22)) none, EOper.mk (some 24) (EOp.fa 0 (Opd.t 1)) (some (23, true)), EOper.mk (some 25) (EOp.fa 1 (Opd.t 24)) (some
  (23, true)), EOper.mk (some 26) (EOp.ld false 1 (Opd.t 25)) (some (23, true)), EOper.mk (some 27) (EOp.mv (Opd.t 26)) (some (23, true)), EOper.mk (some 28) (EOp.fa 0
  (Opd.t 1)) (some (27, false)), EOper.mk (some 29) (EOp.fa 4 (Opd.t 28)) (some (27, false)), EOper.mk (some 30) (EOp.ld false 1 (Opd.t 29)) (some (27, false)), EOper.mk
  (some 31) (EOp.bin .eql (Opd.t 30) (Opd.c (V.int .u32 (0)))) (some (27, false)), EOper.mk (some 32) (EOp.pick (Opd.t 27) (Opd.c (V.bool true)) (Opd.t 31)) (some (23,
  true)), EOper.mk (some 33) (EOp.pick (Opd.t 23) (Opd.t 32) (Opd.c (V.bool false))) none, EOper.mk (some 2) (EOp.mv (Opd.t 33)) none]
def m57_2 : List Bool := [false, false, true, false, false, false, false, false, false, false, false, false, false, false, false, true, true, true, true, true, true, true, true, true, true, true, true, true, true, true, true, true, true, true]
def b57_3 : EC := EC.ret
def m57_3 : List Bool := [false, false, false, false, false, false, false, false, false, false, false, false, false, false, false, false, false, false, false, false, false, false, false, false, false, false, false, false, false, false, false, false, false, false]
def r57_3 : EC := b57_3
def r57_2 : EC := EC.seq b57_2 r57_3
def r57_1 : EC := EC.seq b57_1 r57_2
def r57_0 : EC := EC.seq b57_0 r57_1
def e57 : EFun := EFun.mk 34 [ERes.t 2] r57_0
theorem c57 : cFun Tryd.prog 1 (fun _ => false) Tryd.f57 = some e57 := by kernel_rfl
theorem x57 : Tryd.prog.funcs[57]? = some Tryd.f57 := by kernel_rfl
theorem n57 : (Tryd.f57.name == "runtime.NumGoroutine") = false := by kernel_rfl
/-! 58: access.record.right$1 -/
def b58_0 : EC := EC.ops false [EOper.mk (some 2) (EOp.mv (Opd.c (V.bool false))) none]
def m58_0 : List Bool := [false, false, true, false, false, false]
def b58_1 : EC := EC.ops false [EOper.mk (some 3) (EOp.mv (Opd.t 0)) none, EOper.mk (some 4) (EOp.call (Opd.t 3) []) none, EOper.mk (some 5) (EOp.un .not (Opd.t 4)) none,
  EOper.mk (some 2) (EOp.mv (Opd.t 5)) none]
def m58_1 : List Bool := [false, false, true, true, true, true]
def b58_2 : EC := EC.ret
def m58_2 : List Bool := [false, false, false, false, false, false]
def r58_2 : EC := b58_2
def r58_1 : EC := EC.seq b58_1 r58_2
def r58_0 : EC := EC.seq b58_0 r58_1
def e58 : EFun := EFun.mk 6 [ERes.t 2] r58_0
theorem c58 : cFun Tryd.prog 1 (fun _ => false) Tryd.f58 = some e58 := by kernel_rfl
theorem x58 : Tryd.prog.funcs[58]? = some Tryd.f58 := by kernel_rfl
theorem n58 : (Tryd.f58.name == "runtime.NumGoroutine") = false := by kernel_rfl
/-! 59: septumref01.Size -/
def b59_0 : EC := EC.ops false [EOper.mk (some 2) (EOp.mv (Opd.c (V.bool false))) none]
def m59_0 : List Bool := [false, false, true, false, false, false, false, false, false, false, false, false, false]
def b59_1 : EC := EC.ops false [EOper.mk (some 3) (EOp.mv (Opd.t 0)) none, EOper.mk (some 4) (EOp.bin .eql (Opd.t 3) (Opd.c (V.int .i64 (1)))) none, EOper.mk (some 5)
  (EOp.mv (Opd.t 4)) none, EOper.mk (some 6) (EOp.mv (Opd.t 0)) (some (5, false)), EOper.mk (some 7) (EOp.bin .eql (Opd.t 6) (Opd.c (V.int .i64 (2)))) (some (5, false)),
  EOper.mk (some 8) (EOp.pick (Opd.t 5) (Opd.c (V.bool true)) (Opd.t 7)) none, EOper.mk (some 9) (EOp.mv (Opd.t 8)) none, EOper.mk (some 10) (EOp.mv (Opd.t 0)) (some (9,
  false)), EOper.mk (some 11) (EOp.bin .eql (Opd.t 10) (Opd.c (V.int .i64 (4)))) (some (9, false)), EOper.mk (some 12) (EOp.pick (Opd.t 9) (Opd.c (V.bool true)) (Opd.t
  11)) none, EOper.mk (some 2) (EOp.mv (Opd.t 12)) none]
def m59_1 : List Bool := [false, false, true, true, true, true, true, true, true, true, true, true, true]
def b59_2 : EC := EC.ret
def m59_2 : List Bool := [false, false, false, false, false, false, false, false, false, false, false, false, false]
def r59_2 : EC := b59_2
def r59_1 : EC := EC.seq b59_1 r59_2
def r59_0 : EC := EC.seq b59_0 r59_1
def e59 : EFun := EFun.mk 13 [ERes.t 2] r59_0
theorem c59 : cFun Tryd.prog 1 (fun _ => false) Tryd.f59 = some e59 := by kernel_rfl
theorem x59 : Tryd.prog.funcs[59]? = some Tryd.f59 := by kernel_rfl
theorem n59 : (Tryd.f59.name == "runtime.NumGoroutine") = false := by kernel_rfl
/-! 60: septumref01.Of -/
def l60_0p0 : EC := EC.seq (EC.ops false [EOper.mk (some 13) (EOp.mv (Opd.t 5)) none, EOper.mk (some 14) (EOp.bin .geq (Opd.t 13) (Opd.c (V.int .i64 (0)))) none]) (EC.cond
  (Opd.t 14) EC.skip (EC.exit 0))
def l60_0m0 : List Bool := [false, false, false, false, false, false, false, false, false, false, false, false, false, true, true, false, false, false, false, false, false, false, false, false, false, false]
def l60_0p1 : EC := EC.block 1 (EC.ops false [EOper.mk (some 17) (EOp.mv (Opd.t 4)) none, EOper.mk (some 18) (EOp.bin .mul (Opd.c (V.int .u32 (256))) (Opd.t 17)) none,
  EOper.mk (some 19) (EOp.mv (Opd.t 0)) none, EOper.mk (some 20) (EOp.mv (Opd.t 5)) none, EOper.mk (some 21) (EOp.ixs 1 (Opd.t 19) (Opd.t 20)) none, EOper.mk (some 22)
  (EOp.ld false 1 (Opd.t 21)) none, EOper.mk (some 23) (EOp.conv .u32 (Opd.t 22)) none, EOper.mk (some 24) (EOp.bin .add (Opd.t 18) (Opd.t 23)) none, EOper.mk (some 4)
  (EOp.mv (Opd.t 24)) none])
def l60_0m1 : List Bool := [false, false, false, false, true, false, false, false, false, false, false, false, false, false, false, false, false, true, true, true, true, true, true, true, true, false]
def l60_0p2 : EC := EC.ops false [EOper.mk (some 15) (EOp.mv (Opd.t 5)) none, EOper.mk (some 16) (EOp.bin .sub (Opd.t 15) (Opd.c (V.int .i64 (1)))) none, EOper.mk (some 5)
  (EOp.mv (Opd.t 16)) none]
def l60_0m2 : List Bool := [false, false, false, false, false, true, false, false, false, false, false, false, false, false, false, true, true, false, false, false, false, false, false, false, false, false]
def l60_0r2 : EC := l60_0p2
def l60_0r1 : EC := EC.seq l60_0p1 l60_0r2
def l60_0r0 : EC := EC.seq l60_0p0 l60_0r1
def l60_0 : EC := l60_0r0
def b60_0 : EC := EC.ops false [EOper.mk (some 2) (EOp.mv (Opd.c (V.int .u32 (0)))) none, EOper.mk (some 3) (EOp.mv (Opd.c (V.bool false))) none]
def m60_0 : List Bool := [false, false, true, true, false, false, false, false, false, false, false, false, false, false, false, false, false, false, false, false, false, false, false, false, false, false]
def b60_1 : EC := EC.seq (EC.ops false [EOper.mk (some 6) (EOp.mv (Opd.t 0)) none, EOper.mk (some 7) (EOp.len false (Opd.t 6)) none, EOper.mk (some 8) (EOp.call (Opd.f 59)
  [Opd.t 7]) none, EOper.mk (some 9) (EOp.un .not (Opd.t 8)) none]) (EC.cond (Opd.t 9) (EC.seq (EC.ops false [EOper.mk (some 2) (EOp.mv (Opd.c (V.int .u32 (0)))) none,
  EOper.mk (some 3) (EOp.mv (Opd.c (V.bool false))) none]) EC.ret) EC.skip)
def m60_1 : List Bool := [false, false, true, true, false, false, true, true, true, true, false, false, false, false, false, false, false, false, false, false, false, false, false, false, false, false]
def b60_2 : EC := EC.ops false [EOper.mk (some 4) (EOp.mv (Opd.c (V.int .u32 (0)))) none]
def m60_2 : List Bool := [false, false, false, false, true, false, false, false, false, false, false, false, false, false, false, false, false, false, false, false, false, false, false, false, false, false]
def b60_3 : EC := EC.seq (EC.ops false [EOper.mk (some 10) (EOp.mv (Opd.t 0)) none, EOper.mk (some 11) (EOp.len false (Opd.t 10)) none, EOper.mk (some 12) (EOp.bin .sub
  (Opd.t 11) (Opd.c (V.int .i64 (1)))) none, EOper.mk (some 5) (EOp.mv (Opd.t 12)) none]) (EC.block 0 (EC.loop l60_0))
def m60_3 : List Bool := [false, false, false, false, true, true, false, false, false, false, true, true, true, true, true, true, true, true, true, true, true, true, true, true, true, false]
def b60_4 : EC := EC.ops false [EOper.mk (some 25) (EOp.mv (Opd.t 4)) none, EOper.mk (some 2) (EOp.mv (Opd.t 25)) none, EOper.mk (some 3) (EOp.mv (Opd.c (V.bool true)))
  none]
def m60_4 : List Bool := [false, false, true, true, false, false, false, false, false, false, false, false, false, false, false, false, false, false, false, false, false, false, false, false, false, true]
def b60_5 : EC := EC.ret
def m60_5 : List Bool := [false, false, false, false, false, false, false, false, false, false, false, false, false, false, false, false, false, false, false, false, false, false, false, false, false, false]
def r60_5 : EC := b60_5
def r60_4 : EC := EC.seq b60_4 r60_5
def r60_3 : EC := EC.seq b60_3 r60_4
def r60_2 : EC := EC.seq b60_2 r60_3
def r60_1 : EC := EC.seq b60_1 r60_2
def r60_0 : EC := EC.seq b60_0 r60_1
def e60 : EFun := EFun.mk 26 [ERes.t 2, ERes.t 3] r60_0
theorem c60 : cFun Tryd.prog 1 (fun _ => false) Tryd.f60 = some e60 := by kernel_rfl
theorem x60 : Tryd.prog.funcs[60]? = some Tryd.f60 := by kernel_rfl
theorem n60 : (Tryd.f60.name == "runtime.NumGoroutine") = false := by kernel_rfl
/-! 61: septumref01.Bytes -/
def l61_0p0 : EC := EC.seq (EC.ops false [EOper.mk (some 7) (EOp.mv (Opd.t 6)) none, EOper.mk (some 8) (EOp.mv (Opd.t 1)) none, EOper.mk (some 9) (EOp.bin .lss (Opd.t 7)
  (Opd.t 8)) none, EOper.mk (some 10) (EOp.mv (Opd.t 9)) none, EOper.mk (some 11) (EOp.mv (Opd.t 1)) (some (10, true)), EOper.mk (some 12) (EOp.call (Opd.f 59) [Opd.t 11])
  (some (10, true)), EOper.mk (some 13) (EOp.pick (Opd.t 10) (Opd.t 12) (Opd.c (V.bool false))) none]) (EC.cond (Opd.t 13) EC.skip (EC.exit 0))
def l61_0m0 : List Bool := [false, false, false, false, false, false, false, true, true, true, true, true, true, true, false, false, false, false, false, false, false, false, false, false, false]
def l61_0p1 : EC := EC.block 1 (EC.seq (EC.ops false [EOper.mk (some 16) (EOp.mv (Opd.t 5)) none, EOper.mk (some 17) (EOp.mv (Opd.t 0)) none, EOper.mk (some 18) (EOp.bin
  .rem (Opd.t 17) (Opd.c (V.int .u32 (256)))) none, EOper.mk (some 19) (EOp.conv .u8 (Opd.t 18)) none, EOper.mk (some 20) (EOp.bslice 5 1 [V.int .u8 (0)] [(0, 1, Opd.t
  19)]) none, EOper.mk (some 21) (EOp.app 5 1 1 [V.int .u8 (0)] (Opd.t 16) (Opd.t 20)) none, EOper.mk (some 5) (EOp.mv (Opd.t 21)) none]) (EC.ops false [EOper.mk (some 22)
  (EOp.mv (Opd.t 0)) none, EOper.mk (some 23) (EOp.bin .quo (Opd.t 22) (Opd.c (V.int .u32 (256)))) none, EOper.mk (some 0) (EOp.mv (Opd.t 23)) none]))
def l61_0m1 : List Bool := [true, false, false, false, false, true, false, false, false, false, false, false, false, false, false, false, true, true, true, true, true, true, true, true, false]
def l61_0p2 : EC := EC.ops false [EOper.mk (some 14) (EOp.mv (Opd.t 6)) none, EOper.mk (some 15) (EOp.bin .add (Opd.t 14) (Opd.c (V.int .i64 (1)))) none, EOper.mk (some 6)
  (EOp.mv (Opd.t 15)) none]
def l61_0m2 : List Bool := [false, false, false, false, false, false, true, false, false, false, false, false, false, false, true, true, false, false, false, false, false, false, false, false, false]
def l61_0r2 : EC := l61_0p2
def l61_0r1 : EC := EC.seq l61_0p1 l61_0r2
def l61_0r0 : EC := EC.seq l61_0p0 l61_0r1
def l61_0 : EC := l61_0r0
def b61_0 : EC := EC.ops false [EOper.mk (some 4) (EOp.mv (Opd.c (V.sl none 0 0))) none]
def m61_0 : List Bool := [false, false, false, false, true, false, false, false, false, false, false, false, false, false, false, false, false, false, false, false, false, false, false, false, false]
def b61_1 : EC := EC.ops false [EOper.mk (some 5) (EOp.mv (Opd.c (V.sl none 0 0))) none]
def m61_1 : List Bool := [false, false, false, false, false, true, false, false, false, false, false, false, false, false, false, false, false, false, false, false, false, false, false, false, false]
def b61_2 : EC := EC.seq (EC.ops false [EOper.mk (some 6) (EOp.mv (Opd.c (V.int .i64 (0)))) none]) (EC.block 0 (EC.loop l61_0))
def m61_2 : List Bool := [true, false, false, false, false, true, true, true, true, true, true, true, true, true, true, true, true, true, true, true, true, true, true, true, false]
def b61_3 : EC := EC.ops false [EOper.mk (some 24) (EOp.mv (Opd.t 5)) none, EOper.mk (some 4) (EOp.mv (Opd.t 24)) none]
def m61_3 : List Bool := [false, false, false, false, true, false, false, false, false, false, false, false, false, false, false, false, false, false, false, false, false, false, false, false, true]
def b61_4 : EC := EC.ret
def m61_4 : List Bool := [false, false, false, false, false, false, false, false, false, false, false, false, false, false, false, false, false, false, false, false, false, false, false, false, false]
def r61_4 : EC := b61_4
def r61_3 : EC := EC.seq b61_3 r61_4
def r61_2 : EC := EC.seq b61_2 r61_3
def r61_1 : EC := EC.seq b61_1 r61_2
def r61_0 : EC := EC.seq b61_0 r61_1
def e61 : EFun := EFun.mk 25 [ERes.t 4] r61_0
theorem c61 : cFun Tryd.prog 1 (fun _ => false) Tryd.f61 = some e61 := by kernel_rfl
theorem x61 : Tryd.prog.funcs[61]? = some Tryd.f61 := by kernel_rfl
theorem n61 : (Tryd.f61.name == "runtime.NumGoroutine") = false := by kernel_rfl
/-! 62: lane.Aligned -/
def b62_0 : EC := EC.ops false [EOper.mk (some 4) (EOp.mv (Opd.c (V.bool false))) none]
def m62_0 : List Bool := [false, false, false, false, true, false, false, false, false, false]
def b62_1 : EC := EC.ops false [EOper.mk (some 5) (EOp.mv (Opd.t 0)) none, EOper.mk (some 6) (EOp.build [V.int .u32 (0)] [(0, 1, Opd.t 5)]) none, EOper.mk (some 7) (EOp.mv
  (Opd.t 1)) none, EOper.mk (some 8) (EOp.build [V.int .u32 (0), V.int .i64 (0)] [(0, 1, Opd.t 6), (1, 1, Opd.t 7)]) none, EOper.mk (some 9) (EOp.call (Opd.f 64) [Opd.t
  8]) none, EOper.mk (some 4) (EOp.mv (Opd.t 9)) none]
def m62_1 : List Bool := [false, false, false, false, true, true, true, true, true, true]
def b62_2 : EC := EC.ret
def m62_2 : List Bool := [false, false, false, false, false, false, false, false, false, false]
def r62_2 : EC := b62_2
def r62_1 : EC := EC.seq b62_1 r62_2
def r62_0 : EC := EC.seq b62_0 r62_1
def e62 : EFun := EFun.mk 10 [ERes.t 4] r62_0
theorem c62 : cFun Tryd.prog 1 (fun _ => false) Tryd.f62 = some e62 := by kernel_rfl
theorem x62 : Tryd.prog.funcs[62]? = some Tryd.f62 := by kernel_rfl
theorem n62 : (Tryd.f62.name == "runtime.NumGoroutine") = false := by kernel_rfl
/-! 63: word.Low -/
def b63_0 : EC := EC.ops false [EOper.mk (some 4) (EOp.mv (Opd.c (V.int .u32 (0)))) none, EOper.mk (some 5) (EOp.mv (Opd.c (V.bool false))) none]
def m63_0 : List Bool := [false, false, false, false, true, true, false, false, false, false, false, false, false, false, false]
def b63_1 : EC := EC.seq (EC.ops false [EOper.mk (some 6) (EOp.mv (Opd.t 1)) none, EOper.mk (some 7) (EOp.call (Opd.f 65) [Opd.t 6]) none, EOper.mk (some 8) (EOp.un .not
  (Opd.t 7)) none]) (EC.cond (Opd.t 8) (EC.seq (EC.ops false [EOper.mk (some 4) (EOp.mv (Opd.c (V.int .u32 (0)))) none, EOper.mk (some 5) (EOp.mv (Opd.c (V.bool false)))
  none]) EC.ret) EC.skip)
def m63_1 : List Bool := [false, false, false, false, true, true, true, true, true, false, false, false, false, false, false]
def b63_2 : EC := EC.ops false [EOper.mk (some 9) (EOp.mv (Opd.t 0)) none, EOper.mk (some 10) (EOp.mv (Opd.t 1)) none, EOper.mk (some 11) (EOp.bin .mul (Opd.c (V.int .i64
  (8))) (Opd.t 10)) none, EOper.mk (some 12) (EOp.bin .shl (Opd.c (V.int .u32 (1))) (Opd.t 11)) none, EOper.mk (some 13) (EOp.bin .sub (Opd.t 12) (Opd.c (V.int .u32 (1))))
  none, EOper.mk (some 14) (EOp.bin .and (Opd.t 9) (Opd.t 13)) none, EOper.mk (some 4) (EOp.mv (Opd.t 14)) none, EOper.mk (some 5) (EOp.mv (Opd.c (V.bool true))) none]
def m63_2 : List Bool := [false, false, false, false, true, true, false, false, false, true, true, true, true, true, true]
def b63_3 : EC := EC.ret
def m63_3 : List Bool := [false, false, false, false, false, false, false, false, false, false, false, false, false, false, false]
def r63_3 : EC := b63_3
def r63_2 : EC := EC.seq b63_2 r63_3
def r63_1 : EC := EC.seq b63_1 r63_2
def r63_0 : EC := EC.seq b63_0 r63_1
def e63 : EFun := EFun.mk 15 [ERes.t 4, ERes.t 5] r63_0
theorem c63 : cFun Tryd.prog 1 (fun _ => false) Tryd.f63 = some e63 := by kernel_rfl
theorem x63 : Tryd.prog.funcs[63]? = some Tryd.f63 := by kernel_rfl
theorem n63 : (Tryd.f63.name == "runtime.NumGoroutine") = false := by kernel_rfl
/-! 64: lane.place.right -/
def b64_0 : EC := EC.ops false [EOper.mk (some 1) (EOp.box true 76 (Opd.t 0)) none, EOper.mk (some 2) (EOp.mv (Opd.c (V.bool false))) none]
def m64_0 : List Bool := [false, true, true, false, false, false, false, false, false, false, false, false, false, false, false, false]
def b64_1 : EC := EC.ops false [EOper.mk (some 3) (EOp.fa 1 (Opd.t 1)) none, EOper.mk (some 4) (EOp.ld false 1 (Opd.t 3)) none, EOper.mk (some 5) (EOp.call (Opd.f 65)
  [Opd.t 4]) none, EOper.mk (some 6) (EOp.mv (Opd.t 5)) none, EOper.mk (some 7) (EOp.fa 0 (Opd.t 1)) (some (6, true)), EOper.mk (some 8) (EOp.fa 0 (Opd.t 7)) (some (6,
  true)), EOper.mk (some 9) (EOp.ld false 1 (Opd.t 8)) (some (6, true)), EOper.mk (some 10) (EOp.conv .i64 (Opd.t 9)) (some (6, true)), EOper.mk (some 11) (EOp.fa 1 (Opd.t
  1)) (some (6, true)), EOper.mk (some 12) (EOp.ld false 1 (Opd.t 11)) (some (6, true)), EOper.mk (some 13) (EOp.bin .rem (Opd.t 10) (Opd.t 12)) (some (6, true)), EOper.mk
  (some 14) (EOp.bin .eql (Opd.t 13) (Opd.c (V.int .i64 (0)))) (some (6, true)), EOper.mk (some 15) (EOp.pick (Opd.t 6) (Opd.t 14) (Opd.c (V.bool false))) none, EOper.mk
  (some 2) (EOp.mv (Opd.t 15)) none]
def m64_1 : List Bool := [false, false, true, true, true, true, true, true, true, true, true, true, true, true, true, true]
def b64_2 : EC := EC.ret
def m64_2 : List Bool := [false, false, false, false, false, false, false, false, false, false, false, false, false, false, false, false]
def r64_2 : EC := b64_2
def r64_1 : EC := EC.seq b64_1 r64_2
def r64_0 : EC := EC.seq b64_0 r64_1
def e64 : EFun := EFun.mk 16 [ERes.t 2] r64_0
theorem c64 : cFun Tryd.prog 1 (fun _ => false) Tryd.f64 = some e64 := by kernel_rfl
theorem x64 : Tryd.prog.funcs[64]? = some Tryd.f64 := by kernel_rfl
theorem n64 : (Tryd.f64.name == "runtime.NumGoroutine") = false := by kernel_rfl
/-! 65: word.Size -/
def b65_0 : EC := EC.ops false [EOper.mk (some 2) (EOp.mv (Opd.c (V.bool false))) none]
def m65_0 : List Bool := [false, false, true, false, false, false]
def b65_1 : EC := EC.ops false [EOper.mk (some 3) (EOp.slca 3 1 (Opd.g 0) none none) none, EOper.mk (some 4) (EOp.mv (Opd.t 0)) none, EOper.mk (some 5) (EOp.call (Opd.f
  66) [Opd.t 3, Opd.t 4]) none, EOper.mk (some 2) (EOp.mv (Opd.t 5)) none]
def m65_1 : List Bool := [false, false, true, true, true, true]
def b65_2 : EC := EC.ret
def m65_2 : List Bool := [false, false, false, false, false, false]
def r65_2 : EC := b65_2
def r65_1 : EC := EC.seq b65_1 r65_2
def r65_0 : EC := EC.seq b65_0 r65_1
def e65 : EFun := EFun.mk 6 [ERes.t 2] r65_0
theorem c65 : cFun Tryd.prog 1 (fun _ => false) Tryd.f65 = some e65 := by kernel_rfl
theorem x65 : Tryd.prog.funcs[65]? = some Tryd.f65 := by kernel_rfl
theorem n65 : (Tryd.f65.name == "runtime.NumGoroutine") = false := by kernel_rfl
/-! 66: slices.Contains:int -/
def b66_0 : EC := EC.ops false [EOper.mk (some 4) (EOp.mv (Opd.c (V.bool false))) none]
def m66_0 : List Bool := [false, false, false, false, true, false, false, false, false]
def b66_1 : EC := EC.ops false [EOper.mk (some 5) (EOp.mv (Opd.t 0)) none, EOper.mk (some 6) (EOp.mv (Opd.t 1)) none, EOper.mk (some 7) (EOp.call (Opd.f 67) [Opd.t 5,
  Opd.t 6]) none, EOper.mk (some 8) (EOp.bin .geq (Opd.t 7) (Opd.c (V.int .i64 (0)))) none, EOper.mk (some 4) (EOp.mv (Opd.t 8)) none]
def m66_1 : List Bool := [false, false, false, false, true, true, true, true, true]
def b66_2 : EC := EC.ret
def m66_2 : List Bool := [false, false, false, false, false, false, false, false, false]
def r66_2 : EC := b66_2
def r66_1 : EC := EC.seq b66_1 r66_2
def r66_0 : EC := EC.seq b66_0 r66_1
def e66 : EFun := EFun.mk 9 [ERes.t 4] r66_0
theorem c66 : cFun Tryd.prog 1 (fun _ => false) Tryd.f66 = some e66 := by kernel_rfl
theorem x66 : Tryd.prog.funcs[66]? = some Tryd.f66 := by kernel_rfl
theorem n66 : (Tryd.f66.name == "runtime.NumGoroutine") = false := by kernel_rfl
/-! 67: slices.Index:int -/
def l67_0p0 : EC := EC.ops false [EOper.mk (some 9) (EOp.bin .lss (Opd.t 8) (Opd.t 7)) none]
def l67_0m0 : List Bool := [false, false, false, false, false, false, false, false, false, true, false, false, false, false, false, false, false, false, false]
def l67_0p1 : EC := EC.cond (Opd.t 9) EC.skip (EC.exit 0)
def l67_0m1 : List Bool := [false, false, false, false, false, false, false, false, false, false, false, false, false, false, false, false, false, false, false]
def l67_0p2 : EC := EC.block 1 (EC.seq (EC.ops false [EOper.mk (some 10) (EOp.mv (Opd.t 8)) none, EOper.mk (some 5) (EOp.mv (Opd.t 10)) none]) (EC.seq (EC.ops false
  [EOper.mk (some 11) (EOp.mv (Opd.t 1)) none, EOper.mk (some 12) (EOp.mv (Opd.t 0)) none, EOper.mk (some 13) (EOp.mv (Opd.t 5)) none, EOper.mk (some 14) (EOp.ixs 1 (Opd.t
  12) (Opd.t 13)) none, EOper.mk (some 15) (EOp.ld false 1 (Opd.t 14)) none, EOper.mk (some 16) (EOp.bin .eql (Opd.t 11) (Opd.t 15)) none]) (EC.cond (Opd.t 16) (EC.seq
  (EC.ops false [EOper.mk (some 17) (EOp.mv (Opd.t 5)) none, EOper.mk (some 4) (EOp.mv (Opd.t 17)) none]) EC.ret) EC.skip)))
def l67_0m2 : List Bool := [false, false, false, false, true, true, false, false, false, false, true, true, true, true, true, true, true, true, false]
def l67_0p3 : EC := EC.ops false [EOper.mk (some 18) (EOp.bin .add (Opd.t 8) (Opd.c (V.int .i64 (1)))) none, EOper.mk (some 8) (EOp.mv (Opd.t 18)) none]
def l67_0m3 : List Bool := [false, false, false, false, false, false, false, false, true, false, false, false, false, false, false, false, false, false, true]
def l67_0r3 : EC := l67_0p3
def l67_0r2 : EC := EC.seq l67_0p2 l67_0r3
def l67_0r1 : EC := EC.seq l67_0p1 l67_0r2
def l67_0r0 : EC := EC.seq l67_0p0 l67_0r1
def l67_0 : EC := l67_0r0
def b67_0 : EC := EC.ops false [EOper.mk (some 4) (EOp.mv (Opd.c (V.int .i64 (0)))) none]
def m67_0 : List Bool := [false, false, false, false, true, false, false, false, false, false, false, false, false, false, false, false, false, false, false]
def b67_1 : EC := EC.seq (EC.ops false [EOper.mk (some 6) (EOp.mv (Opd.t 0)) none, EOper.mk (some 7) (EOp.len false (Opd.t 6)) none, EOper.mk (some 8) (EOp.mv (Opd.c
  (V.int .i64 (0)))) none]) (EC.block 0 (EC.loop l67_0))
def m67_1 : List Bool := [false, false, false, false, true, true, true, true, true, true, true, true, true, true, true, true, true, true, true]
def b67_2 : EC := EC.ops false [EOper.mk (some 4) (EOp.mv (Opd.c (V.int .i64 (-1)))) none]
def m67_2 : List Bool := [false, false, false, false, true, false, false, false, false, false, false, false, false, false, false, false, false, false, false]
def b67_3 : EC := EC.ret
def m67_3 : List Bool := [false, false, false, false, false, false, false, false, false, false, false, false, false, false, false, false, false, false, false]
def r67_3 : EC := b67_3
def r67_2 : EC := EC.seq b67_2 r67_3
def r67_1 : EC := EC.seq b67_1 r67_2
def r67_0 : EC := EC.seq b67_0 r67_1
def e67 : EFun := EFun.mk 19 [ERes.t 4] r67_0
theorem c67 : cFun Tryd.prog 1 (fun _ => false) Tryd.f67 = some e67 := by kernel_rfl
theorem x67 : Tryd.prog.funcs[67]? = some Tryd.f67 := by kernel_rfl
theorem n67 : (Tryd.f67.name == "runtime.NumGoroutine") = false := by kernel_rfl
end Go.Ev
