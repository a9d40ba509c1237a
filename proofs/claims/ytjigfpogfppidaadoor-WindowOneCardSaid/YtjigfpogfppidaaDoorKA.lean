/- dev: forms (printed by forms.py) -/
import Derived.Test.YtjigfpogfppidaaDoorChecked
import Derived.Test.YtjigfpogfppidaaDoorEvV
set_option linter.all false
namespace Go.Ev
open Go Go.Proofs
set_option maxRecDepth 1000000
/-! 3: septumlaw08.WindowAsks -/
def b3_0 : EC := EC.ops false [EOper.mk (some 5) (EOp.box true 26 (Opd.t 1)) none, EOper.mk (some 6) (EOp.box true 28 (Opd.t 2)) none, EOper.mk (some 8) (EOp.mv (Opd.c
  (V.bool false))) none]
def b3_1 : EC := EC.seq (EC.ops false [EOper.mk (some 10) (EOp.mv (Opd.t 0)) none, EOper.mk (some 11) (EOp.len false (Opd.t 10)) none, EOper.mk (some 12) (EOp.bin .gtr
  (Opd.t 11) (Opd.c (V.int .i64 (100)))) none]) (EC.cond (Opd.t 12) (EC.seq (EC.ops false [EOper.mk (some 13) (EOp.call (Opd.f 7) []) none, EOper.mk (some 8) (EOp.mv
  (Opd.t 13)) none]) EC.ret) EC.skip)
def b3_2 : EC := EC.ops false [EOper.mk (some 14) (EOp.mv (Opd.t 0)) none, EOper.mk (some 15) (EOp.call (Opd.f 8) [Opd.t 14]) none, EOper.mk (some 9) (EOp.mv (Opd.t 15))
  none]
def b3_3 : EC := EC.ops false [EOper.mk (some 16) (EOp.ld true 5 (Opd.t 5)) none, EOper.mk (some 17) (EOp.call (Opd.f 9) [Opd.t 16]) none, EOper.mk (some 18) (EOp.mv
  (Opd.t 17)) none, EOper.mk (some 19) (EOp.mv (Opd.t 9)) (some (18, true)), EOper.mk (some 20) (EOp.ld true 5 (Opd.t 6)) (some (18, true)), EOper.mk (some 21) (EOp.mv
  (Opd.t 3)) (some (18, true)), EOper.mk (some 22) (EOp.call (Opd.f 10) [Opd.t 19, Opd.t 20, Opd.t 21]) (some (18, true)), EOper.mk (some 23) (EOp.pick (Opd.t 18) (Opd.t
  22) (Opd.c (V.bool false))) none, EOper.mk (some 24) (EOp.mv (Opd.t 23)) none, EOper.mk (some 25) (EOp.ld true 5 (Opd.t 5)) (some (24, true)), EOper.mk (some 26)
  (EOp.bslice 26 1 [V.int .i64 (0), V.int .u32 (0), V.int .i64 (0), V.int .i64 (0), V.int .i64 (0)] [(0, 5, Opd.t 25)]) (some (24, true)), EOper.mk (some 27) (EOp.ld true
  5 (Opd.t 6)) (some (24, true)), EOper.mk (some 28) (EOp.mv (Opd.t 3)) (some (24, true)), EOper.mk (some 29) (EOp.call (Opd.f 10) [Opd.t 26, Opd.t 27, Opd.t 28]) (some
  (24, true)), EOper.mk (some 30) (EOp.pick (Opd.t 24) (Opd.t 29) (Opd.c (V.bool false))) none, EOper.mk (some 31) (EOp.mv (Opd.t 30)) none, EOper.mk (some 32) (EOp.mv
  (Opd.t 9)) (some (31, true)), EOper.mk (some 33) (EOp.mv (Opd.t 0)) (some (31, true)), EOper.mk (some 34) (EOp.call (Opd.f 11) [Opd.t 32, Opd.t 33]) (some (31, true)),
  EOper.mk (some 35) (EOp.pick (Opd.t 31) (Opd.t 34) (Opd.c (V.bool false))) none, EOper.mk (some 36) (EOp.mv (Opd.t 35)) none, EOper.mk (some 37) (EOp.call (Opd.f 7) [])
  (some (36, true)), EOper.mk (some 38) (EOp.pick (Opd.t 36) (Opd.t 37) (Opd.c (V.bool false))) none, EOper.mk (some 8) (EOp.mv (Opd.t 38)) none]
def b3_4 : EC := EC.ret
def r3_4 : EC := b3_4
def r3_3 : EC := EC.seq b3_3 r3_4
def r3_2 : EC := EC.seq b3_2 r3_3
def r3_1 : EC := EC.seq b3_1 r3_2
def r3_0 : EC := EC.seq b3_0 r3_1
def e3 : EFun := EFun.mk 39 [ERes.t 8] r3_0
theorem c3 : cFun Tryd.prog 1 (fun _ => false) Tryd.f3 = some e3 := by kernel_rfl
theorem x3 : Tryd.prog.funcs[3]? = some Tryd.f3 := by kernel_rfl
theorem n3 : (Tryd.f3.name == "runtime.NumGoroutine") = false := by kernel_rfl
/-! 4: septumlaw08.WindowEnds -/
def l4_1p0 : EC := EC.seq (EC.ops false [EOper.mk (some 12) (EOp.mv (Opd.t 2)) none, EOper.mk (some 13) (EOp.bin .lss (Opd.t 12) (Opd.c (V.int .i64 (28)))) none]) (EC.cond
  (Opd.t 13) EC.skip (EC.exit 2))
def l4_1p1 : EC := EC.block 3 (EC.seq (EC.ops false [EOper.mk (some 16) (EOp.mv (Opd.t 1)) none, EOper.mk (some 17) (EOp.mv (Opd.t 2)) none, EOper.mk (some 18) (EOp.call
  (Opd.f 12) [Opd.t 16, Opd.t 17]) none, EOper.mk (some 19) (EOp.call (Opd.f 9) [Opd.t 18]) none, EOper.mk (some 20) (EOp.un .not (Opd.t 19)) none]) (EC.cond (Opd.t 20)
  (EC.seq (EC.ops false [EOper.mk (some 0) (EOp.mv (Opd.c (V.bool false))) none]) EC.ret) EC.skip))
def l4_1p2 : EC := EC.ops false [EOper.mk (some 14) (EOp.mv (Opd.t 2)) none, EOper.mk (some 15) (EOp.bin .add (Opd.t 14) (Opd.c (V.int .i64 (1)))) none, EOper.mk (some 2)
  (EOp.mv (Opd.t 15)) none]
def l4_1r2 : EC := l4_1p2
def l4_1r1 : EC := EC.seq l4_1p1 l4_1r2
def l4_1r0 : EC := EC.seq l4_1p0 l4_1r1
def l4_1 : EC := l4_1r0
def l4_0p0 : EC := EC.seq (EC.ops false [EOper.mk (some 8) (EOp.mv (Opd.t 1)) none, EOper.mk (some 9) (EOp.bin .lss (Opd.t 8) (Opd.c (V.int .i64 (60)))) none]) (EC.cond
  (Opd.t 9) EC.skip (EC.exit 0))
def l4_0p1 : EC := EC.block 1 (EC.seq (EC.ops false [EOper.mk (some 2) (EOp.mv (Opd.c (V.int .i64 (0)))) none]) (EC.block 2 (EC.loop l4_1)))
def l4_0p2 : EC := EC.ops false [EOper.mk (some 10) (EOp.mv (Opd.t 1)) none, EOper.mk (some 11) (EOp.bin .add (Opd.t 10) (Opd.c (V.int .i64 (1)))) none, EOper.mk (some 1)
  (EOp.mv (Opd.t 11)) none]
def l4_0r2 : EC := l4_0p2
def l4_0r1 : EC := EC.seq l4_0p1 l4_0r2
def l4_0r0 : EC := EC.seq l4_0p0 l4_0r1
def l4_0 : EC := l4_0r0
def l4_3p0 : EC := EC.seq (EC.ops false [EOper.mk (some 25) (EOp.mv (Opd.t 5)) none, EOper.mk (some 26) (EOp.bin .lss (Opd.t 25) (Opd.c (V.int .i64 (12)))) none]) (EC.cond
  (Opd.t 26) EC.skip (EC.exit 6))
def l4_3p1 : EC := EC.block 7 (EC.seq (EC.ops false [EOper.mk (some 29) (EOp.mv (Opd.t 4)) none, EOper.mk (some 30) (EOp.bin .mul (Opd.c (V.int .i64 (32))) (Opd.t 29))
  none, EOper.mk (some 31) (EOp.bin .sub (Opd.t 30) (Opd.c (V.int .i64 (6)))) none, EOper.mk (some 32) (EOp.mv (Opd.t 5)) none, EOper.mk (some 33) (EOp.bin .add (Opd.t 31)
  (Opd.t 32)) none, EOper.mk (some 34) (EOp.conv .u32 (Opd.t 33)) none, EOper.mk (some 6) (EOp.mv (Opd.t 34)) none]) (EC.seq (EC.ops false [EOper.mk (some 35) (EOp.mv
  (Opd.t 3)) none, EOper.mk (some 36) (EOp.mv (Opd.t 6)) none, EOper.mk (some 37) (EOp.bslice 3 3 [V.int .i64 (0), V.int .i64 (0), V.int .i64 (0)] [(0, 1, Opd.c (V.int
  .i64 (1))), (1, 1, Opd.c (V.int .i64 (2))), (2, 1, Opd.c (V.int .i64 (4)))]) none, EOper.mk (some 38) (EOp.mv (Opd.t 5)) none, EOper.mk (some 39) (EOp.bin .rem (Opd.t
  38) (Opd.c (V.int .i64 (3)))) none, EOper.mk (some 40) (EOp.ixs 1 (Opd.t 37) (Opd.t 39)) none, EOper.mk (some 41) (EOp.ld false 1 (Opd.t 40)) none, EOper.mk (some 42)
  (EOp.build [V.int .i64 (0), V.bool false, V.int .u32 (0), V.int .i64 (0), V.int .u32 (0)] [(2, 1, Opd.t 36), (3, 1, Opd.t 41)]) none, EOper.mk (some 43) (EOp.mv (Opd.t
  6)) none, EOper.mk (some 44) (EOp.call (Opd.f 10) [Opd.t 35, Opd.t 42, Opd.t 43]) none, EOper.mk (some 45) (EOp.un .not (Opd.t 44)) none]) (EC.cond (Opd.t 45) (EC.seq
  (EC.ops false [EOper.mk (some 0) (EOp.mv (Opd.c (V.bool false))) none]) EC.ret) EC.skip)))
def l4_3p2 : EC := EC.ops false [EOper.mk (some 27) (EOp.mv (Opd.t 5)) none, EOper.mk (some 28) (EOp.bin .add (Opd.t 27) (Opd.c (V.int .i64 (1)))) none, EOper.mk (some 5)
  (EOp.mv (Opd.t 28)) none]
def l4_3r2 : EC := l4_3p2
def l4_3r1 : EC := EC.seq l4_3p1 l4_3r2
def l4_3r0 : EC := EC.seq l4_3p0 l4_3r1
def l4_3 : EC := l4_3r0
def l4_2p0 : EC := EC.seq (EC.ops false [EOper.mk (some 21) (EOp.mv (Opd.t 4)) none, EOper.mk (some 22) (EOp.bin .lss (Opd.t 21) (Opd.c (V.int .i64 (18)))) none]) (EC.cond
  (Opd.t 22) EC.skip (EC.exit 4))
def l4_2p1 : EC := EC.block 5 (EC.seq (EC.seq (EC.ops false [EOper.mk (some 5) (EOp.mv (Opd.c (V.int .i64 (0)))) none]) (EC.block 6 (EC.loop l4_3))) (EC.ops false
  [EOper.mk (some 46) (EOp.mv (Opd.t 3)) none, EOper.mk (some 47) (EOp.mv (Opd.t 4)) none, EOper.mk (some 48) (EOp.bin .mul (Opd.c (V.int .i64 (32))) (Opd.t 47)) none,
  EOper.mk (some 49) (EOp.conv .u32 (Opd.t 48)) none, EOper.mk (some 50) (EOp.mv (Opd.t 4)) none, EOper.mk (some 51) (EOp.bin .rem (Opd.t 50) (Opd.c (V.int .i64 (9))))
  none, EOper.mk (some 52) (EOp.bin .sub (Opd.t 51) (Opd.c (V.int .i64 (1)))) none, EOper.mk (some 53) (EOp.mv (Opd.t 4)) none, EOper.mk (some 54) (EOp.bin .rem (Opd.t 53)
  (Opd.c (V.int .i64 (9)))) none, EOper.mk (some 55) (EOp.bin .sub (Opd.c (V.int .i64 (7))) (Opd.t 54)) none, EOper.mk (some 56) (EOp.build [V.int .i64 (0), V.int .u32
  (0), V.int .i64 (0), V.int .i64 (0), V.int .i64 (0)] [(0, 1, Opd.c (V.int .i64 (2))), (1, 1, Opd.t 49), (2, 1, Opd.c (V.int .i64 (32))), (3, 1, Opd.t 52), (4, 1, Opd.t
  55)]) none, EOper.mk (some 57) (EOp.bslice 26 1 [V.int .i64 (0), V.int .u32 (0), V.int .i64 (0), V.int .i64 (0), V.int .i64 (0)] [(0, 5, Opd.t 56)]) none, EOper.mk (some
  58) (EOp.app 26 5 40 [V.int .i64 (0), V.int .u32 (0), V.int .i64 (0), V.int .i64 (0), V.int .i64 (0)] (Opd.t 46) (Opd.t 57)) none, EOper.mk (some 3) (EOp.mv (Opd.t 58))
  none]))
def l4_2p2 : EC := EC.ops false [EOper.mk (some 23) (EOp.mv (Opd.t 4)) none, EOper.mk (some 24) (EOp.bin .add (Opd.t 23) (Opd.c (V.int .i64 (1)))) none, EOper.mk (some 4)
  (EOp.mv (Opd.t 24)) none]
def l4_2r2 : EC := l4_2p2
def l4_2r1 : EC := EC.seq l4_2p1 l4_2r2
def l4_2r0 : EC := EC.seq l4_2p0 l4_2r1
def l4_2 : EC := l4_2r0
def l4_4p0 : EC := EC.seq (EC.ops false [EOper.mk (some 59) (EOp.mv (Opd.t 7)) none, EOper.mk (some 60) (EOp.bin .lss (Opd.t 59) (Opd.c (V.int .i64 (40)))) none]) (EC.cond
  (Opd.t 60) EC.skip (EC.exit 8))
def l4_4p1 : EC := EC.block 9 (EC.seq (EC.ops false [EOper.mk (some 63) (EOp.mv (Opd.t 3)) none, EOper.mk (some 64) (EOp.ixs 5 (Opd.t 63) (Opd.c (V.int .i64 (2)))) none,
  EOper.mk (some 65) (EOp.ld true 5 (Opd.t 64)) none, EOper.mk (some 66) (EOp.mv (Opd.t 7)) none, EOper.mk (some 67) (EOp.bin .mul (Opd.c (V.int .i64 (4))) (Opd.t 66))
  none, EOper.mk (some 68) (EOp.conv .u32 (Opd.t 67)) none, EOper.mk (some 69) (EOp.build [V.int .i64 (0), V.int .u32 (0), V.int .i64 (0), V.int .i64 (0), V.int .i64 (0)]
  [(0, 1, Opd.c (V.int .i64 (1))), (1, 1, Opd.t 68), (2, 1, Opd.c (V.int .i64 (8)))]) none, EOper.mk (some 70) (EOp.bslice 26 2 [V.int .i64 (0), V.int .u32 (0), V.int .i64
  (0), V.int .i64 (0), V.int .i64 (0), V.int .i64 (0), V.int .u32 (0), V.int .i64 (0), V.int .i64 (0), V.int .i64 (0)] [(0, 5, Opd.t 65), (5, 5, Opd.t 69)]) none, EOper.mk
  (some 71) (EOp.mv (Opd.t 7)) none, EOper.mk (some 72) (EOp.bin .mul (Opd.c (V.int .i64 (4))) (Opd.t 71)) none, EOper.mk (some 73) (EOp.conv .u32 (Opd.t 72)) none,
  EOper.mk (some 74) (EOp.build [V.int .i64 (0), V.bool false, V.int .u32 (0), V.int .i64 (0), V.int .u32 (0)] [(2, 1, Opd.t 73), (3, 1, Opd.c (V.int .i64 (4)))]) none,
  EOper.mk (some 75) (EOp.call (Opd.f 10) [Opd.t 70, Opd.t 74, Opd.c (V.int .u32 (64))]) none, EOper.mk (some 76) (EOp.un .not (Opd.t 75)) none]) (EC.cond (Opd.t 76)
  (EC.seq (EC.ops false [EOper.mk (some 0) (EOp.mv (Opd.c (V.bool false))) none]) EC.ret) EC.skip))
def l4_4p2 : EC := EC.ops false [EOper.mk (some 61) (EOp.mv (Opd.t 7)) none, EOper.mk (some 62) (EOp.bin .add (Opd.t 61) (Opd.c (V.int .i64 (1)))) none, EOper.mk (some 7)
  (EOp.mv (Opd.t 62)) none]
def l4_4r2 : EC := l4_4p2
def l4_4r1 : EC := EC.seq l4_4p1 l4_4r2
def l4_4r0 : EC := EC.seq l4_4p0 l4_4r1
def l4_4 : EC := l4_4r0
def b4_0 : EC := EC.ops false [EOper.mk (some 0) (EOp.mv (Opd.c (V.bool false))) none]
def b4_1 : EC := EC.seq (EC.ops false [EOper.mk (some 1) (EOp.mv (Opd.c (V.int .i64 (0)))) none]) (EC.block 0 (EC.loop l4_0))
def b4_2 : EC := EC.ops false [EOper.mk (some 3) (EOp.mv (Opd.c (V.sl none 0 0))) none]
def b4_3 : EC := EC.seq (EC.ops false [EOper.mk (some 4) (EOp.mv (Opd.c (V.int .i64 (0)))) none]) (EC.block 4 (EC.loop l4_2))
def b4_4 : EC := EC.seq (EC.ops false [EOper.mk (some 7) (EOp.mv (Opd.c (V.int .i64 (0)))) none]) (EC.block 8 (EC.loop l4_4))
def b4_5 : EC := EC.ops false [EOper.mk (some 77) (EOp.build [V.int .i64 (0), V.bool false, V.int .u32 (0), V.int .i64 (0), V.int .u32 (0)] [(3, 1, Opd.c (V.int .i64
  (4)))]) none, EOper.mk (some 78) (EOp.call (Opd.f 10) [Opd.c (V.sl none 0 0), Opd.t 77, Opd.c (V.int .u32 (0))]) none, EOper.mk (some 79) (EOp.mv (Opd.t 78)) none,
  EOper.mk (some 80) (EOp.call (Opd.f 7) []) (some (79, true)), EOper.mk (some 81) (EOp.pick (Opd.t 79) (Opd.t 80) (Opd.c (V.bool false))) none, EOper.mk (some 0) (EOp.mv
  (Opd.t 81)) none]
def b4_6 : EC := EC.ret
def r4_6 : EC := b4_6
def r4_5 : EC := EC.seq b4_5 r4_6
def r4_4 : EC := EC.seq b4_4 r4_5
def r4_3 : EC := EC.seq b4_3 r4_4
def r4_2 : EC := EC.seq b4_2 r4_3
def r4_1 : EC := EC.seq b4_1 r4_2
def r4_0 : EC := EC.seq b4_0 r4_1
def e4 : EFun := EFun.mk 82 [ERes.t 0] r4_0
theorem c4 : cFun Tryd.prog 1 (fun _ => false) Tryd.f4 = some e4 := by kernel_rfl
theorem x4 : Tryd.prog.funcs[4]? = some Tryd.f4 := by kernel_rfl
theorem n4 : (Tryd.f4.name == "runtime.NumGoroutine") = false := by kernel_rfl
/-! 5: septumlaw08.WindowOne -/
def l5_0p0 : EC := EC.seq (EC.ops false [EOper.mk (some 50) (EOp.mv (Opd.t 17)) none, EOper.mk (some 51) (EOp.mv (Opd.t 0)) none, EOper.mk (some 52) (EOp.len false (Opd.t
  51)) none, EOper.mk (some 53) (EOp.bin .lss (Opd.t 50) (Opd.t 52)) none]) (EC.cond (Opd.t 53) EC.skip (EC.exit 0))
def l5_0p1 : EC := EC.block 1 (EC.seq (EC.ops false [EOper.mk (some 57) (EOp.mv (Opd.t 0)) none, EOper.mk (some 58) (EOp.mv (Opd.t 17)) none, EOper.mk (some 59) (EOp.ixs 5
  (Opd.t 57) (Opd.t 58)) none, EOper.mk (some 60) (EOp.ld true 5 (Opd.t 59)) none, EOper.mk (some 61) (EOp.call (Opd.f 16) [Opd.t 60]) none, EOper.mk (some 56) (EOp.mv
  (Opd.t 61)) none, EOper.mk (some 62) (EOp.ext (Opd.t 56) 0) none, EOper.mk (some 63) (EOp.ext (Opd.t 56) 1) none, EOper.mk (some 18) (EOp.alloc true 41 [V.int .u32 (0),
  V.int .u32 (0)]) none, EOper.mk none (EOp.st 2 (Opd.t 18) (Opd.t 62)) none, EOper.mk (some 19) (EOp.mv (Opd.t 63)) none]) (EC.seq (EC.seq (EC.ops false [EOper.mk (some
  64) (EOp.mv (Opd.t 19)) none, EOper.mk (some 65) (EOp.un .not (Opd.t 64)) none]) (EC.cond (Opd.t 65) (EC.seq (EC.ops false [EOper.mk (some 10) (EOp.mv (Opd.c (V.bool
  false))) none]) EC.ret) EC.skip)) (EC.seq (EC.ops false [EOper.mk (some 66) (EOp.mv (Opd.t 15)) none, EOper.mk (some 67) (EOp.mv (Opd.t 66)) none, EOper.mk (some 68)
  (EOp.ld true 2 (Opd.t 14)) (some (67, true)), EOper.mk (some 69) (EOp.ld true 2 (Opd.t 18)) (some (67, true)), EOper.mk (some 70) (EOp.call (Opd.f 17) [Opd.t 68, Opd.t
  69]) (some (67, true)), EOper.mk (some 71) (EOp.pick (Opd.t 67) (Opd.t 70) (Opd.c (V.bool false))) none]) (EC.cond (Opd.t 71) (EC.seq (EC.ops false [EOper.mk (some 72)
  (EOp.mv (Opd.t 16)) none, EOper.mk (some 73) (EOp.bin .add (Opd.t 72) (Opd.c (V.int .i64 (1)))) none, EOper.mk (some 16) (EOp.mv (Opd.t 73)) none]) (EC.seq (EC.ops true
  [EOper.mk (some 74) (EOp.mv (Opd.t 13)) none, EOper.mk (some 75) (EOp.un .not (Opd.t 74)) none, EOper.mk (some 76) (EOp.mv (Opd.t 75)) none, EOper.mk (some 77) (EOp.mv
  (Opd.t 11)) (some (76, false)), EOper.mk (some 78) (EOp.mv (Opd.t 17)) (some (76, false)), EOper.mk (some 79) (EOp.bin .neq (Opd.t 77) (Opd.t 78)) (some (76, false)),
  EOper.mk (some 80) (EOp.pick (Opd.t 76) (Opd.c (V.bool true)) (Opd.t 79)) none, EOper.mk (some 81) (EOp.mv (Opd.t 80)) none, EOper.mk (some 82) (EOp.mv (Opd.t 12)) (some
  (81, false)), EOper.mk (some 83) (EOp.fa 2 (Opd.t 6)) (some (81, false)), EOper.mk (some 84) (EOp.ld false 1 (Opd.t 83)) (some (81, false)), EOper.mk (some 85) (EOp.conv
  .i64 (Opd.t 84)) (some (81, false)), EOper.mk (some 86) (EOp.fa 0 (Opd.t 18)) (some (81, false)), EOper.mk (some 87) (EOp.ld false 1 (Opd.t 86)) (some (81, false)),
  EOper.mk (some 88) (EOp.conv .i64 (Opd.t 87)) (some (81, false)), EOper.mk (some 89) (EOp.bin .sub (Opd.t 85) (Opd.t 88)) (some (81, false)), EOper.mk (some 90) (EOp.bin
  .neq (Opd.t 82) (Opd.t 89)) (some (81, false)), EOper.mk (some 91) (EOp.pick (Opd.t 81) (Opd.c (V.bool true)) (Opd.t 90)) none, EOper.mk (some 92) (EOp.mv (Opd.t 91))
  none, EOper.mk (some 93) (EOp.mv (Opd.t 12)) (some (92, false)), EOper.mk (some 94) (EOp.bin .lss (Opd.t 93) (Opd.c (V.int .i64 (0)))) (some (92, false)), EOper.mk (some
  95) (EOp.pick (Opd.t 92) (Opd.c (V.bool true)) (Opd.t 94)) none, EOper.mk (some 96) (EOp.mv (Opd.t 95)) none, EOper.mk (some 97) (EOp.mv (Opd.t 12)) (some (96, false)),
  EOper.mk (some 98) (EOp.fa 3 (Opd.t 6)) (some (96, false)), EOper.mk (some 99) (EOp.ld false 1 (Opd.t 98)) (some (96, false)), EOper.mk (some 100) (EOp.bin .add (Opd.t
  97) (Opd.t 99)) (some (96, false)), EOper.mk (some 101) (EOp.mv (Opd.t 0)) (some (96, false)), EOper.mk (some 102) (EOp.mv (Opd.t 17)) (some (96, false)), EOper.mk (some
  103) (EOp.ixs 5 (Opd.t 101) (Opd.t 102)) (some (96, false)), EOper.mk (some 104) (EOp.fa 2 (Opd.t 103)) (some (96, false)), EOper.mk (some 105) (EOp.ld false 1 (Opd.t
  104)) (some (96, false)), EOper.mk (some 106) (EOp.bin .gtr (Opd.t 100) (Opd.t 105)) (some (96, false)), EOper.mk (some 107) (EOp.pick (Opd.t 96) (Opd.c (V.bool true))
  (Opd.t 106)) none]) (EC.cond (Opd.t 107) (EC.seq (EC.ops false [EOper.mk (some 10) (EOp.mv (Opd.c (V.bool false))) none]) EC.ret) EC.skip))) EC.skip))))
def l5_0p2 : EC := EC.ops false [EOper.mk (some 54) (EOp.mv (Opd.t 17)) none, EOper.mk (some 55) (EOp.bin .add (Opd.t 54) (Opd.c (V.int .i64 (1)))) none, EOper.mk (some
  17) (EOp.mv (Opd.t 55)) none]
def l5_0r2 : EC := l5_0p2
def l5_0r1 : EC := EC.seq l5_0p1 l5_0r2
def l5_0r0 : EC := EC.seq l5_0p0 l5_0r1
def l5_0 : EC := l5_0r0
def l5_1p0 : EC := EC.seq (EC.ops false [EOper.mk (some 157) (EOp.mv (Opd.t 24)) none, EOper.mk (some 158) (EOp.mv (Opd.t 23)) none, EOper.mk (some 159) (EOp.len false
  (Opd.t 158)) none, EOper.mk (some 160) (EOp.bin .lss (Opd.t 157) (Opd.t 159)) none]) (EC.cond (Opd.t 160) EC.skip (EC.exit 2))
def l5_1p1 : EC := EC.block 3 (EC.seq (EC.ops false [EOper.mk (some 163) (EOp.mv (Opd.t 23)) none, EOper.mk (some 164) (EOp.mv (Opd.t 24)) none, EOper.mk (some 165)
  (EOp.mv (Opd.t 3)) none, EOper.mk (some 166) (EOp.call (Opd.f 19) [Opd.t 165, Opd.c (V.int .i64 (9))]) none, EOper.mk (some 167) (EOp.bin .sub (Opd.t 166) (Opd.c (V.int
  .i64 (1)))) none, EOper.mk (some 168) (EOp.ixs 5 (Opd.t 163) (Opd.t 164)) none, EOper.mk (some 169) (EOp.fa 3 (Opd.t 168)) none, EOper.mk none (EOp.st 1 (Opd.t 169)
  (Opd.t 167)) none]) (EC.ops false [EOper.mk (some 170) (EOp.mv (Opd.t 23)) none, EOper.mk (some 171) (EOp.mv (Opd.t 24)) none, EOper.mk (some 172) (EOp.mv (Opd.t 4))
  none, EOper.mk (some 173) (EOp.call (Opd.f 19) [Opd.t 172, Opd.c (V.int .i64 (9))]) none, EOper.mk (some 174) (EOp.bin .sub (Opd.t 173) (Opd.c (V.int .i64 (1)))) none,
  EOper.mk (some 175) (EOp.ixs 5 (Opd.t 170) (Opd.t 171)) none, EOper.mk (some 176) (EOp.fa 4 (Opd.t 175)) none, EOper.mk none (EOp.st 1 (Opd.t 176) (Opd.t 174)) none]))
def l5_1p2 : EC := EC.ops false [EOper.mk (some 161) (EOp.mv (Opd.t 24)) none, EOper.mk (some 162) (EOp.bin .add (Opd.t 161) (Opd.c (V.int .i64 (1)))) none, EOper.mk (some
  24) (EOp.mv (Opd.t 162)) none]
def l5_1r2 : EC := l5_1p2
def l5_1r1 : EC := EC.seq l5_1p1 l5_1r2
def l5_1r0 : EC := EC.seq l5_1p0 l5_1r1
def l5_1 : EC := l5_1r0
def b5_0 : EC := EC.ops false [EOper.mk (some 6) (EOp.box true 28 (Opd.t 1)) none, EOper.mk (some 10) (EOp.mv (Opd.c (V.bool false))) none]
def b5_1 : EC := EC.seq (EC.ops false [EOper.mk (some 28) (EOp.call (Opd.f 7) []) none, EOper.mk (some 29) (EOp.un .not (Opd.t 28)) none]) (EC.cond (Opd.t 29) (EC.seq
  (EC.ops false [EOper.mk (some 10) (EOp.mv (Opd.c (V.bool false))) none]) EC.ret) EC.skip)
def b5_2 : EC := EC.seq (EC.ops false [EOper.mk (some 30) (EOp.mv (Opd.t 0)) none, EOper.mk (some 31) (EOp.len false (Opd.t 30)) none, EOper.mk (some 32) (EOp.bin .gtr
  (Opd.t 31) (Opd.c (V.int .i64 (100)))) none, EOper.mk (some 33) (EOp.mv (Opd.t 32)) none, EOper.mk (some 34) (EOp.mv (Opd.t 0)) (some (33, false)), EOper.mk (some 35)
  (EOp.call (Opd.f 13) [Opd.t 34]) (some (33, false)), EOper.mk (some 36) (EOp.un .not (Opd.t 35)) (some (33, false)), EOper.mk (some 37) (EOp.pick (Opd.t 33) (Opd.c
  (V.bool true)) (Opd.t 36)) none]) (EC.cond (Opd.t 37) (EC.seq (EC.ops false [EOper.mk (some 10) (EOp.mv (Opd.c (V.bool true))) none]) EC.ret) EC.skip)
def b5_3 : EC := EC.ops false [EOper.mk (some 39) (EOp.mv (Opd.t 0)) none, EOper.mk (some 40) (EOp.ld true 5 (Opd.t 6)) none, EOper.mk (some 41) (EOp.call (Opd.f 14)
  [Opd.t 39, Opd.t 40]) none, EOper.mk (some 38) (EOp.mv (Opd.t 41)) none, EOper.mk (some 42) (EOp.ext (Opd.t 38) 0) none, EOper.mk (some 43) (EOp.ext (Opd.t 38) 1) none,
  EOper.mk (some 44) (EOp.ext (Opd.t 38) 2) none, EOper.mk (some 11) (EOp.mv (Opd.t 42)) none, EOper.mk (some 12) (EOp.mv (Opd.t 43)) none, EOper.mk (some 13) (EOp.mv
  (Opd.t 44)) none]
def b5_4 : EC := EC.ops false [EOper.mk (some 46) (EOp.ld true 5 (Opd.t 6)) none, EOper.mk (some 47) (EOp.call (Opd.f 15) [Opd.t 46]) none, EOper.mk (some 45) (EOp.mv
  (Opd.t 47)) none, EOper.mk (some 48) (EOp.ext (Opd.t 45) 0) none, EOper.mk (some 49) (EOp.ext (Opd.t 45) 1) none, EOper.mk (some 14) (EOp.alloc true 41 [V.int .u32 (0),
  V.int .u32 (0)]) none, EOper.mk none (EOp.st 2 (Opd.t 14) (Opd.t 48)) none, EOper.mk (some 15) (EOp.mv (Opd.t 49)) none]
def b5_5 : EC := EC.ops false [EOper.mk (some 16) (EOp.mv (Opd.c (V.int .i64 (0)))) none]
def b5_6 : EC := EC.seq (EC.ops false [EOper.mk (some 17) (EOp.mv (Opd.c (V.int .i64 (0)))) none]) (EC.block 0 (EC.loop l5_0))
def b5_7 : EC := EC.seq (EC.ops false [EOper.mk (some 108) (EOp.mv (Opd.t 13)) none, EOper.mk (some 109) (EOp.mv (Opd.t 16)) none, EOper.mk (some 110) (EOp.bin .eql (Opd.t
  109) (Opd.c (V.int .i64 (1)))) none, EOper.mk (some 111) (EOp.eqb true (Opd.t 108) (Opd.t 110)) none, EOper.mk (some 112) (EOp.mv (Opd.t 111)) none, EOper.mk (some 113)
  (EOp.mv (Opd.t 16)) (some (112, false)), EOper.mk (some 114) (EOp.bin .gtr (Opd.t 113) (Opd.c (V.int .i64 (1)))) (some (112, false)), EOper.mk (some 115) (EOp.pick
  (Opd.t 112) (Opd.c (V.bool true)) (Opd.t 114)) none, EOper.mk (some 116) (EOp.mv (Opd.t 115)) none, EOper.mk (some 117) (EOp.mv (Opd.t 13)) (some (116, false)), EOper.mk
  (some 118) (EOp.un .not (Opd.t 117)) (some (116, false)), EOper.mk (some 119) (EOp.mv (Opd.t 118)) (some (116, false)), EOper.mk (some 120) (EOp.mv (Opd.t 11)) (some
  (119, true)), EOper.mk (some 121) (EOp.mv (Opd.t 12)) (some (119, true)), EOper.mk (some 122) (EOp.bin .add (Opd.t 120) (Opd.t 121)) (some (119, true)), EOper.mk (some
  123) (EOp.bin .neq (Opd.t 122) (Opd.c (V.int .i64 (0)))) (some (119, true)), EOper.mk (some 124) (EOp.pick (Opd.t 119) (Opd.t 123) (Opd.c (V.bool false))) (some (116,
  false)), EOper.mk (some 125) (EOp.pick (Opd.t 116) (Opd.c (V.bool true)) (Opd.t 124)) none]) (EC.cond (Opd.t 125) (EC.seq (EC.ops false [EOper.mk (some 10) (EOp.mv
  (Opd.c (V.bool false))) none]) EC.ret) EC.skip)
def b5_8 : EC := EC.ops false [EOper.mk (some 127) (EOp.mv (Opd.t 0)) none, EOper.mk (some 128) (EOp.fa 2 (Opd.t 6)) none, EOper.mk (some 129) (EOp.ld false 1 (Opd.t 128))
  none, EOper.mk (some 130) (EOp.call (Opd.f 18) [Opd.t 127, Opd.t 129]) none, EOper.mk (some 126) (EOp.mv (Opd.t 130)) none, EOper.mk (some 131) (EOp.ext (Opd.t 126) 0)
  none, EOper.mk (some 132) (EOp.ext (Opd.t 126) 1) none, EOper.mk (some 20) (EOp.mv (Opd.t 131)) none, EOper.mk (some 21) (EOp.mv (Opd.t 132)) none]
def b5_9 : EC := EC.seq (EC.ops false [EOper.mk (some 133) (EOp.mv (Opd.t 13)) none, EOper.mk (some 134) (EOp.mv (Opd.t 133)) none, EOper.mk (some 135) (EOp.mv (Opd.t 21))
  (some (134, true)), EOper.mk (some 136) (EOp.un .not (Opd.t 135)) (some (134, true)), EOper.mk (some 137) (EOp.mv (Opd.t 136)) (some (134, true)), EOper.mk (some 138)
  (EOp.mv (Opd.t 20)) (some (137, false)), EOper.mk (some 139) (EOp.mv (Opd.t 11)) (some (137, false)), EOper.mk (some 140) (EOp.bin .neq (Opd.t 138) (Opd.t 139)) (some
  (137, false)), EOper.mk (some 141) (EOp.pick (Opd.t 137) (Opd.c (V.bool true)) (Opd.t 140)) (some (134, true)), EOper.mk (some 142) (EOp.pick (Opd.t 134) (Opd.t 141)
  (Opd.c (V.bool false))) none]) (EC.cond (Opd.t 142) (EC.seq (EC.ops false [EOper.mk (some 10) (EOp.mv (Opd.c (V.bool false))) none]) EC.ret) EC.skip)
def b5_10 : EC := EC.ops false [EOper.mk (some 143) (EOp.mv (Opd.t 2)) none, EOper.mk (some 144) (EOp.mv (Opd.t 0)) none, EOper.mk (some 145) (EOp.len false (Opd.t 144))
  none, EOper.mk (some 146) (EOp.bin .add (Opd.t 145) (Opd.c (V.int .i64 (1)))) none, EOper.mk (some 147) (EOp.call (Opd.f 19) [Opd.t 143, Opd.t 146]) none, EOper.mk (some
  22) (EOp.mv (Opd.t 147)) none]
def b5_11 : EC := EC.opsX (Sch.sil (EOper.mk (some 149) (EOp.mv (Opd.t 0)) none) (Sch.sil (EOper.mk (some 150) (EOp.mv (Opd.t 22)) none) (Sch.sil (EOper.mk (some 151)
  (EOp.slc 5 (Opd.t 149) (some (Opd.t 150)) none) none) (Sch.sil (EOper.mk (some 153) (EOp.mv (Opd.t 0)) none) (Sch.sil (EOper.mk (some 154) (EOp.mv (Opd.t 22)) none)
  (Sch.sil (EOper.mk (some 155) (EOp.slc 5 (Opd.t 153) none (some (Opd.t 154))) none) (Sch.op (EOper.mk (some 148) (EOp.bslice 26 0 [] []) none) (Sch.op (EOper.mk (some
  152) (EOp.app 26 5 40 [V.int .i64 (0), V.int .u32 (0), V.int .i64 (0), V.int .i64 (0), V.int .i64 (0)] (Opd.t 148) (Opd.t 151)) none) (Sch.op (EOper.mk (some 156)
  (EOp.app 26 5 40 [V.int .i64 (0), V.int .u32 (0), V.int .i64 (0), V.int .i64 (0), V.int .i64 (0)] (Opd.t 152) (Opd.t 155)) none) (Sch.sil (EOper.mk (some 23) (EOp.mv
  (Opd.t 156)) none) Sch.done))))))))))
def b5_12 : EC := EC.seq (EC.ops false [EOper.mk (some 24) (EOp.mv (Opd.c (V.int .i64 (0)))) none]) (EC.block 2 (EC.loop l5_1))
def b5_13 : EC := EC.ops false [EOper.mk (some 178) (EOp.mv (Opd.t 23)) none, EOper.mk (some 179) (EOp.ld true 5 (Opd.t 6)) none, EOper.mk (some 180) (EOp.call (Opd.f 14)
  [Opd.t 178, Opd.t 179]) none, EOper.mk (some 177) (EOp.mv (Opd.t 180)) none, EOper.mk (some 181) (EOp.ext (Opd.t 177) 0) none, EOper.mk (some 182) (EOp.ext (Opd.t 177)
  1) none, EOper.mk (some 183) (EOp.ext (Opd.t 177) 2) none, EOper.mk (some 25) (EOp.mv (Opd.t 181)) none, EOper.mk (some 26) (EOp.mv (Opd.t 182)) none, EOper.mk (some 27)
  (EOp.mv (Opd.t 183)) none]
def b5_14 : EC := EC.seq (EC.ops false [EOper.mk (some 184) (EOp.mv (Opd.t 27)) none, EOper.mk (some 185) (EOp.mv (Opd.t 13)) none, EOper.mk (some 186) (EOp.eqb true
  (Opd.t 184) (Opd.t 185)) none, EOper.mk (some 187) (EOp.mv (Opd.t 186)) none, EOper.mk (some 188) (EOp.mv (Opd.t 13)) (some (187, false)), EOper.mk (some 189) (EOp.mv
  (Opd.t 188)) (some (187, false)), EOper.mk (some 190) (EOp.mv (Opd.t 25)) (some (189, true)), EOper.mk (some 191) (EOp.bin .lss (Opd.t 190) (Opd.c (V.int .i64 (0))))
  (some (189, true)), EOper.mk (some 192) (EOp.mv (Opd.t 191)) (some (189, true)), EOper.mk (some 193) (EOp.mv (Opd.t 25)) (some (192, false)), EOper.mk (some 194) (EOp.mv
  (Opd.t 23)) (some (192, false)), EOper.mk (some 195) (EOp.len false (Opd.t 194)) (some (192, false)), EOper.mk (some 196) (EOp.bin .geq (Opd.t 193) (Opd.t 195)) (some
  (192, false)), EOper.mk (some 197) (EOp.pick (Opd.t 192) (Opd.c (V.bool true)) (Opd.t 196)) (some (189, true)), EOper.mk (some 198) (EOp.pick (Opd.t 189) (Opd.t 197)
  (Opd.c (V.bool false))) (some (187, false)), EOper.mk (some 199) (EOp.pick (Opd.t 187) (Opd.c (V.bool true)) (Opd.t 198)) none]) (EC.cond (Opd.t 199) (EC.seq (EC.ops
  false [EOper.mk (some 10) (EOp.mv (Opd.c (V.bool false))) none]) EC.ret) EC.skip)
def b5_15 : EC := EC.opsX (Sch.sil (EOper.mk (some 200) (EOp.mv (Opd.t 13)) none) (Sch.sil (EOper.mk (some 201) (EOp.un .not (Opd.t 200)) none) (Sch.sil (EOper.mk (some
  202) (EOp.mv (Opd.t 201)) none) (Sch.sil (EOper.mk (some 203) (EOp.mv (Opd.t 26)) (some (202, false))) (Sch.sil (EOper.mk (some 204) (EOp.mv (Opd.t 12)) (some (202,
  false))) (Sch.sil (EOper.mk (some 205) (EOp.bin .eql (Opd.t 203) (Opd.t 204)) (some (202, false))) (Sch.sil (EOper.mk (some 206) (EOp.mv (Opd.t 205)) (some (202,
  false))) (Sch.sil (EOper.mk (some 207) (EOp.mv (Opd.t 23)) (some (206, true))) (Sch.sil (EOper.mk (some 208) (EOp.mv (Opd.t 25)) (some (206, true))) (Sch.sil (EOper.mk
  (some 209) (EOp.ixs 5 (Opd.t 207) (Opd.t 208)) (some (206, true))) (Sch.sil (EOper.mk (some 210) (EOp.fa 1 (Opd.t 209)) (some (206, true))) (Sch.sil (EOper.mk (some 212)
  (EOp.mv (Opd.t 0)) (some (206, true))) (Sch.sil (EOper.mk (some 213) (EOp.mv (Opd.t 11)) (some (206, true))) (Sch.sil (EOper.mk (some 214) (EOp.ixs 5 (Opd.t 212) (Opd.t
  213)) (some (206, true))) (Sch.sil (EOper.mk (some 215) (EOp.fa 1 (Opd.t 214)) (some (206, true))) (Sch.both (Sch.op (EOper.mk (some 211) (EOp.ld false 1 (Opd.t 210))
  (some (206, true))) (Sch.op (EOper.mk (some 216) (EOp.ld false 1 (Opd.t 215)) (some (206, true))) (Sch.sil (EOper.mk (some 217) (EOp.bin .eql (Opd.t 211) (Opd.t 216))
  (some (206, true))) (Sch.sil (EOper.mk (some 218) (EOp.pick (Opd.t 206) (Opd.t 217) (Opd.c (V.bool false))) (some (202, false))) (Sch.sil (EOper.mk (some 219) (EOp.pick
  (Opd.t 202) (Opd.c (V.bool true)) (Opd.t 218)) none) (Sch.sil (EOper.mk (some 220) (EOp.mv (Opd.t 219)) none) (Sch.sil (EOper.mk (some 221) (EOp.mv (Opd.t 23)) (some
  (220, true))) (Sch.op (EOper.mk (some 222) (EOp.call (Opd.f 13) [Opd.t 221]) (some (220, true))) (Sch.sil (EOper.mk (some 223) (EOp.pick (Opd.t 220) (Opd.t 222) (Opd.c
  (V.bool false))) none) (Sch.sil (EOper.mk (some 10) (EOp.mv (Opd.t 223)) none) Sch.done)))))))))) (Sch.op (EOper.mk (some 216) (EOp.ld false 1 (Opd.t 215)) (some (206,
  true))) (Sch.op (EOper.mk (some 211) (EOp.ld false 1 (Opd.t 210)) (some (206, true))) (Sch.sil (EOper.mk (some 217) (EOp.bin .eql (Opd.t 211) (Opd.t 216)) (some (206,
  true))) (Sch.sil (EOper.mk (some 218) (EOp.pick (Opd.t 206) (Opd.t 217) (Opd.c (V.bool false))) (some (202, false))) (Sch.sil (EOper.mk (some 219) (EOp.pick (Opd.t 202)
  (Opd.c (V.bool true)) (Opd.t 218)) none) (Sch.sil (EOper.mk (some 220) (EOp.mv (Opd.t 219)) none) (Sch.sil (EOper.mk (some 221) (EOp.mv (Opd.t 23)) (some (220, true)))
  (Sch.op (EOper.mk (some 222) (EOp.call (Opd.f 13) [Opd.t 221]) (some (220, true))) (Sch.sil (EOper.mk (some 223) (EOp.pick (Opd.t 220) (Opd.t 222) (Opd.c (V.bool
  false))) none) (Sch.sil (EOper.mk (some 10) (EOp.mv (Opd.t 223)) none) Sch.done))))))))))))))))))))))))))
def b5_16 : EC := EC.ret
def r5_16 : EC := b5_16
def r5_15 : EC := EC.seq b5_15 r5_16
def r5_14 : EC := EC.seq b5_14 r5_15
def r5_13 : EC := EC.seq b5_13 r5_14
def r5_12 : EC := EC.seq b5_12 r5_13
def r5_11 : EC := EC.seq b5_11 r5_12
def r5_10 : EC := EC.seq b5_10 r5_11
def r5_9 : EC := EC.seq b5_9 r5_10
def r5_8 : EC := EC.seq b5_8 r5_9
def r5_7 : EC := EC.seq b5_7 r5_8
def r5_6 : EC := EC.seq b5_6 r5_7
def r5_5 : EC := EC.seq b5_5 r5_6
def r5_4 : EC := EC.seq b5_4 r5_5
def r5_3 : EC := EC.seq b5_3 r5_4
def r5_2 : EC := EC.seq b5_2 r5_3
def r5_1 : EC := EC.seq b5_1 r5_2
def r5_0 : EC := EC.seq b5_0 r5_1
def e5 : EFun := EFun.mk 224 [ERes.t 10] r5_0
theorem c5 : cFun Tryd.prog 1 (fun d => d == 2000006 || d == 2000014 || d == 2000018 || d == 2000083 || d == 2000086 || d == 2000098 || d == 2000128 || d == 3000000) Tryd.f5 = some e5 := by kernel_rfl
theorem x5 : Tryd.prog.funcs[5]? = some Tryd.f5 := by kernel_rfl
theorem n5 : (Tryd.f5.name == "runtime.NumGoroutine") = false := by kernel_rfl
/-! 6: septumlaw08.WindowApart -/
theorem x6 : Tryd.prog.funcs[6]? = some Tryd.f6 := by kernel_rfl
/-! 7: septumlaw08.awake -/
def b7_0 : EC := EC.ops false [EOper.mk (some 0) (EOp.mv (Opd.c (V.bool false))) none]
def b7_1 : EC := EC.ops false [EOper.mk (some 11) (EOp.call (Opd.f 22) []) none, EOper.mk (some 12) (EOp.build [V.int .i64 (0), V.bool false, V.int .u32 (0), V.int .i64
  (0), V.int .u32 (0)] [(2, 1, Opd.c (V.int .u32 (20))), (3, 1, Opd.c (V.int .i64 (4)))]) none, EOper.mk (some 13) (EOp.call (Opd.f 14) [Opd.t 11, Opd.t 12]) none,
  EOper.mk (some 10) (EOp.mv (Opd.t 13)) none, EOper.mk (some 14) (EOp.ext (Opd.t 10) 0) none, EOper.mk (some 15) (EOp.ext (Opd.t 10) 1) none, EOper.mk (some 16) (EOp.ext
  (Opd.t 10) 2) none, EOper.mk (some 1) (EOp.mv (Opd.t 14)) none, EOper.mk (some 2) (EOp.mv (Opd.t 15)) none, EOper.mk (some 3) (EOp.mv (Opd.t 16)) none]
def b7_2 : EC := EC.ops false [EOper.mk (some 18) (EOp.call (Opd.f 22) []) none, EOper.mk (some 19) (EOp.build [V.int .i64 (0), V.bool false, V.int .u32 (0), V.int .i64
  (0), V.int .u32 (0)] [(2, 1, Opd.c (V.int .u32 (24))), (3, 1, Opd.c (V.int .i64 (4)))]) none, EOper.mk (some 20) (EOp.call (Opd.f 14) [Opd.t 18, Opd.t 19]) none,
  EOper.mk (some 17) (EOp.mv (Opd.t 20)) none, EOper.mk (some 21) (EOp.ext (Opd.t 17) 0) none, EOper.mk (some 22) (EOp.ext (Opd.t 17) 1) none, EOper.mk (some 23) (EOp.ext
  (Opd.t 17) 2) none, EOper.mk (some 4) (EOp.mv (Opd.t 21)) none, EOper.mk (some 5) (EOp.mv (Opd.t 22)) none, EOper.mk (some 6) (EOp.mv (Opd.t 23)) none]
def b7_3 : EC := EC.ops false [EOper.mk (some 25) (EOp.call (Opd.f 22) []) none, EOper.mk (some 26) (EOp.build [V.int .i64 (0), V.bool false, V.int .u32 (0), V.int .i64
  (0), V.int .u32 (0)] [(2, 1, Opd.c (V.int .u32 (56))), (3, 1, Opd.c (V.int .i64 (4)))]) none, EOper.mk (some 27) (EOp.call (Opd.f 14) [Opd.t 25, Opd.t 26]) none,
  EOper.mk (some 24) (EOp.mv (Opd.t 27)) none, EOper.mk (some 28) (EOp.ext (Opd.t 24) 0) none, EOper.mk (some 29) (EOp.ext (Opd.t 24) 1) none, EOper.mk (some 30) (EOp.ext
  (Opd.t 24) 2) none, EOper.mk (some 7) (EOp.mv (Opd.t 28)) none, EOper.mk (some 8) (EOp.mv (Opd.t 29)) none, EOper.mk (some 9) (EOp.mv (Opd.t 30)) none]
def b7_4 : EC := EC.ops false [EOper.mk (some 31) (EOp.mv (Opd.t 1)) none, EOper.mk (some 32) (EOp.bin .eql (Opd.t 31) (Opd.c (V.int .i64 (0)))) none, EOper.mk (some 33)
  (EOp.mv (Opd.t 32)) none, EOper.mk (some 34) (EOp.mv (Opd.t 2)) (some (33, true)), EOper.mk (some 35) (EOp.bin .eql (Opd.t 34) (Opd.c (V.int .i64 (4)))) (some (33,
  true)), EOper.mk (some 36) (EOp.pick (Opd.t 33) (Opd.t 35) (Opd.c (V.bool false))) none, EOper.mk (some 37) (EOp.mv (Opd.t 36)) none, EOper.mk (some 38) (EOp.mv (Opd.t
  3)) (some (37, true)), EOper.mk (some 39) (EOp.pick (Opd.t 37) (Opd.t 38) (Opd.c (V.bool false))) none, EOper.mk (some 40) (EOp.mv (Opd.t 39)) none, EOper.mk (some 41)
  (EOp.mv (Opd.t 4)) (some (40, true)), EOper.mk (some 42) (EOp.bin .eql (Opd.t 41) (Opd.c (V.int .i64 (1)))) (some (40, true)), EOper.mk (some 43) (EOp.pick (Opd.t 40)
  (Opd.t 42) (Opd.c (V.bool false))) none, EOper.mk (some 44) (EOp.mv (Opd.t 43)) none, EOper.mk (some 45) (EOp.mv (Opd.t 5)) (some (44, true)), EOper.mk (some 46)
  (EOp.bin .eql (Opd.t 45) (Opd.c (V.int .i64 (0)))) (some (44, true)), EOper.mk (some 47) (EOp.pick (Opd.t 44) (Opd.t 46) (Opd.c (V.bool false))) none, EOper.mk (some 48)
  (EOp.mv (Opd.t 47)) none, EOper.mk (some 49) (EOp.mv (Opd.t 6)) (some (48, true)), EOper.mk (some 50) (EOp.pick (Opd.t 48) (Opd.t 49) (Opd.c (V.bool false))) none,
  EOper.mk (some 51) (EOp.mv (Opd.t 50)) none, EOper.mk (some 52) (EOp.mv (Opd.t 9)) (some (51, true)), EOper.mk (some 53) (EOp.un .not (Opd.t 52)) (some (51, true)),
  EOper.mk (some 54) (EOp.pick (Opd.t 51) (Opd.t 53) (Opd.c (V.bool false))) none, EOper.mk (some 55) (EOp.mv (Opd.t 54)) none, EOper.mk (some 56) (EOp.build [V.int .i64
  (0), V.int .u32 (0), V.int .i64 (0), V.int .i64 (0), V.int .i64 (0)] [(0, 1, Opd.c (V.int .i64 (1))), (1, 1, Opd.c (V.int .u32 (18))), (2, 1, Opd.c (V.int .i64 (8)))])
  (some (55, true)), EOper.mk (some 57) (EOp.call (Opd.f 23) [Opd.t 56]) (some (55, true)), EOper.mk (some 58) (EOp.un .not (Opd.t 57)) (some (55, true)), EOper.mk (some
  59) (EOp.pick (Opd.t 55) (Opd.t 58) (Opd.c (V.bool false))) none, EOper.mk (some 0) (EOp.mv (Opd.t 59)) none]
def b7_5 : EC := EC.ret
def r7_5 : EC := b7_5
def r7_4 : EC := EC.seq b7_4 r7_5
def r7_3 : EC := EC.seq b7_3 r7_4
def r7_2 : EC := EC.seq b7_2 r7_3
def r7_1 : EC := EC.seq b7_1 r7_2
def r7_0 : EC := EC.seq b7_0 r7_1
def e7 : EFun := EFun.mk 60 [ERes.t 0] r7_0
theorem c7 : cFun Tryd.prog 1 (fun d => d == 3000000) Tryd.f7 = some e7 := by kernel_rfl
theorem x7 : Tryd.prog.funcs[7]? = some Tryd.f7 := by kernel_rfl
theorem n7 : (Tryd.f7.name == "runtime.NumGoroutine") = false := by kernel_rfl
/-! 8: septumkit.LentDevices -/
def l8_0p0 : EC := EC.seq (EC.ops false [EOper.mk (some 12) (EOp.mv (Opd.t 4)) none, EOper.mk (some 13) (EOp.bin .lss (Opd.t 12) (Opd.c (V.int .i64 (12)))) none]) (EC.cond
  (Opd.t 13) EC.skip (EC.exit 0))
def l8_0p1 : EC := EC.block 1 (EC.ops false [EOper.mk (some 16) (EOp.mv (Opd.t 3)) none, EOper.mk (some 17) (EOp.mv (Opd.t 4)) none, EOper.mk (some 18) (EOp.call (Opd.f
  24) [Opd.c (V.int .i64 (1)), Opd.t 17]) none, EOper.mk (some 19) (EOp.bslice 26 1 [V.int .i64 (0), V.int .u32 (0), V.int .i64 (0), V.int .i64 (0), V.int .i64 (0)] [(0,
  5, Opd.t 18)]) none, EOper.mk (some 20) (EOp.app 26 5 40 [V.int .i64 (0), V.int .u32 (0), V.int .i64 (0), V.int .i64 (0), V.int .i64 (0)] (Opd.t 16) (Opd.t 19)) none,
  EOper.mk (some 3) (EOp.mv (Opd.t 20)) none])
def l8_0p2 : EC := EC.ops false [EOper.mk (some 14) (EOp.mv (Opd.t 4)) none, EOper.mk (some 15) (EOp.bin .add (Opd.t 14) (Opd.c (V.int .i64 (1)))) none, EOper.mk (some 4)
  (EOp.mv (Opd.t 15)) none]
def l8_0r2 : EC := l8_0p2
def l8_0r1 : EC := EC.seq l8_0p1 l8_0r2
def l8_0r0 : EC := EC.seq l8_0p0 l8_0r1
def l8_0 : EC := l8_0r0
def b8_0 : EC := EC.ops false [EOper.mk (some 2) (EOp.mv (Opd.c (V.sl none 0 0))) none]
def b8_1 : EC := EC.ops false [EOper.mk (some 5) (EOp.mv (Opd.t 0)) none, EOper.mk (some 6) (EOp.len false (Opd.t 5)) none, EOper.mk (some 7) (EOp.bin .add (Opd.t 6)
  (Opd.c (V.int .i64 (12)))) none, EOper.mk (some 8) (EOp.mksl 26 [V.int .i64 (0), V.int .u32 (0), V.int .i64 (0), V.int .i64 (0), V.int .i64 (0)] 40 (Opd.c (V.int .i64
  (0))) (Opd.t 7)) none, EOper.mk (some 3) (EOp.mv (Opd.t 8)) none]
def b8_2 : EC := EC.ops false [EOper.mk (some 9) (EOp.mv (Opd.t 3)) none, EOper.mk (some 10) (EOp.mv (Opd.t 0)) none, EOper.mk (some 11) (EOp.app 26 5 40 [V.int .i64 (0),
  V.int .u32 (0), V.int .i64 (0), V.int .i64 (0), V.int .i64 (0)] (Opd.t 9) (Opd.t 10)) none, EOper.mk (some 3) (EOp.mv (Opd.t 11)) none]
def b8_3 : EC := EC.seq (EC.ops false [EOper.mk (some 4) (EOp.mv (Opd.c (V.int .i64 (0)))) none]) (EC.block 0 (EC.loop l8_0))
def b8_4 : EC := EC.ops false [EOper.mk (some 21) (EOp.mv (Opd.t 3)) none, EOper.mk (some 22) (EOp.mv (Opd.t 0)) none, EOper.mk (some 23) (EOp.len false (Opd.t 22)) none,
  EOper.mk (some 24) (EOp.slc 5 (Opd.t 21) none (some (Opd.t 23))) none, EOper.mk (some 2) (EOp.mv (Opd.t 24)) none]
def b8_5 : EC := EC.ret
def r8_5 : EC := b8_5
def r8_4 : EC := EC.seq b8_4 r8_5
def r8_3 : EC := EC.seq b8_3 r8_4
def r8_2 : EC := EC.seq b8_2 r8_3
def r8_1 : EC := EC.seq b8_1 r8_2
def r8_0 : EC := EC.seq b8_0 r8_1
def e8 : EFun := EFun.mk 25 [ERes.t 2] r8_0
theorem c8 : cFun Tryd.prog 1 (fun _ => false) Tryd.f8 = some e8 := by kernel_rfl
theorem x8 : Tryd.prog.funcs[8]? = some Tryd.f8 := by kernel_rfl
theorem n8 : (Tryd.f8.name == "runtime.NumGoroutine") = false := by kernel_rfl
/-! 9: septumlaw08.one -/
def b9_0 : EC := EC.ops false [EOper.mk (some 1) (EOp.box true 26 (Opd.t 0)) none, EOper.mk (some 2) (EOp.mv (Opd.c (V.bool false))) none]
def b9_1 : EC := EC.ops false [EOper.mk (some 8) (EOp.ld true 5 (Opd.t 1)) none, EOper.mk (some 9) (EOp.call (Opd.f 16) [Opd.t 8]) none, EOper.mk (some 7) (EOp.mv (Opd.t
  9)) none, EOper.mk (some 10) (EOp.ext (Opd.t 7) 0) none, EOper.mk (some 11) (EOp.ext (Opd.t 7) 1) none, EOper.mk (some 3) (EOp.alloc true 41 [V.int .u32 (0), V.int .u32
  (0)]) none, EOper.mk none (EOp.st 2 (Opd.t 3) (Opd.t 10)) none, EOper.mk (some 4) (EOp.mv (Opd.t 11)) none]
def b9_2 : EC := EC.ops false [EOper.mk (some 13) (EOp.ld true 5 (Opd.t 1)) none, EOper.mk (some 14) (EOp.call (Opd.f 25) [Opd.t 13]) none, EOper.mk (some 12) (EOp.mv
  (Opd.t 14)) none, EOper.mk (some 15) (EOp.ext (Opd.t 12) 0) none, EOper.mk (some 16) (EOp.ext (Opd.t 12) 1) none, EOper.mk (some 5) (EOp.alloc true 41 [V.int .u32 (0),
  V.int .u32 (0)]) none, EOper.mk none (EOp.st 2 (Opd.t 5) (Opd.t 15)) none, EOper.mk (some 6) (EOp.mv (Opd.t 16)) none]
def b9_3 : EC := EC.ops true [EOper.mk (some 17) (EOp.ld true 5 (Opd.t 1)) none, EOper.mk (some 18) (EOp.call (Opd.f 23) [Opd.t 17]) none, EOper.mk (some 19) (EOp.ld true
  5 (Opd.t 1)) none, EOper.mk (some 20) (EOp.call (Opd.f 26) [Opd.t 19]) none, EOper.mk (some 21) (EOp.eqb false (Opd.t 18) (Opd.t 20)) none, EOper.mk (some 22) (EOp.mv
  (Opd.t 21)) none, EOper.mk (some 23) (EOp.ld true 2 (Opd.t 3)) (some (22, true)), EOper.mk (some 24) (EOp.ld true 2 (Opd.t 5)) (some (22, true)), EOper.mk (some 25)
  (EOp.cmp false [true, true] (Opd.t 23) (Opd.t 24)) (some (22, true)), EOper.mk (some 26) (EOp.pick (Opd.t 22) (Opd.t 25) (Opd.c (V.bool false))) none, EOper.mk (some 27)
  (EOp.mv (Opd.t 26)) none, EOper.mk (some 28) (EOp.mv (Opd.t 4)) (some (27, true)), EOper.mk (some 29) (EOp.mv (Opd.t 6)) (some (27, true)), EOper.mk (some 30) (EOp.eqb
  false (Opd.t 28) (Opd.t 29)) (some (27, true)), EOper.mk (some 31) (EOp.pick (Opd.t 27) (Opd.t 30) (Opd.c (V.bool false))) none, EOper.mk (some 2) (EOp.mv (Opd.t 31))
  none]
def b9_4 : EC := EC.ret
def r9_4 : EC := b9_4
def r9_3 : EC := EC.seq b9_3 r9_4
def r9_2 : EC := EC.seq b9_2 r9_3
def r9_1 : EC := EC.seq b9_1 r9_2
def r9_0 : EC := EC.seq b9_0 r9_1
def e9 : EFun := EFun.mk 32 [ERes.t 2] r9_0
theorem c9 : cFun Tryd.prog 1 (fun _ => false) Tryd.f9 = some e9 := by kernel_rfl
theorem x9 : Tryd.prog.funcs[9]? = some Tryd.f9 := by kernel_rfl
theorem n9 : (Tryd.f9.name == "runtime.NumGoroutine") = false := by kernel_rfl
/-! 10: septumlaw08.asks -/
def b10_0 : EC := EC.ops false [EOper.mk (some 4) (EOp.box true 28 (Opd.t 1)) none, EOper.mk (some 6) (EOp.mv (Opd.c (V.bool false))) none]
def b10_1 : EC := EC.ops false [EOper.mk (some 18) (EOp.mv (Opd.t 0)) none, EOper.mk (some 19) (EOp.ld true 5 (Opd.t 4)) none, EOper.mk (some 20) (EOp.call (Opd.f 14)
  [Opd.t 18, Opd.t 19]) none, EOper.mk (some 17) (EOp.mv (Opd.t 20)) none, EOper.mk (some 21) (EOp.ext (Opd.t 17) 0) none, EOper.mk (some 22) (EOp.ext (Opd.t 17) 1) none,
  EOper.mk (some 23) (EOp.ext (Opd.t 17) 2) none, EOper.mk (some 7) (EOp.mv (Opd.t 21)) none, EOper.mk (some 8) (EOp.mv (Opd.t 22)) none, EOper.mk (some 9) (EOp.mv (Opd.t
  23)) none]
def b10_2 : EC := EC.ops false [EOper.mk (some 25) (EOp.mv (Opd.t 0)) none, EOper.mk (some 26) (EOp.ld true 5 (Opd.t 4)) none, EOper.mk (some 27) (EOp.call (Opd.f 27)
  [Opd.t 25, Opd.t 26]) none, EOper.mk (some 24) (EOp.mv (Opd.t 27)) none, EOper.mk (some 28) (EOp.ext (Opd.t 24) 0) none, EOper.mk (some 29) (EOp.ext (Opd.t 24) 1) none,
  EOper.mk (some 30) (EOp.ext (Opd.t 24) 2) none, EOper.mk (some 10) (EOp.mv (Opd.t 28)) none, EOper.mk (some 11) (EOp.mv (Opd.t 29)) none, EOper.mk (some 12) (EOp.mv
  (Opd.t 30)) none]
def b10_3 : EC := EC.ops false [EOper.mk (some 32) (EOp.mv (Opd.t 0)) none, EOper.mk (some 33) (EOp.mv (Opd.t 2)) none, EOper.mk (some 34) (EOp.call (Opd.f 18) [Opd.t 32,
  Opd.t 33]) none, EOper.mk (some 31) (EOp.mv (Opd.t 34)) none, EOper.mk (some 35) (EOp.ext (Opd.t 31) 0) none, EOper.mk (some 36) (EOp.ext (Opd.t 31) 1) none, EOper.mk
  (some 13) (EOp.mv (Opd.t 35)) none, EOper.mk (some 14) (EOp.mv (Opd.t 36)) none]
def b10_4 : EC := EC.ops false [EOper.mk (some 38) (EOp.mv (Opd.t 0)) none, EOper.mk (some 39) (EOp.mv (Opd.t 2)) none, EOper.mk (some 40) (EOp.call (Opd.f 28) [Opd.t 38,
  Opd.t 39]) none, EOper.mk (some 37) (EOp.mv (Opd.t 40)) none, EOper.mk (some 41) (EOp.ext (Opd.t 37) 0) none, EOper.mk (some 42) (EOp.ext (Opd.t 37) 1) none, EOper.mk
  (some 15) (EOp.mv (Opd.t 41)) none, EOper.mk (some 16) (EOp.mv (Opd.t 42)) none]
def b10_5 : EC := EC.ops false [EOper.mk (some 43) (EOp.mv (Opd.t 0)) none, EOper.mk (some 44) (EOp.call (Opd.f 13) [Opd.t 43]) none, EOper.mk (some 45) (EOp.mv (Opd.t 0))
  none, EOper.mk (some 46) (EOp.call (Opd.f 29) [Opd.t 45]) none, EOper.mk (some 47) (EOp.eqb false (Opd.t 44) (Opd.t 46)) none, EOper.mk (some 48) (EOp.mv (Opd.t 47))
  none, EOper.mk (some 49) (EOp.mv (Opd.t 7)) (some (48, true)), EOper.mk (some 50) (EOp.mv (Opd.t 10)) (some (48, true)), EOper.mk (some 51) (EOp.bin .eql (Opd.t 49)
  (Opd.t 50)) (some (48, true)), EOper.mk (some 52) (EOp.pick (Opd.t 48) (Opd.t 51) (Opd.c (V.bool false))) none, EOper.mk (some 53) (EOp.mv (Opd.t 52)) none, EOper.mk
  (some 54) (EOp.mv (Opd.t 8)) (some (53, true)), EOper.mk (some 55) (EOp.mv (Opd.t 11)) (some (53, true)), EOper.mk (some 56) (EOp.bin .eql (Opd.t 54) (Opd.t 55)) (some
  (53, true)), EOper.mk (some 57) (EOp.pick (Opd.t 53) (Opd.t 56) (Opd.c (V.bool false))) none, EOper.mk (some 58) (EOp.mv (Opd.t 57)) none, EOper.mk (some 59) (EOp.mv
  (Opd.t 9)) (some (58, true)), EOper.mk (some 60) (EOp.mv (Opd.t 12)) (some (58, true)), EOper.mk (some 61) (EOp.eqb false (Opd.t 59) (Opd.t 60)) (some (58, true)),
  EOper.mk (some 62) (EOp.pick (Opd.t 58) (Opd.t 61) (Opd.c (V.bool false))) none, EOper.mk (some 63) (EOp.mv (Opd.t 62)) none, EOper.mk (some 64) (EOp.mv (Opd.t 13))
  (some (63, true)), EOper.mk (some 65) (EOp.mv (Opd.t 15)) (some (63, true)), EOper.mk (some 66) (EOp.bin .eql (Opd.t 64) (Opd.t 65)) (some (63, true)), EOper.mk (some
  67) (EOp.pick (Opd.t 63) (Opd.t 66) (Opd.c (V.bool false))) none, EOper.mk (some 68) (EOp.mv (Opd.t 67)) none, EOper.mk (some 69) (EOp.mv (Opd.t 14)) (some (68, true)),
  EOper.mk (some 70) (EOp.mv (Opd.t 16)) (some (68, true)), EOper.mk (some 71) (EOp.eqb false (Opd.t 69) (Opd.t 70)) (some (68, true)), EOper.mk (some 72) (EOp.pick (Opd.t
  68) (Opd.t 71) (Opd.c (V.bool false))) none, EOper.mk (some 6) (EOp.mv (Opd.t 72)) none]
def b10_6 : EC := EC.ret
def r10_6 : EC := b10_6
def r10_5 : EC := EC.seq b10_5 r10_6
def r10_4 : EC := EC.seq b10_4 r10_5
def r10_3 : EC := EC.seq b10_3 r10_4
def r10_2 : EC := EC.seq b10_2 r10_3
def r10_1 : EC := EC.seq b10_1 r10_2
def r10_0 : EC := EC.seq b10_0 r10_1
def e10 : EFun := EFun.mk 73 [ERes.t 6] r10_0
theorem c10 : cFun Tryd.prog 1 (fun _ => false) Tryd.f10 = some e10 := by kernel_rfl
theorem x10 : Tryd.prog.funcs[10]? = some Tryd.f10 := by kernel_rfl
theorem n10 : (Tryd.f10.name == "runtime.NumGoroutine") = false := by kernel_rfl
/-! 11: septumkit.KeptDevices -/
def l11_0p0 : EC := EC.seq (EC.ops false [EOper.mk (some 17) (EOp.mv (Opd.t 6)) none, EOper.mk (some 18) (EOp.mv (Opd.t 5)) none, EOper.mk (some 19) (EOp.len false (Opd.t
  18)) none, EOper.mk (some 20) (EOp.bin .lss (Opd.t 17) (Opd.t 19)) none]) (EC.cond (Opd.t 20) EC.skip (EC.exit 0))
def l11_0p1 : EC := EC.block 1 (EC.seq (EC.ops true [EOper.mk (some 23) (EOp.mv (Opd.t 6)) none, EOper.mk (some 24) (EOp.mv (Opd.t 1)) none, EOper.mk (some 25) (EOp.len
  false (Opd.t 24)) none, EOper.mk (some 26) (EOp.bin .lss (Opd.t 23) (Opd.t 25)) none, EOper.mk (some 27) (EOp.mv (Opd.t 26)) none, EOper.mk (some 28) (EOp.mv (Opd.t 5))
  (some (27, true)), EOper.mk (some 29) (EOp.mv (Opd.t 6)) (some (27, true)), EOper.mk (some 30) (EOp.ixs 5 (Opd.t 28) (Opd.t 29)) (some (27, true)), EOper.mk (some 31)
  (EOp.ld true 5 (Opd.t 30)) (some (27, true)), EOper.mk (some 32) (EOp.mv (Opd.t 1)) (some (27, true)), EOper.mk (some 33) (EOp.mv (Opd.t 6)) (some (27, true)), EOper.mk
  (some 34) (EOp.ixs 5 (Opd.t 32) (Opd.t 33)) (some (27, true)), EOper.mk (some 35) (EOp.ld true 5 (Opd.t 34)) (some (27, true)), EOper.mk (some 36) (EOp.cmp false [true,
  true, true, true, true] (Opd.t 31) (Opd.t 35)) (some (27, true)), EOper.mk (some 37) (EOp.un .not (Opd.t 36)) (some (27, true)), EOper.mk (some 38) (EOp.pick (Opd.t 27)
  (Opd.t 37) (Opd.c (V.bool false))) none, EOper.mk (some 39) (EOp.mv (Opd.t 38)) none, EOper.mk (some 40) (EOp.mv (Opd.t 6)) (some (39, false)), EOper.mk (some 41)
  (EOp.mv (Opd.t 1)) (some (39, false)), EOper.mk (some 42) (EOp.len false (Opd.t 41)) (some (39, false)), EOper.mk (some 43) (EOp.bin .geq (Opd.t 40) (Opd.t 42)) (some
  (39, false)), EOper.mk (some 44) (EOp.mv (Opd.t 43)) (some (39, false)), EOper.mk (some 45) (EOp.mv (Opd.t 5)) (some (44, true)), EOper.mk (some 46) (EOp.mv (Opd.t 6))
  (some (44, true)), EOper.mk (some 47) (EOp.ixs 5 (Opd.t 45) (Opd.t 46)) (some (44, true)), EOper.mk (some 48) (EOp.ld true 5 (Opd.t 47)) (some (44, true)), EOper.mk
  (some 49) (EOp.mv (Opd.t 6)) (some (44, true)), EOper.mk (some 50) (EOp.mv (Opd.t 1)) (some (44, true)), EOper.mk (some 51) (EOp.len false (Opd.t 50)) (some (44, true)),
  EOper.mk (some 52) (EOp.bin .sub (Opd.t 49) (Opd.t 51)) (some (44, true)), EOper.mk (some 53) (EOp.call (Opd.f 24) [Opd.c (V.int .i64 (1)), Opd.t 52]) (some (44, true)),
  EOper.mk (some 54) (EOp.cmp false [true, true, true, true, true] (Opd.t 48) (Opd.t 53)) (some (44, true)), EOper.mk (some 55) (EOp.un .not (Opd.t 54)) (some (44, true)),
  EOper.mk (some 56) (EOp.pick (Opd.t 44) (Opd.t 55) (Opd.c (V.bool false))) (some (39, false)), EOper.mk (some 57) (EOp.pick (Opd.t 39) (Opd.c (V.bool true)) (Opd.t 56))
  none]) (EC.cond (Opd.t 57) (EC.seq (EC.ops false [EOper.mk (some 4) (EOp.mv (Opd.c (V.bool false))) none]) EC.ret) EC.skip))
def l11_0p2 : EC := EC.ops false [EOper.mk (some 21) (EOp.mv (Opd.t 6)) none, EOper.mk (some 22) (EOp.bin .add (Opd.t 21) (Opd.c (V.int .i64 (1)))) none, EOper.mk (some 6)
  (EOp.mv (Opd.t 22)) none]
def l11_0r2 : EC := l11_0p2
def l11_0r1 : EC := EC.seq l11_0p1 l11_0r2
def l11_0r0 : EC := EC.seq l11_0p0 l11_0r1
def l11_0 : EC := l11_0r0
def b11_0 : EC := EC.ops false [EOper.mk (some 4) (EOp.mv (Opd.c (V.bool false))) none]
def b11_1 : EC := EC.seq (EC.ops false [EOper.mk (some 7) (EOp.mv (Opd.t 0)) none, EOper.mk (some 8) (EOp.len false (Opd.t 7)) none, EOper.mk (some 9) (EOp.mv (Opd.t 1))
  none, EOper.mk (some 10) (EOp.len false (Opd.t 9)) none, EOper.mk (some 11) (EOp.bin .neq (Opd.t 8) (Opd.t 10)) none]) (EC.cond (Opd.t 11) (EC.seq (EC.ops false
  [EOper.mk (some 4) (EOp.mv (Opd.c (V.bool false))) none]) EC.ret) EC.skip)
def b11_2 : EC := EC.ops false [EOper.mk (some 12) (EOp.mv (Opd.t 0)) none, EOper.mk (some 13) (EOp.mv (Opd.t 1)) none, EOper.mk (some 14) (EOp.len false (Opd.t 13)) none,
  EOper.mk (some 15) (EOp.bin .add (Opd.t 14) (Opd.c (V.int .i64 (12)))) none, EOper.mk (some 16) (EOp.slc 5 (Opd.t 12) none (some (Opd.t 15))) none, EOper.mk (some 5)
  (EOp.mv (Opd.t 16)) none]
def b11_3 : EC := EC.seq (EC.ops false [EOper.mk (some 6) (EOp.mv (Opd.c (V.int .i64 (0)))) none]) (EC.block 0 (EC.loop l11_0))
def b11_4 : EC := EC.ops false [EOper.mk (some 4) (EOp.mv (Opd.c (V.bool true))) none]
def b11_5 : EC := EC.ret
def r11_5 : EC := b11_5
def r11_4 : EC := EC.seq b11_4 r11_5
def r11_3 : EC := EC.seq b11_3 r11_4
def r11_2 : EC := EC.seq b11_2 r11_3
def r11_1 : EC := EC.seq b11_1 r11_2
def r11_0 : EC := EC.seq b11_0 r11_1
def e11 : EFun := EFun.mk 58 [ERes.t 4] r11_0
theorem c11 : cFun Tryd.prog 1 (fun _ => false) Tryd.f11 = some e11 := by kernel_rfl
theorem x11 : Tryd.prog.funcs[11]? = some Tryd.f11 := by kernel_rfl
theorem n11 : (Tryd.f11.name == "runtime.NumGoroutine") = false := by kernel_rfl
/-! 12: septumlaw08.turned -/
/-! 13: window.Right -/
def b13_0 : EC := EC.ops false [EOper.mk (some 2) (EOp.mv (Opd.c (V.bool false))) none]
def b13_1 : EC := EC.ops false [EOper.mk (some 6) (EOp.mv (Opd.t 0)) none, EOper.mk (some 7) (EOp.call (Opd.f 30) [Opd.t 6]) none, EOper.mk (some 5) (EOp.mv (Opd.t 7))
  none, EOper.mk (some 8) (EOp.ext (Opd.t 5) 0) none, EOper.mk (some 9) (EOp.ext (Opd.t 5) 1) none, EOper.mk (some 3) (EOp.mv (Opd.t 8)) none, EOper.mk (some 4) (EOp.mv
  (Opd.t 9)) none]
def b13_2 : EC := EC.ops false [EOper.mk (some 10) (EOp.mv (Opd.t 4)) none, EOper.mk (some 2) (EOp.mv (Opd.t 10)) none]
def b13_3 : EC := EC.ret
def r13_3 : EC := b13_3
def r13_2 : EC := EC.seq b13_2 r13_3
def r13_1 : EC := EC.seq b13_1 r13_2
def r13_0 : EC := EC.seq b13_0 r13_1
def e13 : EFun := EFun.mk 11 [ERes.t 2] r13_0
theorem c13 : cFun Tryd.prog 1 (fun _ => false) Tryd.f13 = some e13 := by kernel_rfl
theorem x13 : Tryd.prog.funcs[13]? = some Tryd.f13 := by kernel_rfl
theorem n13 : (Tryd.f13.name == "runtime.NumGoroutine") = false := by kernel_rfl
/-! 14: window.Decode -/
def b14_0 : EC := EC.ops false [EOper.mk (some 3) (EOp.box true 28 (Opd.t 1)) none, EOper.mk (some 4) (EOp.mv (Opd.c (V.int .i64 (0)))) none, EOper.mk (some 5) (EOp.mv
  (Opd.c (V.int .i64 (0)))) none, EOper.mk (some 6) (EOp.mv (Opd.c (V.bool false))) none]
def b14_1 : EC := EC.ops false [EOper.mk (some 10) (EOp.ld true 5 (Opd.t 3)) none, EOper.mk (some 11) (EOp.call (Opd.f 15) [Opd.t 10]) none, EOper.mk (some 9) (EOp.mv
  (Opd.t 11)) none, EOper.mk (some 12) (EOp.ext (Opd.t 9) 0) none, EOper.mk (some 13) (EOp.ext (Opd.t 9) 1) none, EOper.mk (some 7) (EOp.alloc false 41 [V.int .u32 (0),
  V.int .u32 (0)]) none, EOper.mk none (EOp.st 2 (Opd.t 7) (Opd.t 12)) none, EOper.mk (some 8) (EOp.mv (Opd.t 13)) none]
def b14_2 : EC := EC.seq (EC.ops false [EOper.mk (some 14) (EOp.mv (Opd.t 8)) none, EOper.mk (some 15) (EOp.un .not (Opd.t 14)) none]) (EC.cond (Opd.t 15) (EC.seq (EC.ops
  false [EOper.mk (some 4) (EOp.mv (Opd.c (V.int .i64 (0)))) none, EOper.mk (some 5) (EOp.mv (Opd.c (V.int .i64 (0)))) none, EOper.mk (some 6) (EOp.mv (Opd.c (V.bool
  false))) none]) EC.ret) EC.skip)
def b14_3 : EC := EC.seq (EC.ops false [EOper.mk (some 17) (EOp.mv (Opd.t 0)) none, EOper.mk (some 18) (EOp.mkfn 32 [] [Opd.t 7]) none, EOper.mk (some 19) (EOp.call (Opd.f
  31) [Opd.t 17, Opd.t 18]) none, EOper.mk (some 16) (EOp.mv (Opd.t 19)) none, EOper.mk (some 20) (EOp.ext (Opd.t 16) 0) none, EOper.mk (some 21) (EOp.ext (Opd.t 16) 1)
  none, EOper.mk (some 4) (EOp.mv (Opd.t 20)) none, EOper.mk (some 6) (EOp.mv (Opd.t 21)) none]) (EC.seq (EC.ops false [EOper.mk (some 22) (EOp.mv (Opd.t 6)) none])
  (EC.cond (Opd.t 22) (EC.ops true [EOper.mk (some 23) (EOp.fa 2 (Opd.t 3)) none, EOper.mk (some 24) (EOp.ld false 1 (Opd.t 23)) none, EOper.mk (some 25) (EOp.mv (Opd.t
  0)) none, EOper.mk (some 26) (EOp.mv (Opd.t 4)) none, EOper.mk (some 27) (EOp.ixs 5 (Opd.t 25) (Opd.t 26)) none, EOper.mk (some 28) (EOp.fa 1 (Opd.t 27)) none, EOper.mk
  (some 29) (EOp.ld false 1 (Opd.t 28)) none, EOper.mk (some 30) (EOp.bin .sub (Opd.t 24) (Opd.t 29)) none, EOper.mk (some 31) (EOp.conv .i64 (Opd.t 30)) none, EOper.mk
  (some 5) (EOp.mv (Opd.t 31)) none]) EC.skip))
def b14_4 : EC := EC.ops false [EOper.mk (some 32) (EOp.mv (Opd.t 4)) none, EOper.mk (some 33) (EOp.mv (Opd.t 5)) none, EOper.mk (some 34) (EOp.mv (Opd.t 6)) none,
  EOper.mk (some 4) (EOp.mv (Opd.t 32)) none, EOper.mk (some 5) (EOp.mv (Opd.t 33)) none, EOper.mk (some 6) (EOp.mv (Opd.t 34)) none]
def b14_5 : EC := EC.ret
def r14_5 : EC := b14_5
def r14_4 : EC := EC.seq b14_4 r14_5
def r14_3 : EC := EC.seq b14_3 r14_4
def r14_2 : EC := EC.seq b14_2 r14_3
def r14_1 : EC := EC.seq b14_1 r14_2
def r14_0 : EC := EC.seq b14_0 r14_1
def e14 : EFun := EFun.mk 35 [ERes.t 4, ERes.t 5, ERes.t 6] r14_0
theorem c14 : cFun Tryd.prog 1 (fun d => d == 7) Tryd.f14 = some e14 := by kernel_rfl
theorem x14 : Tryd.prog.funcs[14]? = some Tryd.f14 := by kernel_rfl
theorem n14 : (Tryd.f14.name == "runtime.NumGoroutine") = false := by kernel_rfl
/-! 15: access.Reach -/
def b15_0 : EC := EC.ops false [EOper.mk (some 1) (EOp.box true 28 (Opd.t 0)) none, EOper.mk (some 2) (EOp.alloc true 41 [V.int .u32 (0), V.int .u32 (0)]) none, EOper.mk
  (some 3) (EOp.mv (Opd.c (V.bool false))) none]
def b15_1 : EC := EC.seq (EC.ops false [EOper.mk (some 4) (EOp.ld true 5 (Opd.t 1)) none, EOper.mk (some 5) (EOp.call (Opd.f 33) [Opd.t 4]) none, EOper.mk (some 6) (EOp.un
  .not (Opd.t 5)) none]) (EC.cond (Opd.t 6) (EC.seq (EC.ops false [EOper.mk (some 7) (EOp.build [V.int .u32 (0), V.int .u32 (0)] []) none, EOper.mk none (EOp.st 2 (Opd.t
  2) (Opd.t 7)) none, EOper.mk (some 3) (EOp.mv (Opd.c (V.bool false))) none]) EC.ret) EC.skip)
def b15_2 : EC := EC.ops false [EOper.mk (some 8) (EOp.fa 2 (Opd.t 1)) none, EOper.mk (some 9) (EOp.ld false 1 (Opd.t 8)) none, EOper.mk (some 10) (EOp.fa 3 (Opd.t 1))
  none, EOper.mk (some 11) (EOp.ld false 1 (Opd.t 10)) none, EOper.mk (some 12) (EOp.call (Opd.f 34) [Opd.t 9, Opd.t 11]) none, EOper.mk (some 13) (EOp.ext (Opd.t 12) 0)
  none, EOper.mk (some 14) (EOp.ext (Opd.t 12) 1) none, EOper.mk none (EOp.st 2 (Opd.t 2) (Opd.t 13)) none, EOper.mk (some 3) (EOp.mv (Opd.t 14)) none]
def b15_3 : EC := EC.ret
def r15_3 : EC := b15_3
def r15_2 : EC := EC.seq b15_2 r15_3
def r15_1 : EC := EC.seq b15_1 r15_2
def r15_0 : EC := EC.seq b15_0 r15_1
def e15 : EFun := EFun.mk 15 [ERes.c 2 2, ERes.t 3] r15_0
theorem c15 : cFun Tryd.prog 1 (fun _ => false) Tryd.f15 = some e15 := by kernel_rfl
theorem x15 : Tryd.prog.funcs[15]? = some Tryd.f15 := by kernel_rfl
theorem n15 : (Tryd.f15.name == "runtime.NumGoroutine") = false := by kernel_rfl
/-! 16: window.Reach -/
def b16_0 : EC := EC.ops false [EOper.mk (some 1) (EOp.box true 26 (Opd.t 0)) none, EOper.mk (some 2) (EOp.alloc true 41 [V.int .u32 (0), V.int .u32 (0)]) none, EOper.mk
  (some 3) (EOp.mv (Opd.c (V.bool false))) none]
def b16_1 : EC := EC.seq (EC.ops false [EOper.mk (some 4) (EOp.ld true 5 (Opd.t 1)) none, EOper.mk (some 5) (EOp.call (Opd.f 23) [Opd.t 4]) none, EOper.mk (some 6) (EOp.un
  .not (Opd.t 5)) none]) (EC.cond (Opd.t 6) (EC.seq (EC.ops false [EOper.mk (some 7) (EOp.build [V.int .u32 (0), V.int .u32 (0)] []) none, EOper.mk none (EOp.st 2 (Opd.t
  2) (Opd.t 7)) none, EOper.mk (some 3) (EOp.mv (Opd.c (V.bool false))) none]) EC.ret) EC.skip)
def b16_2 : EC := EC.ops false [EOper.mk (some 8) (EOp.fa 1 (Opd.t 1)) none, EOper.mk (some 9) (EOp.ld false 1 (Opd.t 8)) none, EOper.mk (some 10) (EOp.fa 2 (Opd.t 1))
  none, EOper.mk (some 11) (EOp.ld false 1 (Opd.t 10)) none, EOper.mk (some 12) (EOp.call (Opd.f 34) [Opd.t 9, Opd.t 11]) none, EOper.mk (some 13) (EOp.ext (Opd.t 12) 0)
  none, EOper.mk (some 14) (EOp.ext (Opd.t 12) 1) none, EOper.mk none (EOp.st 2 (Opd.t 2) (Opd.t 13)) none, EOper.mk (some 3) (EOp.mv (Opd.t 14)) none]
def b16_3 : EC := EC.ret
def r16_3 : EC := b16_3
def r16_2 : EC := EC.seq b16_2 r16_3
def r16_1 : EC := EC.seq b16_1 r16_2
def r16_0 : EC := EC.seq b16_0 r16_1
def e16 : EFun := EFun.mk 15 [ERes.c 2 2, ERes.t 3] r16_0
theorem c16 : cFun Tryd.prog 1 (fun _ => false) Tryd.f16 = some e16 := by kernel_rfl
theorem x16 : Tryd.prog.funcs[16]? = some Tryd.f16 := by kernel_rfl
theorem n16 : (Tryd.f16.name == "runtime.NumGoroutine") = false := by kernel_rfl
/-! 17: reach.In -/
def b17_0 : EC := EC.ops false [EOper.mk (some 2) (EOp.box true 41 (Opd.t 0)) none, EOper.mk (some 3) (EOp.box true 41 (Opd.t 1)) none, EOper.mk (some 4) (EOp.mv (Opd.c
  (V.bool false))) none]
def b17_1 : EC := EC.ops false [EOper.mk (some 5) (EOp.ld true 2 (Opd.t 2)) none, EOper.mk (some 6) (EOp.ld true 2 (Opd.t 3)) none, EOper.mk (some 7) (EOp.call (Opd.f 35)
  [Opd.t 5, Opd.t 6, Opd.f 36]) none, EOper.mk (some 4) (EOp.mv (Opd.t 7)) none]
def b17_2 : EC := EC.ret
def r17_2 : EC := b17_2
def r17_1 : EC := EC.seq b17_1 r17_2
def r17_0 : EC := EC.seq b17_0 r17_1
def e17 : EFun := EFun.mk 8 [ERes.t 4] r17_0
theorem c17 : cFun Tryd.prog 1 (fun _ => false) Tryd.f17 = some e17 := by kernel_rfl
theorem x17 : Tryd.prog.funcs[17]? = some Tryd.f17 := by kernel_rfl
theorem n17 : (Tryd.f17.name == "runtime.NumGoroutine") = false := by kernel_rfl
/-! 18: window.At -/
def b18_0 : EC := EC.ops false [EOper.mk (some 3) (EOp.box false 24 (Opd.t 1)) none, EOper.mk (some 4) (EOp.mv (Opd.c (V.int .i64 (0)))) none, EOper.mk (some 5) (EOp.mv
  (Opd.c (V.bool false))) none]
def b18_1 : EC := EC.ops false [EOper.mk (some 6) (EOp.mv (Opd.t 0)) none, EOper.mk (some 7) (EOp.mkfn 37 [] [Opd.t 3]) none, EOper.mk (some 8) (EOp.call (Opd.f 31) [Opd.t
  6, Opd.t 7]) none, EOper.mk (some 9) (EOp.ext (Opd.t 8) 0) none, EOper.mk (some 10) (EOp.ext (Opd.t 8) 1) none, EOper.mk (some 4) (EOp.mv (Opd.t 9)) none, EOper.mk (some
  5) (EOp.mv (Opd.t 10)) none]
def b18_2 : EC := EC.ret
def r18_2 : EC := b18_2
def r18_1 : EC := EC.seq b18_1 r18_2
def r18_0 : EC := EC.seq b18_0 r18_1
def e18 : EFun := EFun.mk 11 [ERes.t 4, ERes.t 5] r18_0
theorem c18 : cFun Tryd.prog 1 (fun d => d == 3) Tryd.f18 = some e18 := by kernel_rfl
theorem x18 : Tryd.prog.funcs[18]? = some Tryd.f18 := by kernel_rfl
theorem n18 : (Tryd.f18.name == "runtime.NumGoroutine") = false := by kernel_rfl
/-! 19: septumkit.Pick -/
def b19_0 : EC := EC.ops false [EOper.mk (some 4) (EOp.mv (Opd.c (V.int .i64 (0)))) none]
def b19_1 : EC := EC.seq (EC.ops false [EOper.mk (some 5) (EOp.mv (Opd.t 1)) none, EOper.mk (some 6) (EOp.bin .lss (Opd.t 5) (Opd.c (V.int .i64 (1)))) none]) (EC.cond
  (Opd.t 6) (EC.seq (EC.ops false [EOper.mk (some 4) (EOp.mv (Opd.c (V.int .i64 (0)))) none]) EC.ret) EC.skip)
def b19_2 : EC := EC.ops false [EOper.mk (some 7) (EOp.mv (Opd.t 0)) none, EOper.mk (some 8) (EOp.mv (Opd.t 1)) none, EOper.mk (some 9) (EOp.bin .rem (Opd.t 7) (Opd.t 8))
  none, EOper.mk (some 0) (EOp.mv (Opd.t 9)) none]
def b19_3 : EC := EC.seq (EC.ops false [EOper.mk (some 10) (EOp.mv (Opd.t 0)) none, EOper.mk (some 11) (EOp.bin .lss (Opd.t 10) (Opd.c (V.int .i64 (0)))) none]) (EC.cond
  (Opd.t 11) (EC.ops false [EOper.mk (some 12) (EOp.mv (Opd.t 0)) none, EOper.mk (some 13) (EOp.mv (Opd.t 1)) none, EOper.mk (some 14) (EOp.bin .add (Opd.t 12) (Opd.t 13))
  none, EOper.mk (some 0) (EOp.mv (Opd.t 14)) none]) EC.skip)
def b19_4 : EC := EC.ops false [EOper.mk (some 15) (EOp.mv (Opd.t 0)) none, EOper.mk (some 4) (EOp.mv (Opd.t 15)) none]
def b19_5 : EC := EC.ret
def r19_5 : EC := b19_5
def r19_4 : EC := EC.seq b19_4 r19_5
def r19_3 : EC := EC.seq b19_3 r19_4
def r19_2 : EC := EC.seq b19_2 r19_3
def r19_1 : EC := EC.seq b19_1 r19_2
def r19_0 : EC := EC.seq b19_0 r19_1
def e19 : EFun := EFun.mk 16 [ERes.t 4] r19_0
theorem c19 : cFun Tryd.prog 1 (fun _ => false) Tryd.f19 = some e19 := by kernel_rfl
theorem x19 : Tryd.prog.funcs[19]? = some Tryd.f19 := by kernel_rfl
theorem n19 : (Tryd.f19.name == "runtime.NumGoroutine") = false := by kernel_rfl
/-! 20: reach.Size -/
/-! 21: reach.Has -/
def b21_0 : EC := EC.ops false [EOper.mk (some 2) (EOp.box true 41 (Opd.t 0)) none, EOper.mk (some 4) (EOp.mv (Opd.c (V.bool false))) none]
def b21_1 : EC := EC.ops false [EOper.mk (some 5) (EOp.ld true 2 (Opd.t 2)) none, EOper.mk (some 6) (EOp.build [V.int .u32 (0), V.int .u32 (0)] [(0, 2, Opd.t 5)]) none,
  EOper.mk (some 7) (EOp.mv (Opd.t 1)) none, EOper.mk (some 8) (EOp.call (Opd.f 39) [Opd.t 6, Opd.t 7]) none, EOper.mk (some 4) (EOp.mv (Opd.t 8)) none]
def b21_2 : EC := EC.ret
def r21_2 : EC := b21_2
def r21_1 : EC := EC.seq b21_1 r21_2
def r21_0 : EC := EC.seq b21_0 r21_1
def e21 : EFun := EFun.mk 9 [ERes.t 4] r21_0
theorem c21 : cFun Tryd.prog 1 (fun _ => false) Tryd.f21 = some e21 := by kernel_rfl
theorem x21 : Tryd.prog.funcs[21]? = some Tryd.f21 := by kernel_rfl
theorem n21 : (Tryd.f21.name == "runtime.NumGoroutine") = false := by kernel_rfl
/-! 22: septumlaw08.example -/
def b22_0 : EC := EC.ops false [EOper.mk (some 0) (EOp.mv (Opd.c (V.sl none 0 0))) none]
def b22_1 : EC := EC.ops false [EOper.mk (some 1) (EOp.build [V.int .i64 (0), V.int .u32 (0), V.int .i64 (0), V.int .i64 (0), V.int .i64 (0)] [(0, 1, Opd.c (V.int .i64
  (1))), (1, 1, Opd.c (V.int .u32 (16))), (2, 1, Opd.c (V.int .i64 (8))), (3, 1, Opd.c (V.int .i64 (-1))), (4, 1, Opd.c (V.int .i64 (-1)))]) none, EOper.mk (some 2)
  (EOp.build [V.int .i64 (0), V.int .u32 (0), V.int .i64 (0), V.int .i64 (0), V.int .i64 (0)] [(0, 1, Opd.c (V.int .i64 (2))), (1, 1, Opd.c (V.int .u32 (24))), (2, 1,
  Opd.c (V.int .i64 (32))), (4, 1, Opd.c (V.int .i64 (3)))]) none, EOper.mk (some 3) (EOp.bslice 26 2 [V.int .i64 (0), V.int .u32 (0), V.int .i64 (0), V.int .i64 (0),
  V.int .i64 (0), V.int .i64 (0), V.int .u32 (0), V.int .i64 (0), V.int .i64 (0), V.int .i64 (0)] [(0, 5, Opd.t 1), (5, 5, Opd.t 2)]) none, EOper.mk (some 0) (EOp.mv
  (Opd.t 3)) none]
def b22_2 : EC := EC.ret
def r22_2 : EC := b22_2
def r22_1 : EC := EC.seq b22_1 r22_2
def r22_0 : EC := EC.seq b22_0 r22_1
def e22 : EFun := EFun.mk 4 [ERes.t 0] r22_0
theorem c22 : cFun Tryd.prog 1 (fun _ => false) Tryd.f22 = some e22 := by kernel_rfl
theorem x22 : Tryd.prog.funcs[22]? = some Tryd.f22 := by kernel_rfl
theorem n22 : (Tryd.f22.name == "runtime.NumGoroutine") = false := by kernel_rfl
/-! 23: window.Device -/
def b23_0 : EC := EC.ops false [EOper.mk (some 1) (EOp.box true 26 (Opd.t 0)) none, EOper.mk (some 2) (EOp.mv (Opd.c (V.bool false))) none]
def b23_1 : EC := EC.ops false [EOper.mk (some 3) (EOp.ld true 5 (Opd.t 1)) none, EOper.mk (some 4) (EOp.build [V.int .i64 (0), V.int .u32 (0), V.int .i64 (0), V.int .i64
  (0), V.int .i64 (0)] [(0, 5, Opd.t 3)]) none, EOper.mk (some 5) (EOp.call (Opd.f 40) [Opd.t 4]) none, EOper.mk (some 2) (EOp.mv (Opd.t 5)) none]
def b23_2 : EC := EC.ret
def r23_2 : EC := b23_2
def r23_1 : EC := EC.seq b23_1 r23_2
def r23_0 : EC := EC.seq b23_0 r23_1
def e23 : EFun := EFun.mk 6 [ERes.t 2] r23_0
theorem c23 : cFun Tryd.prog 1 (fun _ => false) Tryd.f23 = some e23 := by kernel_rfl
theorem x23 : Tryd.prog.funcs[23]? = some Tryd.f23 := by kernel_rfl
theorem n23 : (Tryd.f23.name == "runtime.NumGoroutine") = false := by kernel_rfl
/-! 24: septumkit.markDevice -/
def b24_0 : EC := EC.ops false [EOper.mk (some 4) (EOp.alloc true 26 [V.int .i64 (0), V.int .u32 (0), V.int .i64 (0), V.int .i64 (0), V.int .i64 (0)]) none]
def b24_1 : EC := EC.ops false [EOper.mk (some 5) (EOp.mv (Opd.t 0)) none, EOper.mk (some 6) (EOp.mv (Opd.t 1)) none, EOper.mk (some 7) (EOp.call (Opd.f 41) [Opd.t 5,
  Opd.t 6]) none, EOper.mk (some 8) (EOp.build [V.int .i64 (0), V.int .u32 (0), V.int .i64 (0), V.int .i64 (0), V.int .i64 (0)] [(2, 1, Opd.t 7)]) none, EOper.mk none
  (EOp.st 5 (Opd.t 4) (Opd.t 8)) none]
def b24_2 : EC := EC.ret
def r24_2 : EC := b24_2
def r24_1 : EC := EC.seq b24_1 r24_2
def r24_0 : EC := EC.seq b24_0 r24_1
def e24 : EFun := EFun.mk 9 [ERes.c 4 5] r24_0
theorem c24 : cFun Tryd.prog 1 (fun _ => false) Tryd.f24 = some e24 := by kernel_rfl
theorem x24 : Tryd.prog.funcs[24]? = some Tryd.f24 := by kernel_rfl
theorem n24 : (Tryd.f24.name == "runtime.NumGoroutine") = false := by kernel_rfl
/-! 25: septumref08.Reach -/
def b25_0 : EC := EC.ops false [EOper.mk (some 1) (EOp.box true 26 (Opd.t 0)) none, EOper.mk (some 2) (EOp.alloc true 41 [V.int .u32 (0), V.int .u32 (0)]) none, EOper.mk
  (some 3) (EOp.mv (Opd.c (V.bool false))) none]
def b25_1 : EC := EC.seq (EC.ops false [EOper.mk (some 4) (EOp.ld true 5 (Opd.t 1)) none, EOper.mk (some 5) (EOp.call (Opd.f 26) [Opd.t 4]) none, EOper.mk (some 6) (EOp.un
  .not (Opd.t 5)) none]) (EC.cond (Opd.t 6) (EC.seq (EC.ops false [EOper.mk (some 7) (EOp.build [V.int .u32 (0), V.int .u32 (0)] []) none, EOper.mk none (EOp.st 2 (Opd.t
  2) (Opd.t 7)) none, EOper.mk (some 3) (EOp.mv (Opd.c (V.bool false))) none]) EC.ret) EC.skip)
def b25_2 : EC := EC.ops false [EOper.mk (some 8) (EOp.fa 1 (Opd.t 1)) none, EOper.mk (some 9) (EOp.ld false 1 (Opd.t 8)) none, EOper.mk (some 10) (EOp.fa 2 (Opd.t 1))
  none, EOper.mk (some 11) (EOp.ld false 1 (Opd.t 10)) none, EOper.mk (some 12) (EOp.call (Opd.f 42) [Opd.t 9, Opd.t 11]) none, EOper.mk (some 13) (EOp.ext (Opd.t 12) 0)
  none, EOper.mk (some 14) (EOp.ext (Opd.t 12) 1) none, EOper.mk none (EOp.st 2 (Opd.t 2) (Opd.t 13)) none, EOper.mk (some 3) (EOp.mv (Opd.t 14)) none]
def b25_3 : EC := EC.ret
def r25_3 : EC := b25_3
def r25_2 : EC := EC.seq b25_2 r25_3
def r25_1 : EC := EC.seq b25_1 r25_2
def r25_0 : EC := EC.seq b25_0 r25_1
def e25 : EFun := EFun.mk 15 [ERes.c 2 2, ERes.t 3] r25_0
theorem c25 : cFun Tryd.prog 1 (fun _ => false) Tryd.f25 = some e25 := by kernel_rfl
theorem x25 : Tryd.prog.funcs[25]? = some Tryd.f25 := by kernel_rfl
theorem n25 : (Tryd.f25.name == "runtime.NumGoroutine") = false := by kernel_rfl
/-! 26: septumref08.Device -/
def b26_0 : EC := EC.ops false [EOper.mk (some 1) (EOp.box true 26 (Opd.t 0)) none, EOper.mk (some 2) (EOp.mv (Opd.c (V.bool false))) none]
def b26_1 : EC := EC.ops false [EOper.mk (some 5) (EOp.fa 0 (Opd.t 1)) none, EOper.mk (some 6) (EOp.ld false 1 (Opd.t 5)) none, EOper.mk (some 3) (EOp.mv (Opd.t 6)) none]
def b26_2 : EC := EC.ops false [EOper.mk (some 7) (EOp.fa 2 (Opd.t 1)) none, EOper.mk (some 8) (EOp.ld false 1 (Opd.t 7)) none, EOper.mk (some 9) (EOp.bin .eql (Opd.t 8)
  (Opd.c (V.int .i64 (32)))) none, EOper.mk (some 4) (EOp.mv (Opd.t 9)) none]
def b26_3 : EC := EC.seq (EC.ops false [EOper.mk (some 10) (EOp.mv (Opd.t 3)) none, EOper.mk (some 11) (EOp.bin .eql (Opd.t 10) (Opd.c (V.int .i64 (1)))) none]) (EC.cond
  (Opd.t 11) (EC.ops false [EOper.mk (some 12) (EOp.fa 2 (Opd.t 1)) none, EOper.mk (some 13) (EOp.ld false 1 (Opd.t 12)) none, EOper.mk (some 14) (EOp.bin .geq (Opd.t 13)
  (Opd.c (V.int .i64 (4)))) none, EOper.mk (some 15) (EOp.mv (Opd.t 14)) none, EOper.mk (some 16) (EOp.fa 2 (Opd.t 1)) (some (15, true)), EOper.mk (some 17) (EOp.ld false
  1 (Opd.t 16)) (some (15, true)), EOper.mk (some 18) (EOp.bin .leq (Opd.t 17) (Opd.c (V.int .i64 (4096)))) (some (15, true)), EOper.mk (some 19) (EOp.pick (Opd.t 15)
  (Opd.t 18) (Opd.c (V.bool false))) none, EOper.mk (some 20) (EOp.mv (Opd.t 19)) none, EOper.mk (some 21) (EOp.fa 2 (Opd.t 1)) (some (20, true)), EOper.mk (some 22)
  (EOp.ld false 1 (Opd.t 21)) (some (20, true)), EOper.mk (some 23) (EOp.bin .rem (Opd.t 22) (Opd.c (V.int .i64 (4)))) (some (20, true)), EOper.mk (some 24) (EOp.bin .eql
  (Opd.t 23) (Opd.c (V.int .i64 (0)))) (some (20, true)), EOper.mk (some 25) (EOp.pick (Opd.t 20) (Opd.t 24) (Opd.c (V.bool false))) none, EOper.mk (some 4) (EOp.mv (Opd.t
  25)) none]) EC.skip)
def b26_4 : EC := EC.ops false [EOper.mk (some 26) (EOp.mv (Opd.t 3)) none, EOper.mk (some 27) (EOp.bin .geq (Opd.t 26) (Opd.c (V.int .i64 (1)))) none, EOper.mk (some 28)
  (EOp.mv (Opd.t 27)) none, EOper.mk (some 29) (EOp.mv (Opd.t 3)) (some (28, true)), EOper.mk (some 30) (EOp.bin .leq (Opd.t 29) (Opd.c (V.int .i64 (6)))) (some (28,
  true)), EOper.mk (some 31) (EOp.pick (Opd.t 28) (Opd.t 30) (Opd.c (V.bool false))) none, EOper.mk (some 32) (EOp.mv (Opd.t 31)) none, EOper.mk (some 33) (EOp.mv (Opd.t
  4)) (some (32, true)), EOper.mk (some 34) (EOp.pick (Opd.t 32) (Opd.t 33) (Opd.c (V.bool false))) none, EOper.mk (some 35) (EOp.mv (Opd.t 34)) none, EOper.mk (some 36)
  (EOp.fa 1 (Opd.t 1)) (some (35, true)), EOper.mk (some 37) (EOp.ld false 1 (Opd.t 36)) (some (35, true)), EOper.mk (some 38) (EOp.bin .rem (Opd.t 37) (Opd.c (V.int .u32
  (4)))) (some (35, true)), EOper.mk (some 39) (EOp.bin .eql (Opd.t 38) (Opd.c (V.int .u32 (0)))) (some (35, true)), EOper.mk (some 40) (EOp.pick (Opd.t 35) (Opd.t 39)
  (Opd.c (V.bool false))) none, EOper.mk (some 41) (EOp.mv (Opd.t 40)) none, EOper.mk (some 42) (EOp.fa 1 (Opd.t 1)) (some (41, true)), EOper.mk (some 43) (EOp.ld false 1
  (Opd.t 42)) (some (41, true)), EOper.mk (some 44) (EOp.conv .i64 (Opd.t 43)) (some (41, true)), EOper.mk (some 45) (EOp.fa 2 (Opd.t 1)) (some (41, true)), EOper.mk (some
  46) (EOp.ld false 1 (Opd.t 45)) (some (41, true)), EOper.mk (some 47) (EOp.bin .add (Opd.t 44) (Opd.t 46)) (some (41, true)), EOper.mk (some 48) (EOp.bin .leq (Opd.t 47)
  (Opd.c (V.int .i64 (4294967296)))) (some (41, true)), EOper.mk (some 49) (EOp.pick (Opd.t 41) (Opd.t 48) (Opd.c (V.bool false))) none, EOper.mk (some 50) (EOp.mv (Opd.t
  49)) none, EOper.mk (some 51) (EOp.fa 3 (Opd.t 1)) (some (50, true)), EOper.mk (some 52) (EOp.ld false 1 (Opd.t 51)) (some (50, true)), EOper.mk (some 53) (EOp.bin .geq
  (Opd.t 52) (Opd.c (V.int .i64 (-1)))) (some (50, true)), EOper.mk (some 54) (EOp.pick (Opd.t 50) (Opd.t 53) (Opd.c (V.bool false))) none, EOper.mk (some 55) (EOp.mv
  (Opd.t 54)) none, EOper.mk (some 56) (EOp.fa 3 (Opd.t 1)) (some (55, true)), EOper.mk (some 57) (EOp.ld false 1 (Opd.t 56)) (some (55, true)), EOper.mk (some 58)
  (EOp.bin .lss (Opd.t 57) (Opd.c (V.int .i64 (8)))) (some (55, true)), EOper.mk (some 59) (EOp.pick (Opd.t 55) (Opd.t 58) (Opd.c (V.bool false))) none, EOper.mk (some 60)
  (EOp.mv (Opd.t 59)) none, EOper.mk (some 61) (EOp.fa 4 (Opd.t 1)) (some (60, true)), EOper.mk (some 62) (EOp.ld false 1 (Opd.t 61)) (some (60, true)), EOper.mk (some 63)
  (EOp.bin .geq (Opd.t 62) (Opd.c (V.int .i64 (-1)))) (some (60, true)), EOper.mk (some 64) (EOp.pick (Opd.t 60) (Opd.t 63) (Opd.c (V.bool false))) none, EOper.mk (some
  65) (EOp.mv (Opd.t 64)) none, EOper.mk (some 66) (EOp.fa 4 (Opd.t 1)) (some (65, true)), EOper.mk (some 67) (EOp.ld false 1 (Opd.t 66)) (some (65, true)), EOper.mk (some
  68) (EOp.bin .lss (Opd.t 67) (Opd.c (V.int .i64 (8)))) (some (65, true)), EOper.mk (some 69) (EOp.pick (Opd.t 65) (Opd.t 68) (Opd.c (V.bool false))) none, EOper.mk (some
  2) (EOp.mv (Opd.t 69)) none]
def b26_5 : EC := EC.ret
def r26_5 : EC := b26_5
def r26_4 : EC := EC.seq b26_4 r26_5
def r26_3 : EC := EC.seq b26_3 r26_4
def r26_2 : EC := EC.seq b26_2 r26_3
def r26_1 : EC := EC.seq b26_1 r26_2
def r26_0 : EC := EC.seq b26_0 r26_1
def e26 : EFun := EFun.mk 70 [ERes.t 2] r26_0
theorem c26 : cFun Tryd.prog 1 (fun _ => false) Tryd.f26 = some e26 := by kernel_rfl
theorem x26 : Tryd.prog.funcs[26]? = some Tryd.f26 := by kernel_rfl
theorem n26 : (Tryd.f26.name == "runtime.NumGoroutine") = false := by kernel_rfl
/-! 27: septumref08.Decode -/
def l27_0p0 : EC := EC.seq (EC.ops false [EOper.mk (some 17) (EOp.mv (Opd.t 9)) none, EOper.mk (some 18) (EOp.mv (Opd.t 0)) none, EOper.mk (some 19) (EOp.len false (Opd.t
  18)) none, EOper.mk (some 20) (EOp.bin .lss (Opd.t 17) (Opd.t 19)) none, EOper.mk (some 21) (EOp.mv (Opd.t 20)) none, EOper.mk (some 22) (EOp.mv (Opd.t 8)) (some (21,
  true)), EOper.mk (some 23) (EOp.pick (Opd.t 21) (Opd.t 22) (Opd.c (V.bool false))) none, EOper.mk (some 24) (EOp.mv (Opd.t 23)) none, EOper.mk (some 25) (EOp.mv (Opd.t
  0)) (some (24, true)), EOper.mk (some 26) (EOp.call (Opd.f 29) [Opd.t 25]) (some (24, true)), EOper.mk (some 27) (EOp.pick (Opd.t 24) (Opd.t 26) (Opd.c (V.bool false)))
  none]) (EC.cond (Opd.t 27) EC.skip (EC.exit 0))
def l27_0p1 : EC := EC.block 1 (EC.seq (EC.ops false [EOper.mk (some 31) (EOp.mv (Opd.t 0)) none, EOper.mk (some 32) (EOp.mv (Opd.t 9)) none, EOper.mk (some 33) (EOp.ixs 5
  (Opd.t 31) (Opd.t 32)) none, EOper.mk (some 34) (EOp.ld true 5 (Opd.t 33)) none, EOper.mk (some 35) (EOp.call (Opd.f 25) [Opd.t 34]) none, EOper.mk (some 30) (EOp.mv
  (Opd.t 35)) none, EOper.mk (some 36) (EOp.ext (Opd.t 30) 0) none, EOper.mk (some 37) (EOp.ext (Opd.t 30) 1) none, EOper.mk (some 10) (EOp.alloc true 41 [V.int .u32 (0),
  V.int .u32 (0)]) none, EOper.mk none (EOp.st 2 (Opd.t 10) (Opd.t 36)) none, EOper.mk (some 11) (EOp.mv (Opd.t 37)) none]) (EC.seq (EC.ops false [EOper.mk (some 38)
  (EOp.ld true 2 (Opd.t 7)) none, EOper.mk (some 39) (EOp.ld true 2 (Opd.t 10)) none, EOper.mk (some 40) (EOp.call (Opd.f 44) [Opd.t 38, Opd.t 39]) none]) (EC.cond (Opd.t
  40) (EC.seq (EC.ops true [EOper.mk (some 41) (EOp.mv (Opd.t 9)) none, EOper.mk (some 42) (EOp.fa 2 (Opd.t 3)) none, EOper.mk (some 43) (EOp.ld false 1 (Opd.t 42)) none,
  EOper.mk (some 44) (EOp.conv .i64 (Opd.t 43)) none, EOper.mk (some 45) (EOp.mv (Opd.t 0)) none, EOper.mk (some 46) (EOp.mv (Opd.t 9)) none, EOper.mk (some 47) (EOp.ixs 5
  (Opd.t 45) (Opd.t 46)) none, EOper.mk (some 48) (EOp.fa 1 (Opd.t 47)) none, EOper.mk (some 49) (EOp.ld false 1 (Opd.t 48)) none, EOper.mk (some 50) (EOp.conv .i64 (Opd.t
  49)) none, EOper.mk (some 51) (EOp.bin .sub (Opd.t 44) (Opd.t 50)) none, EOper.mk (some 4) (EOp.mv (Opd.t 41)) none, EOper.mk (some 5) (EOp.mv (Opd.t 51)) none, EOper.mk
  (some 6) (EOp.mv (Opd.c (V.bool true))) none]) EC.ret) EC.skip)))
def l27_0p2 : EC := EC.ops false [EOper.mk (some 28) (EOp.mv (Opd.t 9)) none, EOper.mk (some 29) (EOp.bin .add (Opd.t 28) (Opd.c (V.int .i64 (1)))) none, EOper.mk (some 9)
  (EOp.mv (Opd.t 29)) none]
def l27_0r2 : EC := l27_0p2
def l27_0r1 : EC := EC.seq l27_0p1 l27_0r2
def l27_0r0 : EC := EC.seq l27_0p0 l27_0r1
def l27_0 : EC := l27_0r0
def b27_0 : EC := EC.ops false [EOper.mk (some 3) (EOp.box true 28 (Opd.t 1)) none, EOper.mk (some 4) (EOp.mv (Opd.c (V.int .i64 (0)))) none, EOper.mk (some 5) (EOp.mv
  (Opd.c (V.int .i64 (0)))) none, EOper.mk (some 6) (EOp.mv (Opd.c (V.bool false))) none]
def b27_1 : EC := EC.ops false [EOper.mk (some 13) (EOp.ld true 5 (Opd.t 3)) none, EOper.mk (some 14) (EOp.call (Opd.f 43) [Opd.t 13]) none, EOper.mk (some 12) (EOp.mv
  (Opd.t 14)) none, EOper.mk (some 15) (EOp.ext (Opd.t 12) 0) none, EOper.mk (some 16) (EOp.ext (Opd.t 12) 1) none, EOper.mk (some 7) (EOp.alloc true 41 [V.int .u32 (0),
  V.int .u32 (0)]) none, EOper.mk none (EOp.st 2 (Opd.t 7) (Opd.t 15)) none, EOper.mk (some 8) (EOp.mv (Opd.t 16)) none]
def b27_2 : EC := EC.seq (EC.ops false [EOper.mk (some 9) (EOp.mv (Opd.c (V.int .i64 (0)))) none]) (EC.block 0 (EC.loop l27_0))
def b27_3 : EC := EC.ops false [EOper.mk (some 4) (EOp.mv (Opd.c (V.int .i64 (0)))) none, EOper.mk (some 5) (EOp.mv (Opd.c (V.int .i64 (0)))) none, EOper.mk (some 6)
  (EOp.mv (Opd.c (V.bool false))) none]
def b27_4 : EC := EC.ret
def r27_4 : EC := b27_4
def r27_3 : EC := EC.seq b27_3 r27_4
def r27_2 : EC := EC.seq b27_2 r27_3
def r27_1 : EC := EC.seq b27_1 r27_2
def r27_0 : EC := EC.seq b27_0 r27_1
def e27 : EFun := EFun.mk 52 [ERes.t 4, ERes.t 5, ERes.t 6] r27_0
theorem c27 : cFun Tryd.prog 1 (fun _ => false) Tryd.f27 = some e27 := by kernel_rfl
theorem x27 : Tryd.prog.funcs[27]? = some Tryd.f27 := by kernel_rfl
theorem n27 : (Tryd.f27.name == "runtime.NumGoroutine") = false := by kernel_rfl
/-! 28: septumref08.At -/
def l28_0p0 : EC := EC.seq (EC.ops false [EOper.mk (some 9) (EOp.mv (Opd.t 6)) none, EOper.mk (some 10) (EOp.mv (Opd.t 0)) none, EOper.mk (some 11) (EOp.len false (Opd.t
  10)) none, EOper.mk (some 12) (EOp.bin .lss (Opd.t 9) (Opd.t 11)) none, EOper.mk (some 13) (EOp.mv (Opd.t 12)) none, EOper.mk (some 14) (EOp.mv (Opd.t 0)) (some (13,
  true)), EOper.mk (some 15) (EOp.call (Opd.f 29) [Opd.t 14]) (some (13, true)), EOper.mk (some 16) (EOp.pick (Opd.t 13) (Opd.t 15) (Opd.c (V.bool false))) none]) (EC.cond
  (Opd.t 16) EC.skip (EC.exit 0))
def l28_0p1 : EC := EC.block 1 (EC.seq (EC.ops false [EOper.mk (some 20) (EOp.mv (Opd.t 0)) none, EOper.mk (some 21) (EOp.mv (Opd.t 6)) none, EOper.mk (some 22) (EOp.ixs 5
  (Opd.t 20) (Opd.t 21)) none, EOper.mk (some 23) (EOp.ld true 5 (Opd.t 22)) none, EOper.mk (some 24) (EOp.call (Opd.f 25) [Opd.t 23]) none, EOper.mk (some 19) (EOp.mv
  (Opd.t 24)) none, EOper.mk (some 25) (EOp.ext (Opd.t 19) 0) none, EOper.mk (some 26) (EOp.ext (Opd.t 19) 1) none, EOper.mk (some 7) (EOp.alloc true 41 [V.int .u32 (0),
  V.int .u32 (0)]) none, EOper.mk none (EOp.st 2 (Opd.t 7) (Opd.t 25)) none, EOper.mk (some 8) (EOp.mv (Opd.t 26)) none]) (EC.seq (EC.ops false [EOper.mk (some 27) (EOp.ld
  true 2 (Opd.t 7)) none, EOper.mk (some 28) (EOp.mv (Opd.t 1)) none, EOper.mk (some 29) (EOp.call (Opd.f 45) [Opd.t 27, Opd.t 28]) none]) (EC.cond (Opd.t 29) (EC.seq
  (EC.ops false [EOper.mk (some 30) (EOp.mv (Opd.t 6)) none, EOper.mk (some 4) (EOp.mv (Opd.t 30)) none, EOper.mk (some 5) (EOp.mv (Opd.c (V.bool true))) none]) EC.ret)
  EC.skip)))
def l28_0p2 : EC := EC.ops false [EOper.mk (some 17) (EOp.mv (Opd.t 6)) none, EOper.mk (some 18) (EOp.bin .add (Opd.t 17) (Opd.c (V.int .i64 (1)))) none, EOper.mk (some 6)
  (EOp.mv (Opd.t 18)) none]
def l28_0r2 : EC := l28_0p2
def l28_0r1 : EC := EC.seq l28_0p1 l28_0r2
def l28_0r0 : EC := EC.seq l28_0p0 l28_0r1
def l28_0 : EC := l28_0r0
def b28_0 : EC := EC.ops false [EOper.mk (some 4) (EOp.mv (Opd.c (V.int .i64 (0)))) none, EOper.mk (some 5) (EOp.mv (Opd.c (V.bool false))) none]
def b28_1 : EC := EC.seq (EC.ops false [EOper.mk (some 6) (EOp.mv (Opd.c (V.int .i64 (0)))) none]) (EC.block 0 (EC.loop l28_0))
def b28_2 : EC := EC.ops false [EOper.mk (some 4) (EOp.mv (Opd.c (V.int .i64 (0)))) none, EOper.mk (some 5) (EOp.mv (Opd.c (V.bool false))) none]
def b28_3 : EC := EC.ret
def r28_3 : EC := b28_3
def r28_2 : EC := EC.seq b28_2 r28_3
def r28_1 : EC := EC.seq b28_1 r28_2
def r28_0 : EC := EC.seq b28_0 r28_1
def e28 : EFun := EFun.mk 31 [ERes.t 4, ERes.t 5] r28_0
theorem c28 : cFun Tryd.prog 1 (fun _ => false) Tryd.f28 = some e28 := by kernel_rfl
theorem x28 : Tryd.prog.funcs[28]? = some Tryd.f28 := by kernel_rfl
theorem n28 : (Tryd.f28.name == "runtime.NumGoroutine") = false := by kernel_rfl
/-! 29: septumref08.Right -/
def l29_1p0 : EC := EC.seq (EC.ops false [EOper.mk (some 30) (EOp.mv (Opd.t 6)) none, EOper.mk (some 31) (EOp.mv (Opd.t 3)) none, EOper.mk (some 32) (EOp.bin .lss (Opd.t
  30) (Opd.t 31)) none]) (EC.cond (Opd.t 32) EC.skip (EC.exit 2))
def l29_1p1 : EC := EC.block 3 (EC.seq (EC.ops false [EOper.mk (some 36) (EOp.mv (Opd.t 0)) none, EOper.mk (some 37) (EOp.mv (Opd.t 6)) none, EOper.mk (some 38) (EOp.ixs 5
  (Opd.t 36) (Opd.t 37)) none, EOper.mk (some 39) (EOp.ld true 5 (Opd.t 38)) none, EOper.mk (some 40) (EOp.call (Opd.f 25) [Opd.t 39]) none, EOper.mk (some 35) (EOp.mv
  (Opd.t 40)) none, EOper.mk (some 41) (EOp.ext (Opd.t 35) 0) none, EOper.mk (some 42) (EOp.ext (Opd.t 35) 1) none, EOper.mk (some 7) (EOp.alloc true 41 [V.int .u32 (0),
  V.int .u32 (0)]) none, EOper.mk none (EOp.st 2 (Opd.t 7) (Opd.t 41)) none, EOper.mk (some 8) (EOp.mv (Opd.t 42)) none]) (EC.seq (EC.ops false [EOper.mk (some 44) (EOp.ld
  true 2 (Opd.t 4)) none, EOper.mk (some 45) (EOp.ld true 2 (Opd.t 7)) none, EOper.mk (some 46) (EOp.call (Opd.f 46) [Opd.t 44, Opd.t 45]) none, EOper.mk (some 43) (EOp.mv
  (Opd.t 46)) none, EOper.mk (some 47) (EOp.ext (Opd.t 43) 0) none, EOper.mk (some 48) (EOp.ext (Opd.t 43) 1) none, EOper.mk (some 9) (EOp.alloc true 41 [V.int .u32 (0),
  V.int .u32 (0)]) none, EOper.mk none (EOp.st 2 (Opd.t 9) (Opd.t 47)) none, EOper.mk (some 10) (EOp.mv (Opd.t 48)) none]) (EC.seq (EC.ops false [EOper.mk (some 49)
  (EOp.mv (Opd.t 10)) none]) (EC.cond (Opd.t 49) (EC.seq (EC.ops false [EOper.mk (some 2) (EOp.mv (Opd.c (V.bool false))) none]) EC.ret) EC.skip))))
def l29_1p2 : EC := EC.ops false [EOper.mk (some 33) (EOp.mv (Opd.t 6)) none, EOper.mk (some 34) (EOp.bin .add (Opd.t 33) (Opd.c (V.int .i64 (1)))) none, EOper.mk (some 6)
  (EOp.mv (Opd.t 34)) none]
def l29_1r2 : EC := l29_1p2
def l29_1r1 : EC := EC.seq l29_1p1 l29_1r2
def l29_1r0 : EC := EC.seq l29_1p0 l29_1r1
def l29_1 : EC := l29_1r0
def l29_0p0 : EC := EC.seq (EC.ops false [EOper.mk (some 14) (EOp.mv (Opd.t 3)) none, EOper.mk (some 15) (EOp.mv (Opd.t 0)) none, EOper.mk (some 16) (EOp.len false (Opd.t
  15)) none, EOper.mk (some 17) (EOp.bin .lss (Opd.t 14) (Opd.t 16)) none]) (EC.cond (Opd.t 17) EC.skip (EC.exit 0))
def l29_0p1 : EC := EC.block 1 (EC.seq (EC.ops false [EOper.mk (some 21) (EOp.mv (Opd.t 0)) none, EOper.mk (some 22) (EOp.mv (Opd.t 3)) none, EOper.mk (some 23) (EOp.ixs 5
  (Opd.t 21) (Opd.t 22)) none, EOper.mk (some 24) (EOp.ld true 5 (Opd.t 23)) none, EOper.mk (some 25) (EOp.call (Opd.f 25) [Opd.t 24]) none, EOper.mk (some 20) (EOp.mv
  (Opd.t 25)) none, EOper.mk (some 26) (EOp.ext (Opd.t 20) 0) none, EOper.mk (some 27) (EOp.ext (Opd.t 20) 1) none, EOper.mk (some 4) (EOp.alloc true 41 [V.int .u32 (0),
  V.int .u32 (0)]) none, EOper.mk none (EOp.st 2 (Opd.t 4) (Opd.t 26)) none, EOper.mk (some 5) (EOp.mv (Opd.t 27)) none]) (EC.seq (EC.seq (EC.ops false [EOper.mk (some 28)
  (EOp.mv (Opd.t 5)) none, EOper.mk (some 29) (EOp.un .not (Opd.t 28)) none]) (EC.cond (Opd.t 29) (EC.seq (EC.ops false [EOper.mk (some 2) (EOp.mv (Opd.c (V.bool false)))
  none]) EC.ret) EC.skip)) (EC.seq (EC.ops false [EOper.mk (some 6) (EOp.mv (Opd.c (V.int .i64 (0)))) none]) (EC.block 2 (EC.loop l29_1)))))
def l29_0p2 : EC := EC.ops false [EOper.mk (some 18) (EOp.mv (Opd.t 3)) none, EOper.mk (some 19) (EOp.bin .add (Opd.t 18) (Opd.c (V.int .i64 (1)))) none, EOper.mk (some 3)
  (EOp.mv (Opd.t 19)) none]
def l29_0r2 : EC := l29_0p2
def l29_0r1 : EC := EC.seq l29_0p1 l29_0r2
def l29_0r0 : EC := EC.seq l29_0p0 l29_0r1
def l29_0 : EC := l29_0r0
def b29_0 : EC := EC.ops false [EOper.mk (some 2) (EOp.mv (Opd.c (V.bool false))) none]
def b29_1 : EC := EC.seq (EC.ops false [EOper.mk (some 11) (EOp.mv (Opd.t 0)) none, EOper.mk (some 12) (EOp.len false (Opd.t 11)) none, EOper.mk (some 13) (EOp.bin .gtr
  (Opd.t 12) (Opd.c (V.int .i64 (16)))) none]) (EC.cond (Opd.t 13) (EC.seq (EC.ops false [EOper.mk (some 2) (EOp.mv (Opd.c (V.bool false))) none]) EC.ret) EC.skip)
def b29_2 : EC := EC.seq (EC.ops false [EOper.mk (some 3) (EOp.mv (Opd.c (V.int .i64 (0)))) none]) (EC.block 0 (EC.loop l29_0))
def b29_3 : EC := EC.ops false [EOper.mk (some 2) (EOp.mv (Opd.c (V.bool true))) none]
def b29_4 : EC := EC.ret
def r29_4 : EC := b29_4
def r29_3 : EC := EC.seq b29_3 r29_4
def r29_2 : EC := EC.seq b29_2 r29_3
def r29_1 : EC := EC.seq b29_1 r29_2
def r29_0 : EC := EC.seq b29_0 r29_1
def e29 : EFun := EFun.mk 50 [ERes.t 2] r29_0
theorem c29 : cFun Tryd.prog 1 (fun _ => false) Tryd.f29 = some e29 := by kernel_rfl
theorem x29 : Tryd.prog.funcs[29]? = some Tryd.f29 := by kernel_rfl
theorem n29 : (Tryd.f29.name == "runtime.NumGoroutine") = false := by kernel_rfl
/-! 30: window.windows -/
def l30_0p0 : EC := EC.ops false [EOper.mk (some 11) (EOp.bin .lss (Opd.t 10) (Opd.t 9)) none]
def l30_0p1 : EC := EC.cond (Opd.t 11) EC.skip (EC.exit 0)
def l30_0p2 : EC := EC.block 1 (EC.seq (EC.ops false [EOper.mk (some 12) (EOp.ixs 5 (Opd.t 8) (Opd.t 10)) none, EOper.mk (some 13) (EOp.ld true 5 (Opd.t 12)) none,
  EOper.mk (some 5) (EOp.alloc true 26 [V.int .i64 (0), V.int .u32 (0), V.int .i64 (0), V.int .i64 (0), V.int .i64 (0)]) none, EOper.mk none (EOp.st 5 (Opd.t 5) (Opd.t
  13)) none]) (EC.seq (EC.seq (EC.ops false [EOper.mk (some 14) (EOp.ld true 5 (Opd.t 5)) none, EOper.mk (some 15) (EOp.call (Opd.f 23) [Opd.t 14]) none, EOper.mk (some
  16) (EOp.un .not (Opd.t 15)) none]) (EC.cond (Opd.t 16) (EC.seq (EC.ops false [EOper.mk (some 2) (EOp.mv (Opd.c (V.sl none 0 0))) none, EOper.mk (some 3) (EOp.mv (Opd.c
  (V.bool false))) none]) EC.ret) EC.skip)) (EC.seq (EC.ops false [EOper.mk (some 18) (EOp.fa 1 (Opd.t 5)) none, EOper.mk (some 19) (EOp.ld false 1 (Opd.t 18)) none,
  EOper.mk (some 20) (EOp.fa 2 (Opd.t 5)) none, EOper.mk (some 21) (EOp.ld false 1 (Opd.t 20)) none, EOper.mk (some 22) (EOp.call (Opd.f 34) [Opd.t 19, Opd.t 21]) none,
  EOper.mk (some 17) (EOp.mv (Opd.t 22)) none, EOper.mk (some 23) (EOp.ext (Opd.t 17) 0) none, EOper.mk (some 24) (EOp.ext (Opd.t 17) 1) none, EOper.mk (some 6) (EOp.alloc
  true 41 [V.int .u32 (0), V.int .u32 (0)]) none, EOper.mk none (EOp.st 2 (Opd.t 6) (Opd.t 23)) none, EOper.mk (some 7) (EOp.mv (Opd.t 24)) none]) (EC.ops false [EOper.mk
  (some 25) (EOp.mv (Opd.t 2)) none, EOper.mk (some 26) (EOp.ld true 2 (Opd.t 6)) none, EOper.mk (some 27) (EOp.bslice 41 1 [V.int .u32 (0), V.int .u32 (0)] [(0, 2, Opd.t
  26)]) none, EOper.mk (some 28) (EOp.app 41 2 8 [V.int .u32 (0), V.int .u32 (0)] (Opd.t 25) (Opd.t 27)) none, EOper.mk (some 2) (EOp.mv (Opd.t 28)) none]))))
def l30_0p3 : EC := EC.ops false [EOper.mk (some 29) (EOp.bin .add (Opd.t 10) (Opd.c (V.int .i64 (1)))) none, EOper.mk (some 10) (EOp.mv (Opd.t 29)) none]
def l30_0r3 : EC := l30_0p3
def l30_0r2 : EC := EC.seq l30_0p2 l30_0r3
def l30_0r1 : EC := EC.seq l30_0p1 l30_0r2
def l30_0r0 : EC := EC.seq l30_0p0 l30_0r1
def l30_0 : EC := l30_0r0
def b30_0 : EC := EC.ops false [EOper.mk (some 2) (EOp.mv (Opd.c (V.sl none 0 0))) none, EOper.mk (some 3) (EOp.mv (Opd.c (V.bool false))) none]
def b30_1 : EC := EC.seq (EC.ops false [EOper.mk (some 8) (EOp.mv (Opd.t 0)) none, EOper.mk (some 9) (EOp.len false (Opd.t 8)) none, EOper.mk (some 10) (EOp.mv (Opd.c
  (V.int .i64 (0)))) none]) (EC.block 0 (EC.loop l30_0))
def b30_2 : EC := EC.ops false [EOper.mk (some 30) (EOp.mv (Opd.t 2)) none, EOper.mk (some 31) (EOp.mv (Opd.t 0)) none, EOper.mk (some 32) (EOp.len false (Opd.t 31)) none,
  EOper.mk (some 33) (EOp.bin .leq (Opd.t 32) (Opd.c (V.int .i64 (16)))) none, EOper.mk (some 34) (EOp.mv (Opd.t 33)) none, EOper.mk (some 35) (EOp.mv (Opd.t 2)) (some
  (34, true)), EOper.mk (some 36) (EOp.call (Opd.f 47) [Opd.t 35]) (some (34, true)), EOper.mk (some 37) (EOp.pick (Opd.t 34) (Opd.t 36) (Opd.c (V.bool false))) none,
  EOper.mk (some 2) (EOp.mv (Opd.t 30)) none, EOper.mk (some 3) (EOp.mv (Opd.t 37)) none]
def b30_3 : EC := EC.ret
def r30_3 : EC := b30_3
def r30_2 : EC := EC.seq b30_2 r30_3
def r30_1 : EC := EC.seq b30_1 r30_2
def r30_0 : EC := EC.seq b30_0 r30_1
def e30 : EFun := EFun.mk 38 [ERes.t 2, ERes.t 3] r30_0
theorem c30 : cFun Tryd.prog 1 (fun _ => false) Tryd.f30 = some e30 := by kernel_rfl
theorem x30 : Tryd.prog.funcs[30]? = some Tryd.f30 := by kernel_rfl
theorem n30 : (Tryd.f30.name == "runtime.NumGoroutine") = false := by kernel_rfl
/-! 31: window.find -/
def b31_0 : EC := EC.ops false [EOper.mk (some 4) (EOp.mv (Opd.c (V.int .i64 (0)))) none, EOper.mk (some 5) (EOp.mv (Opd.c (V.bool false))) none]
def b31_1 : EC := EC.ops false [EOper.mk (some 9) (EOp.mv (Opd.t 0)) none, EOper.mk (some 10) (EOp.call (Opd.f 30) [Opd.t 9]) none, EOper.mk (some 8) (EOp.mv (Opd.t 10))
  none, EOper.mk (some 11) (EOp.ext (Opd.t 8) 0) none, EOper.mk (some 12) (EOp.ext (Opd.t 8) 1) none, EOper.mk (some 6) (EOp.mv (Opd.t 11)) none, EOper.mk (some 7) (EOp.mv
  (Opd.t 12)) none]
def b31_2 : EC := EC.seq (EC.ops false [EOper.mk (some 13) (EOp.mv (Opd.t 7)) none, EOper.mk (some 14) (EOp.un .not (Opd.t 13)) none]) (EC.cond (Opd.t 14) (EC.seq (EC.ops
  false [EOper.mk (some 4) (EOp.mv (Opd.c (V.int .i64 (0)))) none, EOper.mk (some 5) (EOp.mv (Opd.c (V.bool false))) none]) EC.ret) EC.skip)
def b31_3 : EC := EC.ops false [EOper.mk (some 15) (EOp.mv (Opd.t 6)) none, EOper.mk (some 16) (EOp.mv (Opd.t 1)) none, EOper.mk (some 17) (EOp.call (Opd.f 48) [Opd.t 15,
  Opd.t 16]) none, EOper.mk (some 4) (EOp.mv (Opd.t 17)) none]
def b31_4 : EC := EC.ops false [EOper.mk (some 18) (EOp.mv (Opd.t 4)) none, EOper.mk (some 19) (EOp.mm true (Opd.t 18) (Opd.c (V.int .i64 (0)))) none, EOper.mk (some 20)
  (EOp.mv (Opd.t 4)) none, EOper.mk (some 21) (EOp.bin .geq (Opd.t 20) (Opd.c (V.int .i64 (0)))) none, EOper.mk (some 4) (EOp.mv (Opd.t 19)) none, EOper.mk (some 5)
  (EOp.mv (Opd.t 21)) none]
def b31_5 : EC := EC.ret
def r31_5 : EC := b31_5
def r31_4 : EC := EC.seq b31_4 r31_5
def r31_3 : EC := EC.seq b31_3 r31_4
def r31_2 : EC := EC.seq b31_2 r31_3
def r31_1 : EC := EC.seq b31_1 r31_2
def r31_0 : EC := EC.seq b31_0 r31_1
def e31 : EFun := EFun.mk 22 [ERes.t 4, ERes.t 5] r31_0
theorem c31 : cFun Tryd.prog 1 (fun _ => false) Tryd.f31 = some e31 := by kernel_rfl
theorem x31 : Tryd.prog.funcs[31]? = some Tryd.f31 := by kernel_rfl
theorem n31 : (Tryd.f31.name == "runtime.NumGoroutine") = false := by kernel_rfl
/-! 32: window.Decode$1 -/
def b32_0 : EC := EC.ops false [EOper.mk (some 2) (EOp.box true 41 (Opd.t 0)) none, EOper.mk (some 3) (EOp.mv (Opd.c (V.bool false))) none]
def b32_1 : EC := EC.ops false [EOper.mk (some 4) (EOp.ld true 2 (Opd.t 1)) none, EOper.mk (some 5) (EOp.ld true 2 (Opd.t 2)) none, EOper.mk (some 6) (EOp.call (Opd.f 17)
  [Opd.t 4, Opd.t 5]) none, EOper.mk (some 3) (EOp.mv (Opd.t 6)) none]
def b32_2 : EC := EC.ret
def r32_2 : EC := b32_2
def r32_1 : EC := EC.seq b32_1 r32_2
def r32_0 : EC := EC.seq b32_0 r32_1
def e32 : EFun := EFun.mk 7 [ERes.t 3] r32_0
theorem c32 : cFun Tryd.prog 1 (fun _ => false) Tryd.f32 = some e32 := by kernel_rfl
theorem x32 : Tryd.prog.funcs[32]? = some Tryd.f32 := by kernel_rfl
theorem n32 : (Tryd.f32.name == "runtime.NumGoroutine") = false := by kernel_rfl
/-! 33: access.Right -/
def b33_0 : EC := EC.ops false [EOper.mk (some 1) (EOp.box true 28 (Opd.t 0)) none, EOper.mk (some 2) (EOp.mv (Opd.c (V.bool false))) none]
def b33_1 : EC := EC.ops false [EOper.mk (some 3) (EOp.ld true 5 (Opd.t 1)) none, EOper.mk (some 4) (EOp.build [V.int .i64 (0), V.bool false, V.int .u32 (0), V.int .i64
  (0), V.int .u32 (0)] [(0, 5, Opd.t 3)]) none, EOper.mk (some 5) (EOp.call (Opd.f 49) [Opd.t 4]) none, EOper.mk (some 2) (EOp.mv (Opd.t 5)) none]
def b33_2 : EC := EC.ret
def r33_2 : EC := b33_2
def r33_1 : EC := EC.seq b33_1 r33_2
def r33_0 : EC := EC.seq b33_0 r33_1
def e33 : EFun := EFun.mk 6 [ERes.t 2] r33_0
theorem c33 : cFun Tryd.prog 1 (fun _ => false) Tryd.f33 = some e33 := by kernel_rfl
theorem x33 : Tryd.prog.funcs[33]? = some Tryd.f33 := by kernel_rfl
theorem n33 : (Tryd.f33.name == "runtime.NumGoroutine") = false := by kernel_rfl
/-! 34: reach.Of -/
def b34_0 : EC := EC.ops false [EOper.mk (some 4) (EOp.alloc true 41 [V.int .u32 (0), V.int .u32 (0)]) none, EOper.mk (some 5) (EOp.mv (Opd.c (V.bool false))) none]
def b34_1 : EC := EC.seq (EC.ops false [EOper.mk (some 6) (EOp.mv (Opd.t 1)) none, EOper.mk (some 7) (EOp.bin .lss (Opd.t 6) (Opd.c (V.int .i64 (1)))) none, EOper.mk (some
  8) (EOp.mv (Opd.t 7)) none, EOper.mk (some 9) (EOp.mv (Opd.t 1)) (some (8, false)), EOper.mk (some 10) (EOp.bin .sub (Opd.t 9) (Opd.c (V.int .i64 (1)))) (some (8,
  false)), EOper.mk (some 11) (EOp.mv (Opd.t 0)) (some (8, false)), EOper.mk (some 12) (EOp.un .xor (Opd.t 11)) (some (8, false)), EOper.mk (some 13) (EOp.conv .i64 (Opd.t
  12)) (some (8, false)), EOper.mk (some 14) (EOp.bin .gtr (Opd.t 10) (Opd.t 13)) (some (8, false)), EOper.mk (some 15) (EOp.pick (Opd.t 8) (Opd.c (V.bool true)) (Opd.t
  14)) none]) (EC.cond (Opd.t 15) (EC.seq (EC.ops false [EOper.mk (some 16) (EOp.build [V.int .u32 (0), V.int .u32 (0)] []) none, EOper.mk none (EOp.st 2 (Opd.t 4) (Opd.t
  16)) none, EOper.mk (some 5) (EOp.mv (Opd.c (V.bool false))) none]) EC.ret) EC.skip)
def b34_2 : EC := EC.ops false [EOper.mk (some 17) (EOp.mv (Opd.t 0)) none, EOper.mk (some 18) (EOp.mv (Opd.t 0)) none, EOper.mk (some 19) (EOp.mv (Opd.t 1)) none,
  EOper.mk (some 20) (EOp.bin .sub (Opd.t 19) (Opd.c (V.int .i64 (1)))) none, EOper.mk (some 21) (EOp.conv .u32 (Opd.t 20)) none, EOper.mk (some 22) (EOp.bin .add (Opd.t
  18) (Opd.t 21)) none, EOper.mk (some 23) (EOp.build [V.int .u32 (0), V.int .u32 (0)] [(0, 1, Opd.t 17), (1, 1, Opd.t 22)]) none, EOper.mk none (EOp.st 2 (Opd.t 4) (Opd.t
  23)) none, EOper.mk (some 5) (EOp.mv (Opd.c (V.bool true))) none]
def b34_3 : EC := EC.ret
def r34_3 : EC := b34_3
def r34_2 : EC := EC.seq b34_2 r34_3
def r34_1 : EC := EC.seq b34_1 r34_2
def r34_0 : EC := EC.seq b34_0 r34_1
def e34 : EFun := EFun.mk 24 [ERes.c 4 2, ERes.t 5] r34_0
theorem c34 : cFun Tryd.prog 1 (fun _ => false) Tryd.f34 = some e34 := by kernel_rfl
theorem x34 : Tryd.prog.funcs[34]? = some Tryd.f34 := by kernel_rfl
theorem n34 : (Tryd.f34.name == "runtime.NumGoroutine") = false := by kernel_rfl
/-! 35: reach.two -/
def b35_0 : EC := EC.ops false [EOper.mk (some 3) (EOp.box true 41 (Opd.t 0)) none, EOper.mk (some 4) (EOp.box true 41 (Opd.t 1)) none, EOper.mk (some 6) (EOp.mv (Opd.c
  (V.bool false))) none]
def b35_1 : EC := EC.ops false [EOper.mk (some 7) (EOp.mv (Opd.t 2)) none, EOper.mk (some 8) (EOp.ld true 2 (Opd.t 3)) none, EOper.mk (some 9) (EOp.build [V.int .u32 (0),
  V.int .u32 (0)] [(0, 2, Opd.t 8)]) none, EOper.mk (some 10) (EOp.ld true 2 (Opd.t 4)) none, EOper.mk (some 11) (EOp.build [V.int .u32 (0), V.int .u32 (0)] [(0, 2, Opd.t
  10)]) none, EOper.mk (some 12) (EOp.call (Opd.t 7) [Opd.t 9, Opd.t 11]) none, EOper.mk (some 6) (EOp.mv (Opd.t 12)) none]
def b35_2 : EC := EC.ret
def r35_2 : EC := b35_2
def r35_1 : EC := EC.seq b35_1 r35_2
def r35_0 : EC := EC.seq b35_0 r35_1
def e35 : EFun := EFun.mk 13 [ERes.t 6] r35_0
theorem c35 : cFun Tryd.prog 1 (fun _ => false) Tryd.f35 = some e35 := by kernel_rfl
theorem x35 : Tryd.prog.funcs[35]? = some Tryd.f35 := by kernel_rfl
theorem n35 : (Tryd.f35.name == "runtime.NumGoroutine") = false := by kernel_rfl
/-! 36: reach.ends.in -/
def b36_0 : EC := EC.ops false [EOper.mk (some 2) (EOp.box true 66 (Opd.t 0)) none, EOper.mk (some 3) (EOp.box true 66 (Opd.t 1)) none, EOper.mk (some 4) (EOp.mv (Opd.c
  (V.bool false))) none]
def b36_1 : EC := EC.ops false [EOper.mk (some 5) (EOp.ld true 2 (Opd.t 2)) none, EOper.mk (some 6) (EOp.call (Opd.f 50) [Opd.t 5]) none, EOper.mk (some 7) (EOp.mv (Opd.t
  6)) none, EOper.mk (some 8) (EOp.ld true 2 (Opd.t 3)) (some (7, true)), EOper.mk (some 9) (EOp.fa 0 (Opd.t 2)) (some (7, true)), EOper.mk (some 10) (EOp.fa 0 (Opd.t 9))
  (some (7, true)), EOper.mk (some 11) (EOp.ld false 1 (Opd.t 10)) (some (7, true)), EOper.mk (some 12) (EOp.call (Opd.f 39) [Opd.t 8, Opd.t 11]) (some (7, true)),
  EOper.mk (some 13) (EOp.pick (Opd.t 7) (Opd.t 12) (Opd.c (V.bool false))) none, EOper.mk (some 14) (EOp.mv (Opd.t 13)) none, EOper.mk (some 15) (EOp.ld true 2 (Opd.t 3))
  (some (14, true)), EOper.mk (some 16) (EOp.fa 0 (Opd.t 2)) (some (14, true)), EOper.mk (some 17) (EOp.fa 1 (Opd.t 16)) (some (14, true)), EOper.mk (some 18) (EOp.ld
  false 1 (Opd.t 17)) (some (14, true)), EOper.mk (some 19) (EOp.call (Opd.f 39) [Opd.t 15, Opd.t 18]) (some (14, true)), EOper.mk (some 20) (EOp.pick (Opd.t 14) (Opd.t
  19) (Opd.c (V.bool false))) none, EOper.mk (some 4) (EOp.mv (Opd.t 20)) none]
def b36_2 : EC := EC.ret
def r36_2 : EC := b36_2
def r36_1 : EC := EC.seq b36_1 r36_2
def r36_0 : EC := EC.seq b36_0 r36_1
def e36 : EFun := EFun.mk 21 [ERes.t 4] r36_0
theorem c36 : cFun Tryd.prog 1 (fun _ => false) Tryd.f36 = some e36 := by kernel_rfl
theorem x36 : Tryd.prog.funcs[36]? = some Tryd.f36 := by kernel_rfl
theorem n36 : (Tryd.f36.name == "runtime.NumGoroutine") = false := by kernel_rfl
/-! 37: window.At$1 -/
def b37_0 : EC := EC.ops false [EOper.mk (some 2) (EOp.box true 41 (Opd.t 0)) none, EOper.mk (some 3) (EOp.mv (Opd.c (V.bool false))) none]
def b37_1 : EC := EC.ops false [EOper.mk (some 4) (EOp.ld true 2 (Opd.t 2)) none, EOper.mk (some 5) (EOp.ld false 1 (Opd.t 1)) none, EOper.mk (some 6) (EOp.call (Opd.f 21)
  [Opd.t 4, Opd.t 5]) none, EOper.mk (some 3) (EOp.mv (Opd.t 6)) none]
def b37_2 : EC := EC.ret
def r37_2 : EC := b37_2
def r37_1 : EC := EC.seq b37_1 r37_2
def r37_0 : EC := EC.seq b37_0 r37_1
def e37 : EFun := EFun.mk 7 [ERes.t 3] r37_0
theorem c37 : cFun Tryd.prog 1 (fun _ => false) Tryd.f37 = some e37 := by kernel_rfl
theorem x37 : Tryd.prog.funcs[37]? = some Tryd.f37 := by kernel_rfl
theorem n37 : (Tryd.f37.name == "runtime.NumGoroutine") = false := by kernel_rfl
/-! 38: reach.Right -/
def b38_0 : EC := EC.ops false [EOper.mk (some 1) (EOp.box true 41 (Opd.t 0)) none, EOper.mk (some 2) (EOp.mv (Opd.c (V.bool false))) none]
def b38_1 : EC := EC.ops false [EOper.mk (some 3) (EOp.ld true 2 (Opd.t 1)) none, EOper.mk (some 4) (EOp.build [V.int .u32 (0), V.int .u32 (0)] [(0, 2, Opd.t 3)]) none,
  EOper.mk (some 5) (EOp.call (Opd.f 50) [Opd.t 4]) none, EOper.mk (some 2) (EOp.mv (Opd.t 5)) none]
def b38_2 : EC := EC.ret
def r38_2 : EC := b38_2
def r38_1 : EC := EC.seq b38_1 r38_2
def r38_0 : EC := EC.seq b38_0 r38_1
def e38 : EFun := EFun.mk 6 [ERes.t 2] r38_0
theorem c38 : cFun Tryd.prog 1 (fun _ => false) Tryd.f38 = some e38 := by kernel_rfl
theorem x38 : Tryd.prog.funcs[38]? = some Tryd.f38 := by kernel_rfl
theorem n38 : (Tryd.f38.name == "runtime.NumGoroutine") = false := by kernel_rfl
/-! 39: reach.ends.has -/
def b39_0 : EC := EC.ops false [EOper.mk (some 2) (EOp.box true 66 (Opd.t 0)) none, EOper.mk (some 4) (EOp.mv (Opd.c (V.bool false))) none]
def b39_1 : EC := EC.ops false [EOper.mk (some 5) (EOp.ld true 2 (Opd.t 2)) none, EOper.mk (some 6) (EOp.call (Opd.f 50) [Opd.t 5]) none, EOper.mk (some 7) (EOp.mv (Opd.t
  6)) none, EOper.mk (some 8) (EOp.fa 0 (Opd.t 2)) (some (7, true)), EOper.mk (some 9) (EOp.fa 0 (Opd.t 8)) (some (7, true)), EOper.mk (some 10) (EOp.ld false 1 (Opd.t 9))
  (some (7, true)), EOper.mk (some 11) (EOp.mv (Opd.t 1)) (some (7, true)), EOper.mk (some 12) (EOp.bin .leq (Opd.t 10) (Opd.t 11)) (some (7, true)), EOper.mk (some 13)
  (EOp.pick (Opd.t 7) (Opd.t 12) (Opd.c (V.bool false))) none, EOper.mk (some 14) (EOp.mv (Opd.t 13)) none, EOper.mk (some 15) (EOp.mv (Opd.t 1)) (some (14, true)),
  EOper.mk (some 16) (EOp.fa 0 (Opd.t 2)) (some (14, true)), EOper.mk (some 17) (EOp.fa 1 (Opd.t 16)) (some (14, true)), EOper.mk (some 18) (EOp.ld false 1 (Opd.t 17))
  (some (14, true)), EOper.mk (some 19) (EOp.bin .leq (Opd.t 15) (Opd.t 18)) (some (14, true)), EOper.mk (some 20) (EOp.pick (Opd.t 14) (Opd.t 19) (Opd.c (V.bool false)))
  none, EOper.mk (some 4) (EOp.mv (Opd.t 20)) none]
def b39_2 : EC := EC.ret
def r39_2 : EC := b39_2
def r39_1 : EC := EC.seq b39_1 r39_2
def r39_0 : EC := EC.seq b39_0 r39_1
def e39 : EFun := EFun.mk 21 [ERes.t 4] r39_0
theorem c39 : cFun Tryd.prog 1 (fun _ => false) Tryd.f39 = some e39 := by kernel_rfl
theorem x39 : Tryd.prog.funcs[39]? = some Tryd.f39 := by kernel_rfl
theorem n39 : (Tryd.f39.name == "runtime.NumGoroutine") = false := by kernel_rfl
/-! 40: window.part.right -/
def b40_0 : EC := EC.ops false [EOper.mk (some 1) (EOp.box true 69 (Opd.t 0)) none, EOper.mk (some 2) (EOp.mv (Opd.c (V.bool false))) none]
def b40_1 : EC := EC.ops false [EOper.mk (some 3) (EOp.ld true 5 (Opd.t 1)) none, EOper.mk (some 4) (EOp.mkfn 52 [Opd.t 3] []) none, EOper.mk (some 5) (EOp.ld true 5
  (Opd.t 1)) none, EOper.mk (some 6) (EOp.mkfn 53 [Opd.t 5] []) none, EOper.mk (some 7) (EOp.ld true 5 (Opd.t 1)) none, EOper.mk (some 8) (EOp.mkfn 54 [Opd.t 7] []) none,
  EOper.mk (some 9) (EOp.bslice 29 3 [V.nilf, V.nilf, V.nilf] [(0, 1, Opd.t 4), (1, 1, Opd.t 6), (2, 1, Opd.t 8)]) none, EOper.mk (some 10) (EOp.call (Opd.f 51) [Opd.t 9,
  Opd.f 55]) none, EOper.mk (some 11) (EOp.un .not (Opd.t 10)) none, EOper.mk (some 2) (EOp.mv (Opd.t 11)) none]
def b40_2 : EC := EC.ret
def r40_2 : EC := b40_2
def r40_1 : EC := EC.seq b40_1 r40_2
def r40_0 : EC := EC.seq b40_0 r40_1
def e40 : EFun := EFun.mk 12 [ERes.t 2] r40_0
theorem c40 : cFun Tryd.prog 1 (fun _ => false) Tryd.f40 = some e40 := by kernel_rfl
theorem x40 : Tryd.prog.funcs[40]? = some Tryd.f40 := by kernel_rfl
theorem n40 : (Tryd.f40.name == "runtime.NumGoroutine") = false := by kernel_rfl
/-! 41: septumkit.mark -/
def b41_0 : EC := EC.ops false [EOper.mk (some 4) (EOp.mv (Opd.c (V.int .i64 (0)))) none]
def b41_1 : EC := EC.ops false [EOper.mk (some 5) (EOp.mv (Opd.t 0)) none, EOper.mk (some 6) (EOp.bin .add (Opd.t 5) (Opd.c (V.int .i64 (7)))) none, EOper.mk (some 7)
  (EOp.bin .mul (Opd.c (V.int .i64 (1000003))) (Opd.t 6)) none, EOper.mk (some 8) (EOp.mv (Opd.t 1)) none, EOper.mk (some 9) (EOp.bin .add (Opd.t 7) (Opd.t 8)) none,
  EOper.mk (some 4) (EOp.mv (Opd.t 9)) none]
def b41_2 : EC := EC.ret
def r41_2 : EC := b41_2
def r41_1 : EC := EC.seq b41_1 r41_2
def r41_0 : EC := EC.seq b41_0 r41_1
def e41 : EFun := EFun.mk 10 [ERes.t 4] r41_0
theorem c41 : cFun Tryd.prog 1 (fun _ => false) Tryd.f41 = some e41 := by kernel_rfl
theorem x41 : Tryd.prog.funcs[41]? = some Tryd.f41 := by kernel_rfl
theorem n41 : (Tryd.f41.name == "runtime.NumGoroutine") = false := by kernel_rfl
/-! 42: septumref02.Of -/
def b42_0 : EC := EC.ops false [EOper.mk (some 4) (EOp.alloc true 41 [V.int .u32 (0), V.int .u32 (0)]) none, EOper.mk (some 5) (EOp.mv (Opd.c (V.bool false))) none]
def b42_1 : EC := EC.seq (EC.ops false [EOper.mk (some 6) (EOp.mv (Opd.t 1)) none, EOper.mk (some 7) (EOp.bin .lss (Opd.t 6) (Opd.c (V.int .i64 (1)))) none, EOper.mk (some
  8) (EOp.mv (Opd.t 7)) none, EOper.mk (some 9) (EOp.mv (Opd.t 1)) (some (8, false)), EOper.mk (some 10) (EOp.mv (Opd.t 0)) (some (8, false)), EOper.mk (some 11) (EOp.conv
  .i64 (Opd.t 10)) (some (8, false)), EOper.mk (some 12) (EOp.bin .sub (Opd.c (V.int .i64 (4294967296))) (Opd.t 11)) (some (8, false)), EOper.mk (some 13) (EOp.bin .gtr
  (Opd.t 9) (Opd.t 12)) (some (8, false)), EOper.mk (some 14) (EOp.pick (Opd.t 8) (Opd.c (V.bool true)) (Opd.t 13)) none]) (EC.cond (Opd.t 14) (EC.seq (EC.ops false
  [EOper.mk (some 15) (EOp.build [V.int .u32 (0), V.int .u32 (0)] []) none, EOper.mk none (EOp.st 2 (Opd.t 4) (Opd.t 15)) none, EOper.mk (some 5) (EOp.mv (Opd.c (V.bool
  false))) none]) EC.ret) EC.skip)
def b42_2 : EC := EC.ops false [EOper.mk (some 16) (EOp.mv (Opd.t 0)) none, EOper.mk (some 17) (EOp.mv (Opd.t 0)) none, EOper.mk (some 18) (EOp.conv .i64 (Opd.t 17)) none,
  EOper.mk (some 19) (EOp.mv (Opd.t 1)) none, EOper.mk (some 20) (EOp.bin .add (Opd.t 18) (Opd.t 19)) none, EOper.mk (some 21) (EOp.bin .sub (Opd.t 20) (Opd.c (V.int .i64
  (1)))) none, EOper.mk (some 22) (EOp.conv .u32 (Opd.t 21)) none, EOper.mk (some 23) (EOp.build [V.int .u32 (0), V.int .u32 (0)] [(0, 1, Opd.t 16), (1, 1, Opd.t 22)])
  none, EOper.mk none (EOp.st 2 (Opd.t 4) (Opd.t 23)) none, EOper.mk (some 5) (EOp.mv (Opd.c (V.bool true))) none]
def b42_3 : EC := EC.ret
def r42_3 : EC := b42_3
def r42_2 : EC := EC.seq b42_2 r42_3
def r42_1 : EC := EC.seq b42_1 r42_2
def r42_0 : EC := EC.seq b42_0 r42_1
def e42 : EFun := EFun.mk 24 [ERes.c 4 2, ERes.t 5] r42_0
theorem c42 : cFun Tryd.prog 1 (fun _ => false) Tryd.f42 = some e42 := by kernel_rfl
theorem x42 : Tryd.prog.funcs[42]? = some Tryd.f42 := by kernel_rfl
theorem n42 : (Tryd.f42.name == "runtime.NumGoroutine") = false := by kernel_rfl
/-! 43: septumref04.Reach -/
def b43_0 : EC := EC.ops false [EOper.mk (some 1) (EOp.box true 28 (Opd.t 0)) none, EOper.mk (some 2) (EOp.alloc true 41 [V.int .u32 (0), V.int .u32 (0)]) none, EOper.mk
  (some 3) (EOp.mv (Opd.c (V.bool false))) none]
def b43_1 : EC := EC.seq (EC.ops false [EOper.mk (some 4) (EOp.ld true 5 (Opd.t 1)) none, EOper.mk (some 5) (EOp.call (Opd.f 56) [Opd.t 4]) none, EOper.mk (some 6) (EOp.un
  .not (Opd.t 5)) none]) (EC.cond (Opd.t 6) (EC.seq (EC.ops false [EOper.mk (some 7) (EOp.build [V.int .u32 (0), V.int .u32 (0)] []) none, EOper.mk none (EOp.st 2 (Opd.t
  2) (Opd.t 7)) none, EOper.mk (some 3) (EOp.mv (Opd.c (V.bool false))) none]) EC.ret) EC.skip)
def b43_2 : EC := EC.ops false [EOper.mk (some 8) (EOp.fa 2 (Opd.t 1)) none, EOper.mk (some 9) (EOp.ld false 1 (Opd.t 8)) none, EOper.mk (some 10) (EOp.fa 3 (Opd.t 1))
  none, EOper.mk (some 11) (EOp.ld false 1 (Opd.t 10)) none, EOper.mk (some 12) (EOp.call (Opd.f 42) [Opd.t 9, Opd.t 11]) none, EOper.mk (some 13) (EOp.ext (Opd.t 12) 0)
  none, EOper.mk (some 14) (EOp.ext (Opd.t 12) 1) none, EOper.mk none (EOp.st 2 (Opd.t 2) (Opd.t 13)) none, EOper.mk (some 3) (EOp.mv (Opd.t 14)) none]
def b43_3 : EC := EC.ret
def r43_3 : EC := b43_3
def r43_2 : EC := EC.seq b43_2 r43_3
def r43_1 : EC := EC.seq b43_1 r43_2
def r43_0 : EC := EC.seq b43_0 r43_1
def e43 : EFun := EFun.mk 15 [ERes.c 2 2, ERes.t 3] r43_0
theorem c43 : cFun Tryd.prog 1 (fun _ => false) Tryd.f43 = some e43 := by kernel_rfl
theorem x43 : Tryd.prog.funcs[43]? = some Tryd.f43 := by kernel_rfl
theorem n43 : (Tryd.f43.name == "runtime.NumGoroutine") = false := by kernel_rfl
/-! 44: septumref02.In -/
def b44_0 : EC := EC.ops false [EOper.mk (some 2) (EOp.box true 41 (Opd.t 0)) none, EOper.mk (some 3) (EOp.box true 41 (Opd.t 1)) none, EOper.mk (some 4) (EOp.mv (Opd.c
  (V.bool false))) none]
def b44_1 : EC := EC.ops false [EOper.mk (some 5) (EOp.ld true 2 (Opd.t 2)) none, EOper.mk (some 6) (EOp.call (Opd.f 57) [Opd.t 5]) none, EOper.mk (some 7) (EOp.mv (Opd.t
  6)) none, EOper.mk (some 8) (EOp.ld true 2 (Opd.t 3)) (some (7, true)), EOper.mk (some 9) (EOp.call (Opd.f 57) [Opd.t 8]) (some (7, true)), EOper.mk (some 10) (EOp.pick
  (Opd.t 7) (Opd.t 9) (Opd.c (V.bool false))) none, EOper.mk (some 11) (EOp.mv (Opd.t 10)) none, EOper.mk (some 12) (EOp.ld true 2 (Opd.t 3)) (some (11, true)), EOper.mk
  (some 13) (EOp.fa 0 (Opd.t 2)) (some (11, true)), EOper.mk (some 14) (EOp.ld false 1 (Opd.t 13)) (some (11, true)), EOper.mk (some 15) (EOp.call (Opd.f 45) [Opd.t 12,
  Opd.t 14]) (some (11, true)), EOper.mk (some 16) (EOp.pick (Opd.t 11) (Opd.t 15) (Opd.c (V.bool false))) none, EOper.mk (some 17) (EOp.mv (Opd.t 16)) none, EOper.mk
  (some 18) (EOp.ld true 2 (Opd.t 3)) (some (17, true)), EOper.mk (some 19) (EOp.fa 1 (Opd.t 2)) (some (17, true)), EOper.mk (some 20) (EOp.ld false 1 (Opd.t 19)) (some
  (17, true)), EOper.mk (some 21) (EOp.call (Opd.f 45) [Opd.t 18, Opd.t 20]) (some (17, true)), EOper.mk (some 22) (EOp.pick (Opd.t 17) (Opd.t 21) (Opd.c (V.bool false)))
  none, EOper.mk (some 4) (EOp.mv (Opd.t 22)) none]
def b44_2 : EC := EC.ret
def r44_2 : EC := b44_2
def r44_1 : EC := EC.seq b44_1 r44_2
def r44_0 : EC := EC.seq b44_0 r44_1
def e44 : EFun := EFun.mk 23 [ERes.t 4] r44_0
theorem c44 : cFun Tryd.prog 1 (fun _ => false) Tryd.f44 = some e44 := by kernel_rfl
theorem x44 : Tryd.prog.funcs[44]? = some Tryd.f44 := by kernel_rfl
theorem n44 : (Tryd.f44.name == "runtime.NumGoroutine") = false := by kernel_rfl
/-! 45: septumref02.Has -/
def b45_0 : EC := EC.ops false [EOper.mk (some 2) (EOp.box true 41 (Opd.t 0)) none, EOper.mk (some 4) (EOp.mv (Opd.c (V.bool false))) none]
def b45_1 : EC := EC.ops false [EOper.mk (some 5) (EOp.mv (Opd.t 1)) none, EOper.mk (some 6) (EOp.fa 0 (Opd.t 2)) none, EOper.mk (some 7) (EOp.ld false 1 (Opd.t 6)) none,
  EOper.mk (some 8) (EOp.bin .geq (Opd.t 5) (Opd.t 7)) none, EOper.mk (some 9) (EOp.mv (Opd.t 8)) none, EOper.mk (some 10) (EOp.mv (Opd.t 1)) (some (9, true)), EOper.mk
  (some 11) (EOp.fa 1 (Opd.t 2)) (some (9, true)), EOper.mk (some 12) (EOp.ld false 1 (Opd.t 11)) (some (9, true)), EOper.mk (some 13) (EOp.bin .leq (Opd.t 10) (Opd.t 12))
  (some (9, true)), EOper.mk (some 14) (EOp.pick (Opd.t 9) (Opd.t 13) (Opd.c (V.bool false))) none, EOper.mk (some 4) (EOp.mv (Opd.t 14)) none]
def b45_2 : EC := EC.ret
def r45_2 : EC := b45_2
def r45_1 : EC := EC.seq b45_1 r45_2
def r45_0 : EC := EC.seq b45_0 r45_1
def e45 : EFun := EFun.mk 15 [ERes.t 4] r45_0
theorem c45 : cFun Tryd.prog 1 (fun _ => false) Tryd.f45 = some e45 := by kernel_rfl
theorem x45 : Tryd.prog.funcs[45]? = some Tryd.f45 := by kernel_rfl
theorem n45 : (Tryd.f45.name == "runtime.NumGoroutine") = false := by kernel_rfl
/-! 46: septumref02.Meet -/
def b46_0 : EC := EC.ops false [EOper.mk (some 2) (EOp.box true 41 (Opd.t 0)) none, EOper.mk (some 3) (EOp.box true 41 (Opd.t 1)) none, EOper.mk (some 4) (EOp.alloc true
  41 [V.int .u32 (0), V.int .u32 (0)]) none, EOper.mk (some 5) (EOp.mv (Opd.c (V.bool false))) none]
def b46_1 : EC := EC.ops false [EOper.mk (some 7) (EOp.fa 0 (Opd.t 2)) none, EOper.mk (some 8) (EOp.ld false 1 (Opd.t 7)) none, EOper.mk (some 9) (EOp.fa 0 (Opd.t 3))
  none, EOper.mk (some 10) (EOp.ld false 1 (Opd.t 9)) none, EOper.mk (some 11) (EOp.mm true (Opd.t 8) (Opd.t 10)) none, EOper.mk (some 12) (EOp.fa 1 (Opd.t 2)) none,
  EOper.mk (some 13) (EOp.ld false 1 (Opd.t 12)) none, EOper.mk (some 14) (EOp.fa 1 (Opd.t 3)) none, EOper.mk (some 15) (EOp.ld false 1 (Opd.t 14)) none, EOper.mk (some
  16) (EOp.mm false (Opd.t 13) (Opd.t 15)) none, EOper.mk (some 17) (EOp.build [V.int .u32 (0), V.int .u32 (0)] [(0, 1, Opd.t 11), (1, 1, Opd.t 16)]) none, EOper.mk (some
  6) (EOp.alloc true 41 [V.int .u32 (0), V.int .u32 (0)]) none, EOper.mk none (EOp.st 2 (Opd.t 6) (Opd.t 17)) none]
def b46_2 : EC := EC.seq (EC.ops false [EOper.mk (some 18) (EOp.ld true 2 (Opd.t 2)) none, EOper.mk (some 19) (EOp.call (Opd.f 57) [Opd.t 18]) none, EOper.mk (some 20)
  (EOp.un .not (Opd.t 19)) none, EOper.mk (some 21) (EOp.mv (Opd.t 20)) none, EOper.mk (some 22) (EOp.ld true 2 (Opd.t 3)) (some (21, false)), EOper.mk (some 23) (EOp.call
  (Opd.f 57) [Opd.t 22]) (some (21, false)), EOper.mk (some 24) (EOp.un .not (Opd.t 23)) (some (21, false)), EOper.mk (some 25) (EOp.pick (Opd.t 21) (Opd.c (V.bool true))
  (Opd.t 24)) none, EOper.mk (some 26) (EOp.mv (Opd.t 25)) none, EOper.mk (some 27) (EOp.ld true 2 (Opd.t 6)) (some (26, false)), EOper.mk (some 28) (EOp.call (Opd.f 57)
  [Opd.t 27]) (some (26, false)), EOper.mk (some 29) (EOp.un .not (Opd.t 28)) (some (26, false)), EOper.mk (some 30) (EOp.pick (Opd.t 26) (Opd.c (V.bool true)) (Opd.t 29))
  none]) (EC.cond (Opd.t 30) (EC.seq (EC.ops false [EOper.mk (some 31) (EOp.build [V.int .u32 (0), V.int .u32 (0)] []) none, EOper.mk none (EOp.st 2 (Opd.t 4) (Opd.t 31))
  none, EOper.mk (some 5) (EOp.mv (Opd.c (V.bool false))) none]) EC.ret) EC.skip)
def b46_3 : EC := EC.ops false [EOper.mk (some 32) (EOp.ld true 2 (Opd.t 6)) none, EOper.mk none (EOp.st 2 (Opd.t 4) (Opd.t 32)) none, EOper.mk (some 5) (EOp.mv (Opd.c
  (V.bool true))) none]
def b46_4 : EC := EC.ret
def r46_4 : EC := b46_4
def r46_3 : EC := EC.seq b46_3 r46_4
def r46_2 : EC := EC.seq b46_2 r46_3
def r46_1 : EC := EC.seq b46_1 r46_2
def r46_0 : EC := EC.seq b46_0 r46_1
def e46 : EFun := EFun.mk 33 [ERes.c 4 2, ERes.t 5] r46_0
theorem c46 : cFun Tryd.prog 1 (fun _ => false) Tryd.f46 = some e46 := by kernel_rfl
theorem x46 : Tryd.prog.funcs[46]? = some Tryd.f46 := by kernel_rfl
theorem n46 : (Tryd.f46.name == "runtime.NumGoroutine") = false := by kernel_rfl
/-! 47: reach.Apart -/
def l47_0p0 : EC := EC.ops false [EOper.mk (some 8) (EOp.bin .lss (Opd.t 7) (Opd.t 6)) none]
def l47_0p1 : EC := EC.cond (Opd.t 8) EC.skip (EC.exit 0)
def l47_0p2 : EC := EC.block 1 (EC.seq (EC.ops false [EOper.mk (some 9) (EOp.mv (Opd.t 7)) none, EOper.mk (some 10) (EOp.ixs 2 (Opd.t 5) (Opd.t 7)) none, EOper.mk (some
  11) (EOp.ld true 2 (Opd.t 10)) none, EOper.mk (some 4) (EOp.alloc false 41 [V.int .u32 (0), V.int .u32 (0)]) none, EOper.mk (some 3) (EOp.mv (Opd.t 9)) none, EOper.mk
  none (EOp.st 2 (Opd.t 4) (Opd.t 11)) none]) (EC.seq (EC.ops false [EOper.mk (some 12) (EOp.ld true 2 (Opd.t 4)) none, EOper.mk (some 13) (EOp.call (Opd.f 38) [Opd.t 12])
  none, EOper.mk (some 14) (EOp.un .not (Opd.t 13)) none, EOper.mk (some 15) (EOp.mv (Opd.t 14)) none, EOper.mk (some 16) (EOp.mv (Opd.t 0)) (some (15, false)), EOper.mk
  (some 17) (EOp.mv (Opd.t 3)) (some (15, false)), EOper.mk (some 18) (EOp.slc 2 (Opd.t 16) none (some (Opd.t 17))) (some (15, false)), EOper.mk (some 19) (EOp.mkfn 59 []
  [Opd.t 4]) (some (15, false)), EOper.mk (some 20) (EOp.call (Opd.f 58) [Opd.t 18, Opd.t 19]) (some (15, false)), EOper.mk (some 21) (EOp.pick (Opd.t 15) (Opd.c (V.bool
  true)) (Opd.t 20)) none]) (EC.cond (Opd.t 21) (EC.seq (EC.ops false [EOper.mk (some 2) (EOp.mv (Opd.c (V.bool false))) none]) EC.ret) EC.skip)))
def l47_0p3 : EC := EC.ops false [EOper.mk (some 22) (EOp.bin .add (Opd.t 7) (Opd.c (V.int .i64 (1)))) none, EOper.mk (some 7) (EOp.mv (Opd.t 22)) none]
def l47_0r3 : EC := l47_0p3
def l47_0r2 : EC := EC.seq l47_0p2 l47_0r3
def l47_0r1 : EC := EC.seq l47_0p1 l47_0r2
def l47_0r0 : EC := EC.seq l47_0p0 l47_0r1
def l47_0 : EC := l47_0r0
def b47_0 : EC := EC.ops false [EOper.mk (some 2) (EOp.mv (Opd.c (V.bool false))) none]
def b47_1 : EC := EC.seq (EC.ops false [EOper.mk (some 5) (EOp.mv (Opd.t 0)) none, EOper.mk (some 6) (EOp.len false (Opd.t 5)) none, EOper.mk (some 7) (EOp.mv (Opd.c
  (V.int .i64 (0)))) none]) (EC.block 0 (EC.loop l47_0))
def b47_2 : EC := EC.ops false [EOper.mk (some 2) (EOp.mv (Opd.c (V.bool true))) none]
def b47_3 : EC := EC.ret
def r47_3 : EC := b47_3
def r47_2 : EC := EC.seq b47_2 r47_3
def r47_1 : EC := EC.seq b47_1 r47_2
def r47_0 : EC := EC.seq b47_0 r47_1
def e47 : EFun := EFun.mk 23 [ERes.t 2] r47_0
theorem c47 : cFun Tryd.prog 1 (fun d => d == 4) Tryd.f47 = some e47 := by kernel_rfl
theorem x47 : Tryd.prog.funcs[47]? = some Tryd.f47 := by kernel_rfl
theorem n47 : (Tryd.f47.name == "runtime.NumGoroutine") = false := by kernel_rfl
/-! 48: slices.IndexFunc:api.Reach -/
def l48_0p0 : EC := EC.ops false [EOper.mk (some 9) (EOp.bin .lss (Opd.t 8) (Opd.t 7)) none]
def l48_0p1 : EC := EC.cond (Opd.t 9) EC.skip (EC.exit 0)
def l48_0p2 : EC := EC.block 1 (EC.seq (EC.ops false [EOper.mk (some 10) (EOp.mv (Opd.t 8)) none, EOper.mk (some 5) (EOp.mv (Opd.t 10)) none]) (EC.seq (EC.ops false
  [EOper.mk (some 11) (EOp.mv (Opd.t 1)) none, EOper.mk (some 12) (EOp.mv (Opd.t 0)) none, EOper.mk (some 13) (EOp.mv (Opd.t 5)) none, EOper.mk (some 14) (EOp.ixs 2 (Opd.t
  12) (Opd.t 13)) none, EOper.mk (some 15) (EOp.ld true 2 (Opd.t 14)) none, EOper.mk (some 16) (EOp.call (Opd.t 11) [Opd.t 15]) none]) (EC.cond (Opd.t 16) (EC.seq (EC.ops
  false [EOper.mk (some 17) (EOp.mv (Opd.t 5)) none, EOper.mk (some 4) (EOp.mv (Opd.t 17)) none]) EC.ret) EC.skip)))
def l48_0p3 : EC := EC.ops false [EOper.mk (some 18) (EOp.bin .add (Opd.t 8) (Opd.c (V.int .i64 (1)))) none, EOper.mk (some 8) (EOp.mv (Opd.t 18)) none]
def l48_0r3 : EC := l48_0p3
def l48_0r2 : EC := EC.seq l48_0p2 l48_0r3
def l48_0r1 : EC := EC.seq l48_0p1 l48_0r2
def l48_0r0 : EC := EC.seq l48_0p0 l48_0r1
def l48_0 : EC := l48_0r0
def b48_0 : EC := EC.ops false [EOper.mk (some 4) (EOp.mv (Opd.c (V.int .i64 (0)))) none]
def b48_1 : EC := EC.seq (EC.ops false [EOper.mk (some 6) (EOp.mv (Opd.t 0)) none, EOper.mk (some 7) (EOp.len false (Opd.t 6)) none, EOper.mk (some 8) (EOp.mv (Opd.c
  (V.int .i64 (0)))) none]) (EC.block 0 (EC.loop l48_0))
def b48_2 : EC := EC.ops false [EOper.mk (some 4) (EOp.mv (Opd.c (V.int .i64 (-1)))) none]
def b48_3 : EC := EC.ret
def r48_3 : EC := b48_3
def r48_2 : EC := EC.seq b48_2 r48_3
def r48_1 : EC := EC.seq b48_1 r48_2
def r48_0 : EC := EC.seq b48_0 r48_1
def e48 : EFun := EFun.mk 19 [ERes.t 4] r48_0
theorem c48 : cFun Tryd.prog 1 (fun _ => false) Tryd.f48 = some e48 := by kernel_rfl
theorem x48 : Tryd.prog.funcs[48]? = some Tryd.f48 := by kernel_rfl
theorem n48 : (Tryd.f48.name == "runtime.NumGoroutine") = false := by kernel_rfl
/-! 49: access.record.right -/
def b49_0 : EC := EC.ops false [EOper.mk (some 1) (EOp.box true 74 (Opd.t 0)) none, EOper.mk (some 2) (EOp.mv (Opd.c (V.bool false))) none]
def b49_1 : EC := EC.ops false [EOper.mk (some 3) (EOp.ld true 5 (Opd.t 1)) none, EOper.mk (some 4) (EOp.mkfn 61 [Opd.t 3] []) none, EOper.mk (some 5) (EOp.ld true 5
  (Opd.t 1)) none, EOper.mk (some 6) (EOp.mkfn 62 [Opd.t 5] []) none, EOper.mk (some 7) (EOp.ld true 5 (Opd.t 1)) none, EOper.mk (some 8) (EOp.mkfn 63 [Opd.t 7] []) none,
  EOper.mk (some 9) (EOp.bslice 29 3 [V.nilf, V.nilf, V.nilf] [(0, 1, Opd.t 4), (1, 1, Opd.t 6), (2, 1, Opd.t 8)]) none, EOper.mk (some 10) (EOp.call (Opd.f 51) [Opd.t 9,
  Opd.f 64]) none, EOper.mk (some 11) (EOp.un .not (Opd.t 10)) none, EOper.mk (some 2) (EOp.mv (Opd.t 11)) none]
def b49_2 : EC := EC.ret
def r49_2 : EC := b49_2
def r49_1 : EC := EC.seq b49_1 r49_2
def r49_0 : EC := EC.seq b49_0 r49_1
def e49 : EFun := EFun.mk 12 [ERes.t 2] r49_0
theorem c49 : cFun Tryd.prog 1 (fun _ => false) Tryd.f49 = some e49 := by kernel_rfl
theorem x49 : Tryd.prog.funcs[49]? = some Tryd.f49 := by kernel_rfl
theorem n49 : (Tryd.f49.name == "runtime.NumGoroutine") = false := by kernel_rfl
/-! 50: reach.ends.right -/
def b50_0 : EC := EC.ops false [EOper.mk (some 1) (EOp.box true 66 (Opd.t 0)) none, EOper.mk (some 2) (EOp.mv (Opd.c (V.bool false))) none]
def b50_1 : EC := EC.ops false [EOper.mk (some 3) (EOp.fa 0 (Opd.t 1)) none, EOper.mk (some 4) (EOp.fa 0 (Opd.t 3)) none, EOper.mk (some 5) (EOp.ld false 1 (Opd.t 4))
  none, EOper.mk (some 6) (EOp.fa 0 (Opd.t 1)) none, EOper.mk (some 7) (EOp.fa 1 (Opd.t 6)) none, EOper.mk (some 8) (EOp.ld false 1 (Opd.t 7)) none, EOper.mk (some 9)
  (EOp.bin .leq (Opd.t 5) (Opd.t 8)) none, EOper.mk (some 2) (EOp.mv (Opd.t 9)) none]
def b50_2 : EC := EC.ret
def r50_2 : EC := b50_2
def r50_1 : EC := EC.seq b50_1 r50_2
def r50_0 : EC := EC.seq b50_0 r50_1
def e50 : EFun := EFun.mk 10 [ERes.t 2] r50_0
theorem c50 : cFun Tryd.prog 1 (fun _ => false) Tryd.f50 = some e50 := by kernel_rfl
theorem x50 : Tryd.prog.funcs[50]? = some Tryd.f50 := by kernel_rfl
theorem n50 : (Tryd.f50.name == "runtime.NumGoroutine") = false := by kernel_rfl
/-! 51: slices.ContainsFunc:func()_bool -/
def b51_0 : EC := EC.ops false [EOper.mk (some 4) (EOp.mv (Opd.c (V.bool false))) none]
def b51_1 : EC := EC.ops false [EOper.mk (some 5) (EOp.mv (Opd.t 0)) none, EOper.mk (some 6) (EOp.mv (Opd.t 1)) none, EOper.mk (some 7) (EOp.call (Opd.f 65) [Opd.t 5,
  Opd.t 6]) none, EOper.mk (some 8) (EOp.bin .geq (Opd.t 7) (Opd.c (V.int .i64 (0)))) none, EOper.mk (some 4) (EOp.mv (Opd.t 8)) none]
def b51_2 : EC := EC.ret
def r51_2 : EC := b51_2
def r51_1 : EC := EC.seq b51_1 r51_2
def r51_0 : EC := EC.seq b51_0 r51_1
def e51 : EFun := EFun.mk 9 [ERes.t 4] r51_0
theorem c51 : cFun Tryd.prog 1 (fun _ => false) Tryd.f51 = some e51 := by kernel_rfl
theorem x51 : Tryd.prog.funcs[51]? = some Tryd.f51 := by kernel_rfl
theorem n51 : (Tryd.f51.name == "runtime.NumGoroutine") = false := by kernel_rfl
/-! 52: window.part.size -/
def b52_0 : EC := EC.ops false [EOper.mk (some 1) (EOp.box true 69 (Opd.t 0)) none, EOper.mk (some 2) (EOp.mv (Opd.c (V.bool false))) none]
def b52_1 : EC := EC.opsX (Sch.sil (EOper.mk (some 7) (EOp.fa 0 (Opd.t 1)) none) (Sch.sil (EOper.mk (some 8) (EOp.fa 0 (Opd.t 7)) none) (Sch.sil (EOper.mk (some 9) (EOp.ld
  false 1 (Opd.t 8)) none) (Sch.op (EOper.mk (some 6) (EOp.call (Opd.f 66) []) none) (Sch.op (EOper.mk (some 10) (EOp.look true [V.nilf] (Opd.t 6) (Opd.t 9)) none)
  (Sch.sil (EOper.mk (some 5) (EOp.mv (Opd.t 10)) none) (Sch.sil (EOper.mk (some 11) (EOp.ext (Opd.t 5) 0) none) (Sch.sil (EOper.mk (some 12) (EOp.ext (Opd.t 5) 1) none)
  (Sch.sil (EOper.mk (some 3) (EOp.mv (Opd.t 11)) none) (Sch.sil (EOper.mk (some 4) (EOp.mv (Opd.t 12)) none) Sch.done))))))))))
def b52_2 : EC := EC.ops false [EOper.mk (some 13) (EOp.mv (Opd.t 4)) none, EOper.mk (some 14) (EOp.mv (Opd.t 13)) none, EOper.mk (some 15) (EOp.mv (Opd.t 3)) (some (14,
  true)), EOper.mk (some 16) (EOp.fa 0 (Opd.t 1)) (some (14, true)), EOper.mk (some 17) (EOp.fa 2 (Opd.t 16)) (some (14, true)), EOper.mk (some 18) (EOp.ld false 1 (Opd.t
  17)) (some (14, true)), EOper.mk (some 19) (EOp.call (Opd.t 15) [Opd.t 18]) (some (14, true)), EOper.mk (some 20) (EOp.pick (Opd.t 14) (Opd.t 19) (Opd.c (V.bool false)))
  none, EOper.mk (some 2) (EOp.mv (Opd.t 20)) none]
def b52_3 : EC := EC.ret
def r52_3 : EC := b52_3
def r52_2 : EC := EC.seq b52_2 r52_3
def r52_1 : EC := EC.seq b52_1 r52_2
def r52_0 : EC := EC.seq b52_0 r52_1
def e52 : EFun := EFun.mk 21 [ERes.t 2] r52_0
theorem c52 : cFun Tryd.prog 1 (fun d => d == 2000001 || d == 2000007 || d == 2000008 || d == 2000016 || d == 2000017 || d == 3000000) Tryd.f52 = some e52 := by kernel_rfl
theorem x52 : Tryd.prog.funcs[52]? = some Tryd.f52 := by kernel_rfl
theorem n52 : (Tryd.f52.name == "runtime.NumGoroutine") = false := by kernel_rfl
/-! 53: window.part.place -/
def b53_0 : EC := EC.ops false [EOper.mk (some 1) (EOp.box true 69 (Opd.t 0)) none, EOper.mk (some 2) (EOp.mv (Opd.c (V.bool false))) none]
def b53_1 : EC := EC.ops false [EOper.mk (some 6) (EOp.fa 0 (Opd.t 1)) none, EOper.mk (some 7) (EOp.fa 1 (Opd.t 6)) none, EOper.mk (some 8) (EOp.ld false 1 (Opd.t 7))
  none, EOper.mk (some 9) (EOp.fa 0 (Opd.t 1)) none, EOper.mk (some 10) (EOp.fa 2 (Opd.t 9)) none, EOper.mk (some 11) (EOp.ld false 1 (Opd.t 10)) none, EOper.mk (some 12)
  (EOp.call (Opd.f 34) [Opd.t 8, Opd.t 11]) none, EOper.mk (some 5) (EOp.mv (Opd.t 12)) none, EOper.mk (some 13) (EOp.ext (Opd.t 5) 0) none, EOper.mk (some 14) (EOp.ext
  (Opd.t 5) 1) none, EOper.mk (some 3) (EOp.alloc true 41 [V.int .u32 (0), V.int .u32 (0)]) none, EOper.mk none (EOp.st 2 (Opd.t 3) (Opd.t 13)) none, EOper.mk (some 4)
  (EOp.mv (Opd.t 14)) none]
def b53_2 : EC := EC.ops false [EOper.mk (some 15) (EOp.mv (Opd.t 4)) none, EOper.mk (some 16) (EOp.mv (Opd.t 15)) none, EOper.mk (some 17) (EOp.fa 0 (Opd.t 1)) (some (16,
  true)), EOper.mk (some 18) (EOp.fa 1 (Opd.t 17)) (some (16, true)), EOper.mk (some 19) (EOp.ld false 1 (Opd.t 18)) (some (16, true)), EOper.mk (some 20) (EOp.bin .rem
  (Opd.t 19) (Opd.c (V.int .u32 (4)))) (some (16, true)), EOper.mk (some 21) (EOp.bin .eql (Opd.t 20) (Opd.c (V.int .u32 (0)))) (some (16, true)), EOper.mk (some 22)
  (EOp.pick (Opd.t 16) (Opd.t 21) (Opd.c (V.bool false))) none, EOper.mk (some 2) (EOp.mv (Opd.t 22)) none]
def b53_3 : EC := EC.ret
def r53_3 : EC := b53_3
def r53_2 : EC := EC.seq b53_2 r53_3
def r53_1 : EC := EC.seq b53_1 r53_2
def r53_0 : EC := EC.seq b53_0 r53_1
def e53 : EFun := EFun.mk 23 [ERes.t 2] r53_0
theorem c53 : cFun Tryd.prog 1 (fun _ => false) Tryd.f53 = some e53 := by kernel_rfl
theorem x53 : Tryd.prog.funcs[53]? = some Tryd.f53 := by kernel_rfl
theorem n53 : (Tryd.f53.name == "runtime.NumGoroutine") = false := by kernel_rfl
/-! 54: window.part.numbers -/
def b54_0 : EC := EC.ops false [EOper.mk (some 1) (EOp.box true 69 (Opd.t 0)) none, EOper.mk (some 2) (EOp.mv (Opd.c (V.bool false))) none]
def b54_1 : EC := EC.ops false [EOper.mk (some 3) (EOp.fa 0 (Opd.t 1)) none, EOper.mk (some 4) (EOp.fa 3 (Opd.t 3)) none, EOper.mk (some 5) (EOp.ld false 1 (Opd.t 4))
  none, EOper.mk (some 6) (EOp.bin .geq (Opd.t 5) (Opd.c (V.int .i64 (-1)))) none, EOper.mk (some 7) (EOp.mv (Opd.t 6)) none, EOper.mk (some 8) (EOp.fa 0 (Opd.t 1)) (some
  (7, true)), EOper.mk (some 9) (EOp.fa 3 (Opd.t 8)) (some (7, true)), EOper.mk (some 10) (EOp.ld false 1 (Opd.t 9)) (some (7, true)), EOper.mk (some 11) (EOp.bin .lss
  (Opd.t 10) (Opd.c (V.int .i64 (8)))) (some (7, true)), EOper.mk (some 12) (EOp.pick (Opd.t 7) (Opd.t 11) (Opd.c (V.bool false))) none, EOper.mk (some 13) (EOp.mv (Opd.t
  12)) none, EOper.mk (some 14) (EOp.fa 0 (Opd.t 1)) (some (13, true)), EOper.mk (some 15) (EOp.fa 4 (Opd.t 14)) (some (13, true)), EOper.mk (some 16) (EOp.ld false 1
  (Opd.t 15)) (some (13, true)), EOper.mk (some 17) (EOp.bin .geq (Opd.t 16) (Opd.c (V.int .i64 (-1)))) (some (13, true)), EOper.mk (some 18) (EOp.pick (Opd.t 13) (Opd.t
  17) (Opd.c (V.bool false))) none, EOper.mk (some 19) (EOp.mv (Opd.t 18)) none, EOper.mk (some 20) (EOp.fa 0 (Opd.t 1)) (some (19, true)), EOper.mk (some 21) (EOp.fa 4
  (Opd.t 20)) (some (19, true)), EOper.mk (some 22) (EOp.ld false 1 (Opd.t 21)) (some (19, true)), EOper.mk (some 23) (EOp.bin .lss (Opd.t 22) (Opd.c (V.int .i64 (8))))
  (some (19, true)), EOper.mk (some 24) (EOp.pick (Opd.t 19) (Opd.t 23) (Opd.c (V.bool false))) none, EOper.mk (some 2) (EOp.mv (Opd.t 24)) none]
def b54_2 : EC := EC.ret
def r54_2 : EC := b54_2
def r54_1 : EC := EC.seq b54_1 r54_2
def r54_0 : EC := EC.seq b54_0 r54_1
def e54 : EFun := EFun.mk 25 [ERes.t 2] r54_0
theorem c54 : cFun Tryd.prog 1 (fun _ => false) Tryd.f54 = some e54 := by kernel_rfl
theorem x54 : Tryd.prog.funcs[54]? = some Tryd.f54 := by kernel_rfl
theorem n54 : (Tryd.f54.name == "runtime.NumGoroutine") = false := by kernel_rfl
/-! 55: window.part.right$1 -/
def b55_0 : EC := EC.ops false [EOper.mk (some 2) (EOp.mv (Opd.c (V.bool false))) none]
def b55_1 : EC := EC.ops false [EOper.mk (some 3) (EOp.mv (Opd.t 0)) none, EOper.mk (some 4) (EOp.call (Opd.t 3) []) none, EOper.mk (some 5) (EOp.un .not (Opd.t 4)) none,
  EOper.mk (some 2) (EOp.mv (Opd.t 5)) none]
def b55_2 : EC := EC.ret
def r55_2 : EC := b55_2
def r55_1 : EC := EC.seq b55_1 r55_2
def r55_0 : EC := EC.seq b55_0 r55_1
def e55 : EFun := EFun.mk 6 [ERes.t 2] r55_0
theorem c55 : cFun Tryd.prog 1 (fun _ => false) Tryd.f55 = some e55 := by kernel_rfl
theorem x55 : Tryd.prog.funcs[55]? = some Tryd.f55 := by kernel_rfl
theorem n55 : (Tryd.f55.name == "runtime.NumGoroutine") = false := by kernel_rfl
/-! 56: septumref04.Right -/
def b56_0 : EC := EC.ops false [EOper.mk (some 1) (EOp.box true 28 (Opd.t 0)) none, EOper.mk (some 2) (EOp.mv (Opd.c (V.bool false))) none]
def b56_1 : EC := EC.ops false [EOper.mk (some 6) (EOp.fa 4 (Opd.t 1)) none, EOper.mk (some 7) (EOp.ld false 1 (Opd.t 6)) none, EOper.mk (some 8) (EOp.fa 3 (Opd.t 1))
  none, EOper.mk (some 9) (EOp.ld false 1 (Opd.t 8)) none, EOper.mk (some 10) (EOp.call (Opd.f 67) [Opd.t 7, Opd.t 9]) none, EOper.mk (some 5) (EOp.mv (Opd.t 10)) none,
  EOper.mk (some 11) (EOp.ext (Opd.t 5) 0) none, EOper.mk (some 12) (EOp.ext (Opd.t 5) 1) none, EOper.mk (some 3) (EOp.mv (Opd.t 11)) none, EOper.mk (some 4) (EOp.mv
  (Opd.t 12)) none]
def b56_2 : EC := EC.ops false [EOper.mk (some 13) (EOp.fa 0 (Opd.t 1)) none, EOper.mk (some 14) (EOp.ld false 1 (Opd.t 13)) none, EOper.mk (some 15) (EOp.bin .geq (Opd.t
  14) (Opd.c (V.int .i64 (0)))) none, EOper.mk (some 16) (EOp.mv (Opd.t 15)) none, EOper.mk (some 17) (EOp.fa 0 (Opd.t 1)) (some (16, true)), EOper.mk (some 18) (EOp.ld
  false 1 (Opd.t 17)) (some (16, true)), EOper.mk (some 19) (EOp.bin .lss (Opd.t 18) (Opd.c (V.int .i64 (8)))) (some (16, true)), EOper.mk (some 20) (EOp.pick (Opd.t 16)
  (Opd.t 19) (Opd.c (V.bool false))) none, EOper.mk (some 21) (EOp.mv (Opd.t 20)) none, EOper.mk (some 22) (EOp.fa 2 (Opd.t 1)) (some (21, true)), EOper.mk (some 23)
  (EOp.ld false 1 (Opd.t 22)) (some (21, true)), EOper.mk (some 24) (EOp.fa 3 (Opd.t 1)) (some (21, true)), EOper.mk (some 25) (EOp.ld false 1 (Opd.t 24)) (some (21,
  true)), EOper.mk (some 26) (EOp.call (Opd.f 68) [Opd.t 23, Opd.t 25]) (some (21, true)), EOper.mk (some 27) (EOp.pick (Opd.t 21) (Opd.t 26) (Opd.c (V.bool false))) none,
  EOper.mk (some 28) (EOp.mv (Opd.t 27)) none, EOper.mk (some 29) (EOp.mv (Opd.t 4)) (some (28, true)), EOper.mk (some 30) (EOp.pick (Opd.t 28) (Opd.t 29) (Opd.c (V.bool
  false))) none, EOper.mk (some 31) (EOp.mv (Opd.t 30)) none, EOper.mk (some 32) (EOp.mv (Opd.t 3)) (some (31, true)), EOper.mk (some 33) (EOp.fa 4 (Opd.t 1)) (some (31,
  true)), EOper.mk (some 34) (EOp.ld false 1 (Opd.t 33)) (some (31, true)), EOper.mk (some 35) (EOp.bin .eql (Opd.t 32) (Opd.t 34)) (some (31, true)), EOper.mk (some 36)
  (EOp.pick (Opd.t 31) (Opd.t 35) (Opd.c (V.bool false))) none, EOper.mk (some 37) (EOp.mv (Opd.t 36)) none, EOper.mk (some 38) (EOp.fa 1 (Opd.t 1)) (some (37, true)),
  EOper.mk (some 39) (EOp.ld false 1 (Opd.t 38)) (some (37, true)), EOper.mk (some 40) (EOp.mv (Opd.t 39)) (some (37, true)), EOper.mk (some 41) (EOp.fa 4 (Opd.t 1)) (some
  (40, false)), EOper.mk (some 42) (EOp.ld false 1 (Opd.t 41)) (some (40, false)), EOper.mk (some 43) (EOp.bin .eql (Opd.t 42) (Opd.c (V.int .u32 (0)))) (some (40,
  false)), EOper.mk (some 44) (EOp.pick (Opd.t 40) (Opd.c (V.bool true)) (Opd.t 43)) (some (37, true)), EOper.mk (some 45) (EOp.pick (Opd.t 37) (Opd.t 44) (Opd.c (V.bool
  false))) none, EOper.mk (some 2) (EOp.mv (Opd.t 45)) none]
def b56_3 : EC := EC.ret
def r56_3 : EC := b56_3
def r56_2 : EC := EC.seq b56_2 r56_3
def r56_1 : EC := EC.seq b56_1 r56_2
def r56_0 : EC := EC.seq b56_0 r56_1
def e56 : EFun := EFun.mk 46 [ERes.t 2] r56_0
theorem c56 : cFun Tryd.prog 1 (fun _ => false) Tryd.f56 = some e56 := by kernel_rfl
theorem x56 : Tryd.prog.funcs[56]? = some Tryd.f56 := by kernel_rfl
theorem n56 : (Tryd.f56.name == "runtime.NumGoroutine") = false := by kernel_rfl
/-! 57: septumref02.Right -/
def b57_0 : EC := EC.ops false [EOper.mk (some 1) (EOp.box true 41 (Opd.t 0)) none, EOper.mk (some 2) (EOp.mv (Opd.c (V.bool false))) none]
def b57_1 : EC := EC.ops false [EOper.mk (some 3) (EOp.fa 0 (Opd.t 1)) none, EOper.mk (some 4) (EOp.ld false 1 (Opd.t 3)) none, EOper.mk (some 5) (EOp.fa 1 (Opd.t 1))
  none, EOper.mk (some 6) (EOp.ld false 1 (Opd.t 5)) none, EOper.mk (some 7) (EOp.bin .leq (Opd.t 4) (Opd.t 6)) none, EOper.mk (some 2) (EOp.mv (Opd.t 7)) none]
def b57_2 : EC := EC.ret
def r57_2 : EC := b57_2
def r57_1 : EC := EC.seq b57_1 r57_2
def r57_0 : EC := EC.seq b57_0 r57_1
def e57 : EFun := EFun.mk 8 [ERes.t 2] r57_0
theorem c57 : cFun Tryd.prog 1 (fun _ => false) Tryd.f57 = some e57 := by kernel_rfl
theorem x57 : Tryd.prog.funcs[57]? = some Tryd.f57 := by kernel_rfl
theorem n57 : (Tryd.f57.name == "runtime.NumGoroutine") = false := by kernel_rfl
/-! 58: slices.ContainsFunc:api.Reach -/
def b58_0 : EC := EC.ops false [EOper.mk (some 4) (EOp.mv (Opd.c (V.bool false))) none]
def b58_1 : EC := EC.ops false [EOper.mk (some 5) (EOp.mv (Opd.t 0)) none, EOper.mk (some 6) (EOp.mv (Opd.t 1)) none, EOper.mk (some 7) (EOp.call (Opd.f 48) [Opd.t 5,
  Opd.t 6]) none, EOper.mk (some 8) (EOp.bin .geq (Opd.t 7) (Opd.c (V.int .i64 (0)))) none, EOper.mk (some 4) (EOp.mv (Opd.t 8)) none]
def b58_2 : EC := EC.ret
def r58_2 : EC := b58_2
def r58_1 : EC := EC.seq b58_1 r58_2
def r58_0 : EC := EC.seq b58_0 r58_1
def e58 : EFun := EFun.mk 9 [ERes.t 4] r58_0
theorem c58 : cFun Tryd.prog 1 (fun _ => false) Tryd.f58 = some e58 := by kernel_rfl
theorem x58 : Tryd.prog.funcs[58]? = some Tryd.f58 := by kernel_rfl
theorem n58 : (Tryd.f58.name == "runtime.NumGoroutine") = false := by kernel_rfl
/-! 59: reach.Apart$1 -/
def b59_0 : EC := EC.ops false [EOper.mk (some 2) (EOp.box true 41 (Opd.t 0)) none, EOper.mk (some 3) (EOp.mv (Opd.c (V.bool false))) none]
def b59_1 : EC := EC.ops false [EOper.mk (some 4) (EOp.ld true 2 (Opd.t 2)) none, EOper.mk (some 5) (EOp.ld true 2 (Opd.t 1)) none, EOper.mk (some 6) (EOp.call (Opd.f 35)
  [Opd.t 4, Opd.t 5, Opd.f 60]) none, EOper.mk (some 3) (EOp.mv (Opd.t 6)) none]
def b59_2 : EC := EC.ret
def r59_2 : EC := b59_2
def r59_1 : EC := EC.seq b59_1 r59_2
def r59_0 : EC := EC.seq b59_0 r59_1
def e59 : EFun := EFun.mk 7 [ERes.t 3] r59_0
theorem c59 : cFun Tryd.prog 1 (fun _ => false) Tryd.f59 = some e59 := by kernel_rfl
theorem x59 : Tryd.prog.funcs[59]? = some Tryd.f59 := by kernel_rfl
theorem n59 : (Tryd.f59.name == "runtime.NumGoroutine") = false := by kernel_rfl
/-! 60: reach.ends.meets -/
def b60_0 : EC := EC.ops false [EOper.mk (some 2) (EOp.box true 66 (Opd.t 0)) none, EOper.mk (some 3) (EOp.box true 66 (Opd.t 1)) none, EOper.mk (some 4) (EOp.mv (Opd.c
  (V.bool false))) none]
def b60_1 : EC := EC.ops false [EOper.mk (some 5) (EOp.ld true 2 (Opd.t 2)) none, EOper.mk (some 6) (EOp.call (Opd.f 50) [Opd.t 5]) none, EOper.mk (some 7) (EOp.mv (Opd.t
  6)) none, EOper.mk (some 8) (EOp.ld true 2 (Opd.t 3)) (some (7, true)), EOper.mk (some 9) (EOp.call (Opd.f 50) [Opd.t 8]) (some (7, true)), EOper.mk (some 10) (EOp.pick
  (Opd.t 7) (Opd.t 9) (Opd.c (V.bool false))) none, EOper.mk (some 11) (EOp.mv (Opd.t 10)) none, EOper.mk (some 12) (EOp.ld true 2 (Opd.t 2)) (some (11, true)), EOper.mk
  (some 13) (EOp.ld true 2 (Opd.t 3)) (some (11, true)), EOper.mk (some 14) (EOp.call (Opd.f 69) [Opd.t 12, Opd.t 13]) (some (11, true)), EOper.mk (some 15) (EOp.call
  (Opd.f 50) [Opd.t 14]) (some (11, true)), EOper.mk (some 16) (EOp.pick (Opd.t 11) (Opd.t 15) (Opd.c (V.bool false))) none, EOper.mk (some 4) (EOp.mv (Opd.t 16)) none]
def b60_2 : EC := EC.ret
def r60_2 : EC := b60_2
def r60_1 : EC := EC.seq b60_1 r60_2
def r60_0 : EC := EC.seq b60_0 r60_1
def e60 : EFun := EFun.mk 17 [ERes.t 4] r60_0
theorem c60 : cFun Tryd.prog 1 (fun _ => false) Tryd.f60 = some e60 := by kernel_rfl
theorem x60 : Tryd.prog.funcs[60]? = some Tryd.f60 := by kernel_rfl
theorem n60 : (Tryd.f60.name == "runtime.NumGoroutine") = false := by kernel_rfl
/-! 61: access.record.world -/
def b61_0 : EC := EC.ops false [EOper.mk (some 1) (EOp.box true 74 (Opd.t 0)) none, EOper.mk (some 2) (EOp.mv (Opd.c (V.bool false))) none]
def b61_1 : EC := EC.ops false [EOper.mk (some 3) (EOp.fa 0 (Opd.t 1)) none, EOper.mk (some 4) (EOp.fa 0 (Opd.t 3)) none, EOper.mk (some 5) (EOp.ld false 1 (Opd.t 4))
  none, EOper.mk (some 6) (EOp.bin .geq (Opd.t 5) (Opd.c (V.int .i64 (0)))) none, EOper.mk (some 7) (EOp.mv (Opd.t 6)) none, EOper.mk (some 8) (EOp.fa 0 (Opd.t 1)) (some
  (7, true)), EOper.mk (some 9) (EOp.fa 0 (Opd.t 8)) (some (7, true)), EOper.mk (some 10) (EOp.ld false 1 (Opd.t 9)) (some (7, true)), EOper.mk (some 11) (EOp.bin .lss
  (Opd.t 10) (Opd.c (V.int .i64 (8)))) (some (7, true)), EOper.mk (some 12) (EOp.pick (Opd.t 7) (Opd.t 11) (Opd.c (V.bool false))) none, EOper.mk (some 2) (EOp.mv (Opd.t
  12)) none]
def b61_2 : EC := EC.ret
def r61_2 : EC := b61_2
def r61_1 : EC := EC.seq b61_1 r61_2
def r61_0 : EC := EC.seq b61_0 r61_1
def e61 : EFun := EFun.mk 13 [ERes.t 2] r61_0
theorem c61 : cFun Tryd.prog 1 (fun _ => false) Tryd.f61 = some e61 := by kernel_rfl
theorem x61 : Tryd.prog.funcs[61]? = some Tryd.f61 := by kernel_rfl
theorem n61 : (Tryd.f61.name == "runtime.NumGoroutine") = false := by kernel_rfl
/-! 62: access.record.place -/
def b62_0 : EC := EC.ops false [EOper.mk (some 1) (EOp.box true 74 (Opd.t 0)) none, EOper.mk (some 2) (EOp.mv (Opd.c (V.bool false))) none]
def b62_1 : EC := EC.ops false [EOper.mk (some 3) (EOp.fa 0 (Opd.t 1)) none, EOper.mk (some 4) (EOp.fa 2 (Opd.t 3)) none, EOper.mk (some 5) (EOp.ld false 1 (Opd.t 4))
  none, EOper.mk (some 6) (EOp.fa 0 (Opd.t 1)) none, EOper.mk (some 7) (EOp.fa 3 (Opd.t 6)) none, EOper.mk (some 8) (EOp.ld false 1 (Opd.t 7)) none, EOper.mk (some 9)
  (EOp.call (Opd.f 70) [Opd.t 5, Opd.t 8]) none, EOper.mk (some 2) (EOp.mv (Opd.t 9)) none]
def b62_2 : EC := EC.ret
def r62_2 : EC := b62_2
def r62_1 : EC := EC.seq b62_1 r62_2
def r62_0 : EC := EC.seq b62_0 r62_1
def e62 : EFun := EFun.mk 10 [ERes.t 2] r62_0
theorem c62 : cFun Tryd.prog 1 (fun _ => false) Tryd.f62 = some e62 := by kernel_rfl
theorem x62 : Tryd.prog.funcs[62]? = some Tryd.f62 := by kernel_rfl
theorem n62 : (Tryd.f62.name == "runtime.NumGoroutine") = false := by kernel_rfl
/-! 63: access.record.data -/
def b63_0 : EC := EC.ops false [EOper.mk (some 1) (EOp.box true 74 (Opd.t 0)) none, EOper.mk (some 2) (EOp.mv (Opd.c (V.bool false))) none]
def b63_1 : EC := EC.ops false [EOper.mk (some 6) (EOp.fa 0 (Opd.t 1)) none, EOper.mk (some 7) (EOp.fa 4 (Opd.t 6)) none, EOper.mk (some 8) (EOp.ld false 1 (Opd.t 7))
  none, EOper.mk (some 9) (EOp.fa 0 (Opd.t 1)) none, EOper.mk (some 10) (EOp.fa 3 (Opd.t 9)) none, EOper.mk (some 11) (EOp.ld false 1 (Opd.t 10)) none, EOper.mk (some 12)
  (EOp.call (Opd.f 71) [Opd.t 8, Opd.t 11]) none, EOper.mk (some 5) (EOp.mv (Opd.t 12)) none, EOper.mk (some 13) (EOp.ext (Opd.t 5) 0) none, EOper.mk (some 14) (EOp.ext
  (Opd.t 5) 1) none, EOper.mk (some 3) (EOp.mv (Opd.t 13)) none, EOper.mk (some 4) (EOp.mv (Opd.t 14)) none]
def b63_2 : EC := EC.ops false [EOper.mk (some 15) (EOp.mv (Opd.t 4)) none, EOper.mk (some 16) (EOp.mv (Opd.t 15)) none, EOper.mk (some 17) (EOp.mv (Opd.t 3)) (some (16,
  true)), EOper.mk (some 18) (EOp.fa 0 (Opd.t 1)) (some (16, true)), EOper.mk (some 19) (EOp.fa 4 (Opd.t 18)) (some (16, true)), EOper.mk (some 20) (EOp.ld false 1 (Opd.t
  19)) (some (16, true)), EOper.mk (some 21) (EOp.bin .eql (Opd.t 17) (Opd.t 20)) (some (16, true)), EOper.mk (some 22) (EOp.pick (Opd.t 16) (Opd.t 21) (Opd.c (V.bool
  false))) none, EOper.mk (some 23) (EOp.mv (Opd.t 22)) none, EOper.mk (some 24) (EOp.fa 0 (Opd.t 1)) (some (23, true)), EOper.mk (some 25) (EOp.fa 1 (Opd.t 24)) (some
  (23, true)), EOper.mk (some 26) (EOp.ld false 1 (Opd.t 25)) (some (23, true)), EOper.mk (some 27) (EOp.mv (Opd.t 26)) (some (23, true)), EOper.mk (some 28) (EOp.fa 0
  (Opd.t 1)) (some (27, false)), EOper.mk (some 29) (EOp.fa 4 (Opd.t 28)) (some (27, false)), EOper.mk (some 30) (EOp.ld false 1 (Opd.t 29)) (some (27, false)), EOper.mk
  (some 31) (EOp.bin .eql (Opd.t 30) (Opd.c (V.int .u32 (0)))) (some (27, false)), EOper.mk (some 32) (EOp.pick (Opd.t 27) (Opd.c (V.bool true)) (Opd.t 31)) (some (23,
  true)), EOper.mk (some 33) (EOp.pick (Opd.t 23) (Opd.t 32) (Opd.c (V.bool false))) none, EOper.mk (some 2) (EOp.mv (Opd.t 33)) none]
def b63_3 : EC := EC.ret
def r63_3 : EC := b63_3
def r63_2 : EC := EC.seq b63_2 r63_3
def r63_1 : EC := EC.seq b63_1 r63_2
def r63_0 : EC := EC.seq b63_0 r63_1
def e63 : EFun := EFun.mk 34 [ERes.t 2] r63_0
theorem c63 : cFun Tryd.prog 1 (fun _ => false) Tryd.f63 = some e63 := by kernel_rfl
theorem x63 : Tryd.prog.funcs[63]? = some Tryd.f63 := by kernel_rfl
theorem n63 : (Tryd.f63.name == "runtime.NumGoroutine") = false := by kernel_rfl
/-! 64: access.record.right$1 -/
def b64_0 : EC := EC.ops false [EOper.mk (some 2) (EOp.mv (Opd.c (V.bool false))) none]
def b64_1 : EC := EC.ops false [EOper.mk (some 3) (EOp.mv (Opd.t 0)) none, EOper.mk (some 4) (EOp.call (Opd.t 3) []) none, EOper.mk (some 5) (EOp.un .not (Opd.t 4)) none,
  EOper.mk (some 2) (EOp.mv (Opd.t 5)) none]
def b64_2 : EC := EC.ret
def r64_2 : EC := b64_2
def r64_1 : EC := EC.seq b64_1 r64_2
def r64_0 : EC := EC.seq b64_0 r64_1
def e64 : EFun := EFun.mk 6 [ERes.t 2] r64_0
theorem c64 : cFun Tryd.prog 1 (fun _ => false) Tryd.f64 = some e64 := by kernel_rfl
theorem x64 : Tryd.prog.funcs[64]? = some Tryd.f64 := by kernel_rfl
theorem n64 : (Tryd.f64.name == "runtime.NumGoroutine") = false := by kernel_rfl
/-! 65: slices.IndexFunc:func()_bool -/
def l65_0p0 : EC := EC.ops false [EOper.mk (some 9) (EOp.bin .lss (Opd.t 8) (Opd.t 7)) none]
def l65_0p1 : EC := EC.cond (Opd.t 9) EC.skip (EC.exit 0)
def l65_0p2 : EC := EC.block 1 (EC.seq (EC.ops false [EOper.mk (some 10) (EOp.mv (Opd.t 8)) none, EOper.mk (some 5) (EOp.mv (Opd.t 10)) none]) (EC.seq (EC.ops false
  [EOper.mk (some 11) (EOp.mv (Opd.t 1)) none, EOper.mk (some 12) (EOp.mv (Opd.t 0)) none, EOper.mk (some 13) (EOp.mv (Opd.t 5)) none, EOper.mk (some 14) (EOp.ixs 1 (Opd.t
  12) (Opd.t 13)) none, EOper.mk (some 15) (EOp.ld false 1 (Opd.t 14)) none, EOper.mk (some 16) (EOp.call (Opd.t 11) [Opd.t 15]) none]) (EC.cond (Opd.t 16) (EC.seq (EC.ops
  false [EOper.mk (some 17) (EOp.mv (Opd.t 5)) none, EOper.mk (some 4) (EOp.mv (Opd.t 17)) none]) EC.ret) EC.skip)))
def l65_0p3 : EC := EC.ops false [EOper.mk (some 18) (EOp.bin .add (Opd.t 8) (Opd.c (V.int .i64 (1)))) none, EOper.mk (some 8) (EOp.mv (Opd.t 18)) none]
def l65_0r3 : EC := l65_0p3
def l65_0r2 : EC := EC.seq l65_0p2 l65_0r3
def l65_0r1 : EC := EC.seq l65_0p1 l65_0r2
def l65_0r0 : EC := EC.seq l65_0p0 l65_0r1
def l65_0 : EC := l65_0r0
def b65_0 : EC := EC.ops false [EOper.mk (some 4) (EOp.mv (Opd.c (V.int .i64 (0)))) none]
def b65_1 : EC := EC.seq (EC.ops false [EOper.mk (some 6) (EOp.mv (Opd.t 0)) none, EOper.mk (some 7) (EOp.len false (Opd.t 6)) none, EOper.mk (some 8) (EOp.mv (Opd.c
  (V.int .i64 (0)))) none]) (EC.block 0 (EC.loop l65_0))
def b65_2 : EC := EC.ops false [EOper.mk (some 4) (EOp.mv (Opd.c (V.int .i64 (-1)))) none]
def b65_3 : EC := EC.ret
def r65_3 : EC := b65_3
def r65_2 : EC := EC.seq b65_2 r65_3
def r65_1 : EC := EC.seq b65_1 r65_2
def r65_0 : EC := EC.seq b65_0 r65_1
def e65 : EFun := EFun.mk 19 [ERes.t 4] r65_0
theorem c65 : cFun Tryd.prog 1 (fun _ => false) Tryd.f65 = some e65 := by kernel_rfl
theorem x65 : Tryd.prog.funcs[65]? = some Tryd.f65 := by kernel_rfl
theorem n65 : (Tryd.f65.name == "runtime.NumGoroutine") = false := by kernel_rfl
/-! 66: window.sizes -/
def b66_0 : EC := EC.ops false [EOper.mk (some 0) (EOp.mv (Opd.c (V.mp none))) none]
def b66_1 : EC := EC.ops false [EOper.mk (some 1) (EOp.mv (Opd.f 72)) none]
def b66_2 : EC := EC.ops false [EOper.mk (some 2) EOp.mkmap none, EOper.mk none (EOp.mset (Opd.t 2) (Opd.c (V.int .i64 (1))) (Opd.f 73)) none, EOper.mk (some 3) (EOp.mv
  (Opd.t 1)) none, EOper.mk none (EOp.mset (Opd.t 2) (Opd.c (V.int .i64 (2))) (Opd.t 3)) none, EOper.mk (some 4) (EOp.mv (Opd.t 1)) none, EOper.mk none (EOp.mset (Opd.t 2)
  (Opd.c (V.int .i64 (3))) (Opd.t 4)) none, EOper.mk (some 5) (EOp.mv (Opd.t 1)) none, EOper.mk none (EOp.mset (Opd.t 2) (Opd.c (V.int .i64 (4))) (Opd.t 5)) none, EOper.mk
  (some 6) (EOp.mv (Opd.t 1)) none, EOper.mk none (EOp.mset (Opd.t 2) (Opd.c (V.int .i64 (5))) (Opd.t 6)) none, EOper.mk (some 7) (EOp.mv (Opd.t 1)) none, EOper.mk none
  (EOp.mset (Opd.t 2) (Opd.c (V.int .i64 (6))) (Opd.t 7)) none, EOper.mk (some 8) (EOp.mv (Opd.t 2)) none, EOper.mk (some 0) (EOp.mv (Opd.t 8)) none]
def b66_3 : EC := EC.ret
def r66_3 : EC := b66_3
def r66_2 : EC := EC.seq b66_2 r66_3
def r66_1 : EC := EC.seq b66_1 r66_2
def r66_0 : EC := EC.seq b66_0 r66_1
def e66 : EFun := EFun.mk 9 [ERes.t 0] r66_0
theorem c66 : cFun Tryd.prog 1 (fun _ => false) Tryd.f66 = some e66 := by kernel_rfl
theorem x66 : Tryd.prog.funcs[66]? = some Tryd.f66 := by kernel_rfl
theorem n66 : (Tryd.f66.name == "runtime.NumGoroutine") = false := by kernel_rfl
/-! 67: septumref01.Low -/
def b67_0 : EC := EC.ops false [EOper.mk (some 4) (EOp.mv (Opd.c (V.int .u32 (0)))) none, EOper.mk (some 5) (EOp.mv (Opd.c (V.bool false))) none]
def b67_1 : EC := EC.seq (EC.ops false [EOper.mk (some 8) (EOp.mv (Opd.t 1)) none, EOper.mk (some 9) (EOp.call (Opd.f 74) [Opd.t 8]) none, EOper.mk (some 10) (EOp.un .not
  (Opd.t 9)) none]) (EC.cond (Opd.t 10) (EC.seq (EC.ops false [EOper.mk (some 4) (EOp.mv (Opd.c (V.int .u32 (0)))) none, EOper.mk (some 5) (EOp.mv (Opd.c (V.bool false)))
  none]) EC.ret) EC.skip)
def b67_2 : EC := EC.ops false [EOper.mk (some 12) (EOp.mv (Opd.t 0)) none, EOper.mk (some 13) (EOp.mv (Opd.t 1)) none, EOper.mk (some 14) (EOp.call (Opd.f 76) [Opd.t 12,
  Opd.t 13]) none, EOper.mk (some 15) (EOp.call (Opd.f 75) [Opd.t 14]) none, EOper.mk (some 11) (EOp.mv (Opd.t 15)) none, EOper.mk (some 16) (EOp.ext (Opd.t 11) 0) none,
  EOper.mk (some 17) (EOp.ext (Opd.t 11) 1) none, EOper.mk (some 6) (EOp.mv (Opd.t 16)) none, EOper.mk (some 7) (EOp.mv (Opd.t 17)) none]
def b67_3 : EC := EC.ops false [EOper.mk (some 18) (EOp.mv (Opd.t 6)) none, EOper.mk (some 4) (EOp.mv (Opd.t 18)) none, EOper.mk (some 5) (EOp.mv (Opd.c (V.bool true)))
  none]
def b67_4 : EC := EC.ret
def r67_4 : EC := b67_4
def r67_3 : EC := EC.seq b67_3 r67_4
def r67_2 : EC := EC.seq b67_2 r67_3
def r67_1 : EC := EC.seq b67_1 r67_2
def r67_0 : EC := EC.seq b67_0 r67_1
def e67 : EFun := EFun.mk 19 [ERes.t 4, ERes.t 5] r67_0
theorem c67 : cFun Tryd.prog 1 (fun _ => false) Tryd.f67 = some e67 := by kernel_rfl
theorem x67 : Tryd.prog.funcs[67]? = some Tryd.f67 := by kernel_rfl
theorem n67 : (Tryd.f67.name == "runtime.NumGoroutine") = false := by kernel_rfl
/-! 68: septumref03.Aligned -/
def b68_0 : EC := EC.ops false [EOper.mk (some 4) (EOp.mv (Opd.c (V.bool false))) none]
def b68_1 : EC := EC.ops false [EOper.mk (some 5) (EOp.mv (Opd.t 1)) none, EOper.mk (some 6) (EOp.call (Opd.f 74) [Opd.t 5]) none, EOper.mk (some 7) (EOp.mv (Opd.t 6))
  none, EOper.mk (some 8) (EOp.mv (Opd.t 0)) (some (7, true)), EOper.mk (some 9) (EOp.conv .i64 (Opd.t 8)) (some (7, true)), EOper.mk (some 10) (EOp.mv (Opd.t 1)) (some
  (7, true)), EOper.mk (some 11) (EOp.bin .rem (Opd.t 9) (Opd.t 10)) (some (7, true)), EOper.mk (some 12) (EOp.bin .eql (Opd.t 11) (Opd.c (V.int .i64 (0)))) (some (7,
  true)), EOper.mk (some 13) (EOp.pick (Opd.t 7) (Opd.t 12) (Opd.c (V.bool false))) none, EOper.mk (some 4) (EOp.mv (Opd.t 13)) none]
def b68_2 : EC := EC.ret
def r68_2 : EC := b68_2
def r68_1 : EC := EC.seq b68_1 r68_2
def r68_0 : EC := EC.seq b68_0 r68_1
def e68 : EFun := EFun.mk 14 [ERes.t 4] r68_0
theorem c68 : cFun Tryd.prog 1 (fun _ => false) Tryd.f68 = some e68 := by kernel_rfl
theorem x68 : Tryd.prog.funcs[68]? = some Tryd.f68 := by kernel_rfl
theorem n68 : (Tryd.f68.name == "runtime.NumGoroutine") = false := by kernel_rfl
/-! 69: reach.ends.both -/
def b69_0 : EC := EC.ops false [EOper.mk (some 2) (EOp.box true 66 (Opd.t 0)) none, EOper.mk (some 3) (EOp.box true 66 (Opd.t 1)) none, EOper.mk (some 4) (EOp.alloc true
  66 [V.int .u32 (0), V.int .u32 (0)]) none]
def b69_1 : EC := EC.ops false [EOper.mk (some 5) (EOp.fa 0 (Opd.t 2)) none, EOper.mk (some 6) (EOp.fa 0 (Opd.t 5)) none, EOper.mk (some 7) (EOp.ld false 1 (Opd.t 6))
  none, EOper.mk (some 8) (EOp.fa 0 (Opd.t 3)) none, EOper.mk (some 9) (EOp.fa 0 (Opd.t 8)) none, EOper.mk (some 10) (EOp.ld false 1 (Opd.t 9)) none, EOper.mk (some 11)
  (EOp.mm true (Opd.t 7) (Opd.t 10)) none, EOper.mk (some 12) (EOp.fa 0 (Opd.t 2)) none, EOper.mk (some 13) (EOp.fa 1 (Opd.t 12)) none, EOper.mk (some 14) (EOp.ld false 1
  (Opd.t 13)) none, EOper.mk (some 15) (EOp.fa 0 (Opd.t 3)) none, EOper.mk (some 16) (EOp.fa 1 (Opd.t 15)) none, EOper.mk (some 17) (EOp.ld false 1 (Opd.t 16)) none,
  EOper.mk (some 18) (EOp.mm false (Opd.t 14) (Opd.t 17)) none, EOper.mk (some 19) (EOp.build [V.int .u32 (0), V.int .u32 (0)] [(0, 1, Opd.t 11), (1, 1, Opd.t 18)]) none,
  EOper.mk (some 20) (EOp.build [V.int .u32 (0), V.int .u32 (0)] [(0, 2, Opd.t 19)]) none, EOper.mk none (EOp.st 2 (Opd.t 4) (Opd.t 20)) none]
def b69_2 : EC := EC.ret
def r69_2 : EC := b69_2
def r69_1 : EC := EC.seq b69_1 r69_2
def r69_0 : EC := EC.seq b69_0 r69_1
def e69 : EFun := EFun.mk 21 [ERes.c 4 2] r69_0
theorem c69 : cFun Tryd.prog 1 (fun _ => false) Tryd.f69 = some e69 := by kernel_rfl
theorem x69 : Tryd.prog.funcs[69]? = some Tryd.f69 := by kernel_rfl
theorem n69 : (Tryd.f69.name == "runtime.NumGoroutine") = false := by kernel_rfl
/-! 70: lane.Aligned -/
def b70_0 : EC := EC.ops false [EOper.mk (some 4) (EOp.mv (Opd.c (V.bool false))) none]
def b70_1 : EC := EC.ops false [EOper.mk (some 5) (EOp.mv (Opd.t 0)) none, EOper.mk (some 6) (EOp.build [V.int .u32 (0)] [(0, 1, Opd.t 5)]) none, EOper.mk (some 7) (EOp.mv
  (Opd.t 1)) none, EOper.mk (some 8) (EOp.build [V.int .u32 (0), V.int .i64 (0)] [(0, 1, Opd.t 6), (1, 1, Opd.t 7)]) none, EOper.mk (some 9) (EOp.call (Opd.f 77) [Opd.t
  8]) none, EOper.mk (some 4) (EOp.mv (Opd.t 9)) none]
def b70_2 : EC := EC.ret
def r70_2 : EC := b70_2
def r70_1 : EC := EC.seq b70_1 r70_2
def r70_0 : EC := EC.seq b70_0 r70_1
def e70 : EFun := EFun.mk 10 [ERes.t 4] r70_0
theorem c70 : cFun Tryd.prog 1 (fun _ => false) Tryd.f70 = some e70 := by kernel_rfl
theorem x70 : Tryd.prog.funcs[70]? = some Tryd.f70 := by kernel_rfl
theorem n70 : (Tryd.f70.name == "runtime.NumGoroutine") = false := by kernel_rfl
/-! 71: word.Low -/
def b71_0 : EC := EC.ops false [EOper.mk (some 4) (EOp.mv (Opd.c (V.int .u32 (0)))) none, EOper.mk (some 5) (EOp.mv (Opd.c (V.bool false))) none]
def b71_1 : EC := EC.seq (EC.ops false [EOper.mk (some 6) (EOp.mv (Opd.t 1)) none, EOper.mk (some 7) (EOp.call (Opd.f 78) [Opd.t 6]) none, EOper.mk (some 8) (EOp.un .not
  (Opd.t 7)) none]) (EC.cond (Opd.t 8) (EC.seq (EC.ops false [EOper.mk (some 4) (EOp.mv (Opd.c (V.int .u32 (0)))) none, EOper.mk (some 5) (EOp.mv (Opd.c (V.bool false)))
  none]) EC.ret) EC.skip)
def b71_2 : EC := EC.ops false [EOper.mk (some 9) (EOp.mv (Opd.t 0)) none, EOper.mk (some 10) (EOp.mv (Opd.t 1)) none, EOper.mk (some 11) (EOp.bin .mul (Opd.c (V.int .i64
  (8))) (Opd.t 10)) none, EOper.mk (some 12) (EOp.bin .shl (Opd.c (V.int .u32 (1))) (Opd.t 11)) none, EOper.mk (some 13) (EOp.bin .sub (Opd.t 12) (Opd.c (V.int .u32 (1))))
  none, EOper.mk (some 14) (EOp.bin .and (Opd.t 9) (Opd.t 13)) none, EOper.mk (some 4) (EOp.mv (Opd.t 14)) none, EOper.mk (some 5) (EOp.mv (Opd.c (V.bool true))) none]
def b71_3 : EC := EC.ret
def r71_3 : EC := b71_3
def r71_2 : EC := EC.seq b71_2 r71_3
def r71_1 : EC := EC.seq b71_1 r71_2
def r71_0 : EC := EC.seq b71_0 r71_1
def e71 : EFun := EFun.mk 15 [ERes.t 4, ERes.t 5] r71_0
theorem c71 : cFun Tryd.prog 1 (fun _ => false) Tryd.f71 = some e71 := by kernel_rfl
theorem x71 : Tryd.prog.funcs[71]? = some Tryd.f71 := by kernel_rfl
theorem n71 : (Tryd.f71.name == "runtime.NumGoroutine") = false := by kernel_rfl
/-! 72: window.sizes$1 -/
def b72_0 : EC := EC.ops false [EOper.mk (some 2) (EOp.mv (Opd.c (V.bool false))) none]
def b72_1 : EC := EC.ops false [EOper.mk (some 3) (EOp.mv (Opd.t 0)) none, EOper.mk (some 4) (EOp.bin .eql (Opd.t 3) (Opd.c (V.int .i64 (32)))) none, EOper.mk (some 2)
  (EOp.mv (Opd.t 4)) none]
def b72_2 : EC := EC.ret
def r72_2 : EC := b72_2
def r72_1 : EC := EC.seq b72_1 r72_2
def r72_0 : EC := EC.seq b72_0 r72_1
def e72 : EFun := EFun.mk 5 [ERes.t 2] r72_0
theorem c72 : cFun Tryd.prog 1 (fun _ => false) Tryd.f72 = some e72 := by kernel_rfl
theorem x72 : Tryd.prog.funcs[72]? = some Tryd.f72 := by kernel_rfl
theorem n72 : (Tryd.f72.name == "runtime.NumGoroutine") = false := by kernel_rfl
/-! 73: window.sizes$2 -/
def b73_0 : EC := EC.ops false [EOper.mk (some 2) (EOp.mv (Opd.c (V.bool false))) none]
def b73_1 : EC := EC.ops false [EOper.mk (some 3) (EOp.mv (Opd.t 0)) none, EOper.mk (some 4) (EOp.bin .geq (Opd.t 3) (Opd.c (V.int .i64 (4)))) none, EOper.mk (some 5)
  (EOp.mv (Opd.t 4)) none, EOper.mk (some 6) (EOp.mv (Opd.t 0)) (some (5, true)), EOper.mk (some 7) (EOp.bin .leq (Opd.t 6) (Opd.c (V.int .i64 (4096)))) (some (5, true)),
  EOper.mk (some 8) (EOp.pick (Opd.t 5) (Opd.t 7) (Opd.c (V.bool false))) none, EOper.mk (some 9) (EOp.mv (Opd.t 8)) none, EOper.mk (some 10) (EOp.mv (Opd.t 0)) (some (9,
  true)), EOper.mk (some 11) (EOp.bin .rem (Opd.t 10) (Opd.c (V.int .i64 (4)))) (some (9, true)), EOper.mk (some 12) (EOp.bin .eql (Opd.t 11) (Opd.c (V.int .i64 (0))))
  (some (9, true)), EOper.mk (some 13) (EOp.pick (Opd.t 9) (Opd.t 12) (Opd.c (V.bool false))) none, EOper.mk (some 2) (EOp.mv (Opd.t 13)) none]
def b73_2 : EC := EC.ret
def r73_2 : EC := b73_2
def r73_1 : EC := EC.seq b73_1 r73_2
def r73_0 : EC := EC.seq b73_0 r73_1
def e73 : EFun := EFun.mk 14 [ERes.t 2] r73_0
theorem c73 : cFun Tryd.prog 1 (fun _ => false) Tryd.f73 = some e73 := by kernel_rfl
theorem x73 : Tryd.prog.funcs[73]? = some Tryd.f73 := by kernel_rfl
theorem n73 : (Tryd.f73.name == "runtime.NumGoroutine") = false := by kernel_rfl
/-! 74: septumref01.Size -/
def b74_0 : EC := EC.ops false [EOper.mk (some 2) (EOp.mv (Opd.c (V.bool false))) none]
def b74_1 : EC := EC.ops false [EOper.mk (some 3) (EOp.mv (Opd.t 0)) none, EOper.mk (some 4) (EOp.bin .eql (Opd.t 3) (Opd.c (V.int .i64 (1)))) none, EOper.mk (some 5)
  (EOp.mv (Opd.t 4)) none, EOper.mk (some 6) (EOp.mv (Opd.t 0)) (some (5, false)), EOper.mk (some 7) (EOp.bin .eql (Opd.t 6) (Opd.c (V.int .i64 (2)))) (some (5, false)),
  EOper.mk (some 8) (EOp.pick (Opd.t 5) (Opd.c (V.bool true)) (Opd.t 7)) none, EOper.mk (some 9) (EOp.mv (Opd.t 8)) none, EOper.mk (some 10) (EOp.mv (Opd.t 0)) (some (9,
  false)), EOper.mk (some 11) (EOp.bin .eql (Opd.t 10) (Opd.c (V.int .i64 (4)))) (some (9, false)), EOper.mk (some 12) (EOp.pick (Opd.t 9) (Opd.c (V.bool true)) (Opd.t
  11)) none, EOper.mk (some 2) (EOp.mv (Opd.t 12)) none]
def b74_2 : EC := EC.ret
def r74_2 : EC := b74_2
def r74_1 : EC := EC.seq b74_1 r74_2
def r74_0 : EC := EC.seq b74_0 r74_1
def e74 : EFun := EFun.mk 13 [ERes.t 2] r74_0
theorem c74 : cFun Tryd.prog 1 (fun _ => false) Tryd.f74 = some e74 := by kernel_rfl
theorem x74 : Tryd.prog.funcs[74]? = some Tryd.f74 := by kernel_rfl
theorem n74 : (Tryd.f74.name == "runtime.NumGoroutine") = false := by kernel_rfl
/-! 75: septumref01.Of -/
def l75_0p0 : EC := EC.seq (EC.ops false [EOper.mk (some 13) (EOp.mv (Opd.t 5)) none, EOper.mk (some 14) (EOp.bin .geq (Opd.t 13) (Opd.c (V.int .i64 (0)))) none]) (EC.cond
  (Opd.t 14) EC.skip (EC.exit 0))
def l75_0p1 : EC := EC.block 1 (EC.ops false [EOper.mk (some 17) (EOp.mv (Opd.t 4)) none, EOper.mk (some 18) (EOp.bin .mul (Opd.c (V.int .u32 (256))) (Opd.t 17)) none,
  EOper.mk (some 19) (EOp.mv (Opd.t 0)) none, EOper.mk (some 20) (EOp.mv (Opd.t 5)) none, EOper.mk (some 21) (EOp.ixs 1 (Opd.t 19) (Opd.t 20)) none, EOper.mk (some 22)
  (EOp.ld false 1 (Opd.t 21)) none, EOper.mk (some 23) (EOp.conv .u32 (Opd.t 22)) none, EOper.mk (some 24) (EOp.bin .add (Opd.t 18) (Opd.t 23)) none, EOper.mk (some 4)
  (EOp.mv (Opd.t 24)) none])
def l75_0p2 : EC := EC.ops false [EOper.mk (some 15) (EOp.mv (Opd.t 5)) none, EOper.mk (some 16) (EOp.bin .sub (Opd.t 15) (Opd.c (V.int .i64 (1)))) none, EOper.mk (some 5)
  (EOp.mv (Opd.t 16)) none]
def l75_0r2 : EC := l75_0p2
def l75_0r1 : EC := EC.seq l75_0p1 l75_0r2
def l75_0r0 : EC := EC.seq l75_0p0 l75_0r1
def l75_0 : EC := l75_0r0
def b75_0 : EC := EC.ops false [EOper.mk (some 2) (EOp.mv (Opd.c (V.int .u32 (0)))) none, EOper.mk (some 3) (EOp.mv (Opd.c (V.bool false))) none]
def b75_1 : EC := EC.seq (EC.ops false [EOper.mk (some 6) (EOp.mv (Opd.t 0)) none, EOper.mk (some 7) (EOp.len false (Opd.t 6)) none, EOper.mk (some 8) (EOp.call (Opd.f 74)
  [Opd.t 7]) none, EOper.mk (some 9) (EOp.un .not (Opd.t 8)) none]) (EC.cond (Opd.t 9) (EC.seq (EC.ops false [EOper.mk (some 2) (EOp.mv (Opd.c (V.int .u32 (0)))) none,
  EOper.mk (some 3) (EOp.mv (Opd.c (V.bool false))) none]) EC.ret) EC.skip)
def b75_2 : EC := EC.ops false [EOper.mk (some 4) (EOp.mv (Opd.c (V.int .u32 (0)))) none]
def b75_3 : EC := EC.seq (EC.ops false [EOper.mk (some 10) (EOp.mv (Opd.t 0)) none, EOper.mk (some 11) (EOp.len false (Opd.t 10)) none, EOper.mk (some 12) (EOp.bin .sub
  (Opd.t 11) (Opd.c (V.int .i64 (1)))) none, EOper.mk (some 5) (EOp.mv (Opd.t 12)) none]) (EC.block 0 (EC.loop l75_0))
def b75_4 : EC := EC.ops false [EOper.mk (some 25) (EOp.mv (Opd.t 4)) none, EOper.mk (some 2) (EOp.mv (Opd.t 25)) none, EOper.mk (some 3) (EOp.mv (Opd.c (V.bool true)))
  none]
def b75_5 : EC := EC.ret
def r75_5 : EC := b75_5
def r75_4 : EC := EC.seq b75_4 r75_5
def r75_3 : EC := EC.seq b75_3 r75_4
def r75_2 : EC := EC.seq b75_2 r75_3
def r75_1 : EC := EC.seq b75_1 r75_2
def r75_0 : EC := EC.seq b75_0 r75_1
def e75 : EFun := EFun.mk 26 [ERes.t 2, ERes.t 3] r75_0
theorem c75 : cFun Tryd.prog 1 (fun _ => false) Tryd.f75 = some e75 := by kernel_rfl
theorem x75 : Tryd.prog.funcs[75]? = some Tryd.f75 := by kernel_rfl
theorem n75 : (Tryd.f75.name == "runtime.NumGoroutine") = false := by kernel_rfl
/-! 76: septumref01.Bytes -/
def l76_0p0 : EC := EC.seq (EC.ops false [EOper.mk (some 7) (EOp.mv (Opd.t 6)) none, EOper.mk (some 8) (EOp.mv (Opd.t 1)) none, EOper.mk (some 9) (EOp.bin .lss (Opd.t 7)
  (Opd.t 8)) none, EOper.mk (some 10) (EOp.mv (Opd.t 9)) none, EOper.mk (some 11) (EOp.mv (Opd.t 1)) (some (10, true)), EOper.mk (some 12) (EOp.call (Opd.f 74) [Opd.t 11])
  (some (10, true)), EOper.mk (some 13) (EOp.pick (Opd.t 10) (Opd.t 12) (Opd.c (V.bool false))) none]) (EC.cond (Opd.t 13) EC.skip (EC.exit 0))
def l76_0p1 : EC := EC.block 1 (EC.seq (EC.ops false [EOper.mk (some 16) (EOp.mv (Opd.t 5)) none, EOper.mk (some 17) (EOp.mv (Opd.t 0)) none, EOper.mk (some 18) (EOp.bin
  .rem (Opd.t 17) (Opd.c (V.int .u32 (256)))) none, EOper.mk (some 19) (EOp.conv .u8 (Opd.t 18)) none, EOper.mk (some 20) (EOp.bslice 5 1 [V.int .u8 (0)] [(0, 1, Opd.t
  19)]) none, EOper.mk (some 21) (EOp.app 5 1 1 [V.int .u8 (0)] (Opd.t 16) (Opd.t 20)) none, EOper.mk (some 5) (EOp.mv (Opd.t 21)) none]) (EC.ops false [EOper.mk (some 22)
  (EOp.mv (Opd.t 0)) none, EOper.mk (some 23) (EOp.bin .quo (Opd.t 22) (Opd.c (V.int .u32 (256)))) none, EOper.mk (some 0) (EOp.mv (Opd.t 23)) none]))
def l76_0p2 : EC := EC.ops false [EOper.mk (some 14) (EOp.mv (Opd.t 6)) none, EOper.mk (some 15) (EOp.bin .add (Opd.t 14) (Opd.c (V.int .i64 (1)))) none, EOper.mk (some 6)
  (EOp.mv (Opd.t 15)) none]
def l76_0r2 : EC := l76_0p2
def l76_0r1 : EC := EC.seq l76_0p1 l76_0r2
def l76_0r0 : EC := EC.seq l76_0p0 l76_0r1
def l76_0 : EC := l76_0r0
def b76_0 : EC := EC.ops false [EOper.mk (some 4) (EOp.mv (Opd.c (V.sl none 0 0))) none]
def b76_1 : EC := EC.ops false [EOper.mk (some 5) (EOp.mv (Opd.c (V.sl none 0 0))) none]
def b76_2 : EC := EC.seq (EC.ops false [EOper.mk (some 6) (EOp.mv (Opd.c (V.int .i64 (0)))) none]) (EC.block 0 (EC.loop l76_0))
def b76_3 : EC := EC.ops false [EOper.mk (some 24) (EOp.mv (Opd.t 5)) none, EOper.mk (some 4) (EOp.mv (Opd.t 24)) none]
def b76_4 : EC := EC.ret
def r76_4 : EC := b76_4
def r76_3 : EC := EC.seq b76_3 r76_4
def r76_2 : EC := EC.seq b76_2 r76_3
def r76_1 : EC := EC.seq b76_1 r76_2
def r76_0 : EC := EC.seq b76_0 r76_1
def e76 : EFun := EFun.mk 25 [ERes.t 4] r76_0
theorem c76 : cFun Tryd.prog 1 (fun _ => false) Tryd.f76 = some e76 := by kernel_rfl
theorem x76 : Tryd.prog.funcs[76]? = some Tryd.f76 := by kernel_rfl
theorem n76 : (Tryd.f76.name == "runtime.NumGoroutine") = false := by kernel_rfl
/-! 77: lane.place.right -/
def b77_0 : EC := EC.ops false [EOper.mk (some 1) (EOp.box true 94 (Opd.t 0)) none, EOper.mk (some 2) (EOp.mv (Opd.c (V.bool false))) none]
def b77_1 : EC := EC.ops false [EOper.mk (some 3) (EOp.fa 1 (Opd.t 1)) none, EOper.mk (some 4) (EOp.ld false 1 (Opd.t 3)) none, EOper.mk (some 5) (EOp.call (Opd.f 78)
  [Opd.t 4]) none, EOper.mk (some 6) (EOp.mv (Opd.t 5)) none, EOper.mk (some 7) (EOp.fa 0 (Opd.t 1)) (some (6, true)), EOper.mk (some 8) (EOp.fa 0 (Opd.t 7)) (some (6,
  true)), EOper.mk (some 9) (EOp.ld false 1 (Opd.t 8)) (some (6, true)), EOper.mk (some 10) (EOp.conv .i64 (Opd.t 9)) (some (6, true)), EOper.mk (some 11) (EOp.fa 1 (Opd.t
  1)) (some (6, true)), EOper.mk (some 12) (EOp.ld false 1 (Opd.t 11)) (some (6, true)), EOper.mk (some 13) (EOp.bin .rem (Opd.t 10) (Opd.t 12)) (some (6, true)), EOper.mk
  (some 14) (EOp.bin .eql (Opd.t 13) (Opd.c (V.int .i64 (0)))) (some (6, true)), EOper.mk (some 15) (EOp.pick (Opd.t 6) (Opd.t 14) (Opd.c (V.bool false))) none, EOper.mk
  (some 2) (EOp.mv (Opd.t 15)) none]
def b77_2 : EC := EC.ret
def r77_2 : EC := b77_2
def r77_1 : EC := EC.seq b77_1 r77_2
def r77_0 : EC := EC.seq b77_0 r77_1
def e77 : EFun := EFun.mk 16 [ERes.t 2] r77_0
theorem c77 : cFun Tryd.prog 1 (fun _ => false) Tryd.f77 = some e77 := by kernel_rfl
theorem x77 : Tryd.prog.funcs[77]? = some Tryd.f77 := by kernel_rfl
theorem n77 : (Tryd.f77.name == "runtime.NumGoroutine") = false := by kernel_rfl
/-! 78: word.Size -/
def b78_0 : EC := EC.ops false [EOper.mk (some 2) (EOp.mv (Opd.c (V.bool false))) none]
def b78_1 : EC := EC.ops false [EOper.mk (some 3) (EOp.slca 3 1 (Opd.g 0) none none) none, EOper.mk (some 4) (EOp.mv (Opd.t 0)) none, EOper.mk (some 5) (EOp.call (Opd.f
  79) [Opd.t 3, Opd.t 4]) none, EOper.mk (some 2) (EOp.mv (Opd.t 5)) none]
def b78_2 : EC := EC.ret
def r78_2 : EC := b78_2
def r78_1 : EC := EC.seq b78_1 r78_2
def r78_0 : EC := EC.seq b78_0 r78_1
def e78 : EFun := EFun.mk 6 [ERes.t 2] r78_0
theorem c78 : cFun Tryd.prog 1 (fun _ => false) Tryd.f78 = some e78 := by kernel_rfl
theorem x78 : Tryd.prog.funcs[78]? = some Tryd.f78 := by kernel_rfl
theorem n78 : (Tryd.f78.name == "runtime.NumGoroutine") = false := by kernel_rfl
/-! 79: slices.Contains:int -/
def b79_0 : EC := EC.ops false [EOper.mk (some 4) (EOp.mv (Opd.c (V.bool false))) none]
def b79_1 : EC := EC.ops false [EOper.mk (some 5) (EOp.mv (Opd.t 0)) none, EOper.mk (some 6) (EOp.mv (Opd.t 1)) none, EOper.mk (some 7) (EOp.call (Opd.f 80) [Opd.t 5,
  Opd.t 6]) none, EOper.mk (some 8) (EOp.bin .geq (Opd.t 7) (Opd.c (V.int .i64 (0)))) none, EOper.mk (some 4) (EOp.mv (Opd.t 8)) none]
def b79_2 : EC := EC.ret
def r79_2 : EC := b79_2
def r79_1 : EC := EC.seq b79_1 r79_2
def r79_0 : EC := EC.seq b79_0 r79_1
def e79 : EFun := EFun.mk 9 [ERes.t 4] r79_0
theorem c79 : cFun Tryd.prog 1 (fun _ => false) Tryd.f79 = some e79 := by kernel_rfl
theorem x79 : Tryd.prog.funcs[79]? = some Tryd.f79 := by kernel_rfl
theorem n79 : (Tryd.f79.name == "runtime.NumGoroutine") = false := by kernel_rfl
/-! 80: slices.Index:int -/
def l80_0p0 : EC := EC.ops false [EOper.mk (some 9) (EOp.bin .lss (Opd.t 8) (Opd.t 7)) none]
def l80_0p1 : EC := EC.cond (Opd.t 9) EC.skip (EC.exit 0)
def l80_0p2 : EC := EC.block 1 (EC.seq (EC.ops false [EOper.mk (some 10) (EOp.mv (Opd.t 8)) none, EOper.mk (some 5) (EOp.mv (Opd.t 10)) none]) (EC.seq (EC.ops false
  [EOper.mk (some 11) (EOp.mv (Opd.t 1)) none, EOper.mk (some 12) (EOp.mv (Opd.t 0)) none, EOper.mk (some 13) (EOp.mv (Opd.t 5)) none, EOper.mk (some 14) (EOp.ixs 1 (Opd.t
  12) (Opd.t 13)) none, EOper.mk (some 15) (EOp.ld false 1 (Opd.t 14)) none, EOper.mk (some 16) (EOp.bin .eql (Opd.t 11) (Opd.t 15)) none]) (EC.cond (Opd.t 16) (EC.seq
  (EC.ops false [EOper.mk (some 17) (EOp.mv (Opd.t 5)) none, EOper.mk (some 4) (EOp.mv (Opd.t 17)) none]) EC.ret) EC.skip)))
def l80_0p3 : EC := EC.ops false [EOper.mk (some 18) (EOp.bin .add (Opd.t 8) (Opd.c (V.int .i64 (1)))) none, EOper.mk (some 8) (EOp.mv (Opd.t 18)) none]
def l80_0r3 : EC := l80_0p3
def l80_0r2 : EC := EC.seq l80_0p2 l80_0r3
def l80_0r1 : EC := EC.seq l80_0p1 l80_0r2
def l80_0r0 : EC := EC.seq l80_0p0 l80_0r1
def l80_0 : EC := l80_0r0
def b80_0 : EC := EC.ops false [EOper.mk (some 4) (EOp.mv (Opd.c (V.int .i64 (0)))) none]
def b80_1 : EC := EC.seq (EC.ops false [EOper.mk (some 6) (EOp.mv (Opd.t 0)) none, EOper.mk (some 7) (EOp.len false (Opd.t 6)) none, EOper.mk (some 8) (EOp.mv (Opd.c
  (V.int .i64 (0)))) none]) (EC.block 0 (EC.loop l80_0))
def b80_2 : EC := EC.ops false [EOper.mk (some 4) (EOp.mv (Opd.c (V.int .i64 (-1)))) none]
def b80_3 : EC := EC.ret
def r80_3 : EC := b80_3
def r80_2 : EC := EC.seq b80_2 r80_3
def r80_1 : EC := EC.seq b80_1 r80_2
def r80_0 : EC := EC.seq b80_0 r80_1
def e80 : EFun := EFun.mk 19 [ERes.t 4] r80_0
theorem c80 : cFun Tryd.prog 1 (fun _ => false) Tryd.f80 = some e80 := by kernel_rfl
theorem x80 : Tryd.prog.funcs[80]? = some Tryd.f80 := by kernel_rfl
theorem n80 : (Tryd.f80.name == "runtime.NumGoroutine") = false := by kernel_rfl
end Go.Ev
