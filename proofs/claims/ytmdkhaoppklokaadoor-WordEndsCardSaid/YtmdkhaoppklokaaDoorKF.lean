/- dev: forms (printed by forms.py) -/
import Derived.Test.YtmdkhaoppklokaaDoorChecked
import Derived.Test.YtmdkhaoppklokaaDoorEvU
set_option linter.all false
namespace Go.Ev
open Go Go.Proofs
set_option maxRecDepth 1000000
/-! 31: septumkit.ApartInts -/
def l31_0p0 : EC := EC.seq (EC.ops false [EOper.mk (some 7) (EOp.mv (Opd.t 4)) none, EOper.mk (some 8) (EOp.mv (Opd.t 0)) none, EOper.mk (some 9) (EOp.len false (Opd.t 8))
  none, EOper.mk (some 10) (EOp.bin .lss (Opd.t 7) (Opd.t 9)) none]) (EC.cond (Opd.t 10) EC.skip (EC.exit 0))
def l31_0p1 : EC := EC.block 1 (EC.ops false [EOper.mk (some 13) (EOp.mv (Opd.t 3)) none, EOper.mk (some 14) (EOp.mv (Opd.t 0)) none, EOper.mk (some 15) (EOp.mv (Opd.t 4))
  none, EOper.mk (some 16) (EOp.ixs 1 (Opd.t 14) (Opd.t 15)) none, EOper.mk (some 17) (EOp.ld false 1 (Opd.t 16)) none, EOper.mk (some 18) (EOp.call (Opd.f 45) [Opd.t 13,
  Opd.t 17]) none])
def l31_0p2 : EC := EC.ops false [EOper.mk (some 11) (EOp.mv (Opd.t 4)) none, EOper.mk (some 12) (EOp.bin .add (Opd.t 11) (Opd.c (V.int .i64 (1)))) none, EOper.mk (some 4)
  (EOp.mv (Opd.t 12)) none]
def l31_0r2 : EC := l31_0p2
def l31_0r1 : EC := EC.seq l31_0p1 l31_0r2
def l31_0r0 : EC := EC.seq l31_0p0 l31_0r1
def l31_0 : EC := l31_0r0
def b31_0 : EC := EC.ops false [EOper.mk (some 2) (EOp.mv (Opd.c (V.bool false))) none]
def b31_1 : EC := EC.ops false [EOper.mk (some 5) (EOp.build [V.sl none 0 0, V.sl none 0 0, V.sl none 0 0, V.sl none 0 0, V.sl none 0 0, V.sl none 0 0, V.sl none 0 0, V.sl
  none 0 0, V.sl none 0 0, V.sl none 0 0, V.sl none 0 0, V.sl none 0 0, V.sl none 0 0, V.sl none 0 0, V.sl none 0 0, V.sl none 0 0, V.sl none 0 0] []) none, EOper.mk (some
  6) (EOp.box false 83 (Opd.t 5)) none, EOper.mk (some 3) (EOp.mv (Opd.t 6)) none]
def b31_2 : EC := EC.seq (EC.ops false [EOper.mk (some 4) (EOp.mv (Opd.c (V.int .i64 (0)))) none]) (EC.block 0 (EC.loop l31_0))
def b31_3 : EC := EC.ops false [EOper.mk (some 19) (EOp.mv (Opd.t 3)) none, EOper.mk (some 20) (EOp.call (Opd.f 46) [Opd.t 19]) none, EOper.mk (some 2) (EOp.mv (Opd.t 20))
  none]
def b31_4 : EC := EC.ret
def r31_4 : EC := b31_4
def r31_3 : EC := EC.seq b31_3 r31_4
def r31_2 : EC := EC.seq b31_2 r31_3
def r31_1 : EC := EC.seq b31_1 r31_2
def r31_0 : EC := EC.seq b31_0 r31_1
def e31 : EFun := EFun.mk 21 [ERes.t 2] r31_0
theorem c31 : cFun Tryd.prog 2 (fun d => d == 6) Tryd.f31 = some e31 := by kernel_rfl
theorem x31 : Tryd.prog.funcs[31]? = some Tryd.f31 := by kernel_rfl
theorem n31 : (Tryd.f31.name == "runtime.NumGoroutine") = false := by kernel_rfl
/-! 39: septumkit.ApartBytes -/
def l39_0p0 : EC := EC.seq (EC.ops false [EOper.mk (some 7) (EOp.mv (Opd.t 4)) none, EOper.mk (some 8) (EOp.mv (Opd.t 0)) none, EOper.mk (some 9) (EOp.len false (Opd.t 8))
  none, EOper.mk (some 10) (EOp.bin .lss (Opd.t 7) (Opd.t 9)) none]) (EC.cond (Opd.t 10) EC.skip (EC.exit 0))
def l39_0p1 : EC := EC.block 1 (EC.ops false [EOper.mk (some 13) (EOp.mv (Opd.t 3)) none, EOper.mk (some 14) (EOp.mv (Opd.t 0)) none, EOper.mk (some 15) (EOp.mv (Opd.t 4))
  none, EOper.mk (some 16) (EOp.ixs 1 (Opd.t 14) (Opd.t 15)) none, EOper.mk (some 17) (EOp.ld false 1 (Opd.t 16)) none, EOper.mk (some 18) (EOp.call (Opd.f 50) [Opd.t 13,
  Opd.t 17]) none])
def l39_0p2 : EC := EC.ops false [EOper.mk (some 11) (EOp.mv (Opd.t 4)) none, EOper.mk (some 12) (EOp.bin .add (Opd.t 11) (Opd.c (V.int .i64 (1)))) none, EOper.mk (some 4)
  (EOp.mv (Opd.t 12)) none]
def l39_0r2 : EC := l39_0p2
def l39_0r1 : EC := EC.seq l39_0p1 l39_0r2
def l39_0r0 : EC := EC.seq l39_0p0 l39_0r1
def l39_0 : EC := l39_0r0
def b39_0 : EC := EC.ops false [EOper.mk (some 2) (EOp.mv (Opd.c (V.bool false))) none]
def b39_1 : EC := EC.ops false [EOper.mk (some 5) (EOp.build [V.sl none 0 0, V.sl none 0 0, V.sl none 0 0, V.sl none 0 0, V.sl none 0 0, V.sl none 0 0, V.sl none 0 0, V.sl
  none 0 0, V.sl none 0 0, V.sl none 0 0, V.sl none 0 0, V.sl none 0 0, V.sl none 0 0, V.sl none 0 0, V.sl none 0 0, V.sl none 0 0, V.sl none 0 0] []) none, EOper.mk (some
  6) (EOp.box false 83 (Opd.t 5)) none, EOper.mk (some 3) (EOp.mv (Opd.t 6)) none]
def b39_2 : EC := EC.seq (EC.ops false [EOper.mk (some 4) (EOp.mv (Opd.c (V.int .i64 (0)))) none]) (EC.block 0 (EC.loop l39_0))
def b39_3 : EC := EC.ops false [EOper.mk (some 19) (EOp.mv (Opd.t 3)) none, EOper.mk (some 20) (EOp.call (Opd.f 46) [Opd.t 19]) none, EOper.mk (some 2) (EOp.mv (Opd.t 20))
  none]
def b39_4 : EC := EC.ret
def r39_4 : EC := b39_4
def r39_3 : EC := EC.seq b39_3 r39_4
def r39_2 : EC := EC.seq b39_2 r39_3
def r39_1 : EC := EC.seq b39_1 r39_2
def r39_0 : EC := EC.seq b39_0 r39_1
def e39 : EFun := EFun.mk 21 [ERes.t 2] r39_0
theorem c39 : cFun Tryd.prog 2 (fun d => d == 6) Tryd.f39 = some e39 := by kernel_rfl
theorem x39 : Tryd.prog.funcs[39]? = some Tryd.f39 := by kernel_rfl
theorem n39 : (Tryd.f39.name == "runtime.NumGoroutine") = false := by kernel_rfl
/-! 45: septumkit.bag.putInts -/
def e45 : EFun := EFun.mk 14 [] (EC.ops false [EOper.mk (some 4) (EOp.mv (Opd.t 0)) none, EOper.mk (some 5) (EOp.mv (Opd.t 0)) none, EOper.mk (some 6) (EOp.nck (Opd.t 5))
  none, EOper.mk (some 7) (EOp.fa 2 (Opd.t 6)) none, EOper.mk (some 8) (EOp.ld false 1 (Opd.t 7)) none, EOper.mk (some 9) (EOp.mv (Opd.t 1)) none, EOper.mk (some 10)
  (EOp.bslice 41 1 [V.sl none 0 0] [(0, 1, Opd.t 9)]) none, EOper.mk (some 11) (EOp.app 41 1 24 [V.sl none 0 0] (Opd.t 8) (Opd.t 10)) none, EOper.mk (some 12) (EOp.nck
  (Opd.t 4)) none, EOper.mk (some 13) (EOp.fa 2 (Opd.t 12)) none, EOper.mk none (EOp.st 1 (Opd.t 13) (Opd.t 11)) none])
theorem c45 : cFun Tryd.prog 2 (fun _ => false) Tryd.f45 = some e45 := by kernel_rfl
theorem x45 : Tryd.prog.funcs[45]? = some Tryd.f45 := by kernel_rfl
theorem n45 : (Tryd.f45.name == "runtime.NumGoroutine") = false := by kernel_rfl
/-! 46: septumkit.bag.apart -/
def b46_0 : EC := EC.ops false [EOper.mk (some 2) (EOp.mv (Opd.c (V.bool false))) none]
def b46_1 : EC := EC.ops false [EOper.mk (some 3) (EOp.mv (Opd.t 0)) none, EOper.mk (some 4) (EOp.nck (Opd.t 3)) none, EOper.mk (some 5) (EOp.fa 0 (Opd.t 4)) none,
  EOper.mk (some 6) (EOp.ld false 1 (Opd.t 5)) none, EOper.mk (some 7) (EOp.call (Opd.f 57) [Opd.t 6]) none, EOper.mk (some 8) (EOp.mv (Opd.t 7)) none, EOper.mk (some 9)
  (EOp.mv (Opd.t 0)) (some (8, true)), EOper.mk (some 10) (EOp.nck (Opd.t 9)) (some (8, true)), EOper.mk (some 11) (EOp.fa 1 (Opd.t 10)) (some (8, true)), EOper.mk (some
  12) (EOp.ld false 1 (Opd.t 11)) (some (8, true)), EOper.mk (some 13) (EOp.call (Opd.f 58) [Opd.t 12]) (some (8, true)), EOper.mk (some 14) (EOp.pick (Opd.t 8) (Opd.t 13)
  (Opd.c (V.bool false))) none, EOper.mk (some 15) (EOp.mv (Opd.t 14)) none, EOper.mk (some 16) (EOp.mv (Opd.t 0)) (some (15, true)), EOper.mk (some 17) (EOp.nck (Opd.t
  16)) (some (15, true)), EOper.mk (some 18) (EOp.fa 2 (Opd.t 17)) (some (15, true)), EOper.mk (some 19) (EOp.ld false 1 (Opd.t 18)) (some (15, true)), EOper.mk (some 20)
  (EOp.call (Opd.f 59) [Opd.t 19]) (some (15, true)), EOper.mk (some 21) (EOp.pick (Opd.t 15) (Opd.t 20) (Opd.c (V.bool false))) none, EOper.mk (some 22) (EOp.mv (Opd.t
  21)) none, EOper.mk (some 23) (EOp.mv (Opd.t 0)) (some (22, true)), EOper.mk (some 24) (EOp.nck (Opd.t 23)) (some (22, true)), EOper.mk (some 25) (EOp.fa 3 (Opd.t 24))
  (some (22, true)), EOper.mk (some 26) (EOp.ld false 1 (Opd.t 25)) (some (22, true)), EOper.mk (some 27) (EOp.call (Opd.f 60) [Opd.t 26]) (some (22, true)), EOper.mk
  (some 28) (EOp.pick (Opd.t 22) (Opd.t 27) (Opd.c (V.bool false))) none, EOper.mk (some 29) (EOp.mv (Opd.t 28)) none, EOper.mk (some 30) (EOp.mv (Opd.t 0)) (some (29,
  true)), EOper.mk (some 31) (EOp.nck (Opd.t 30)) (some (29, true)), EOper.mk (some 32) (EOp.fa 4 (Opd.t 31)) (some (29, true)), EOper.mk (some 33) (EOp.ld false 1 (Opd.t
  32)) (some (29, true)), EOper.mk (some 34) (EOp.call (Opd.f 61) [Opd.t 33]) (some (29, true)), EOper.mk (some 35) (EOp.pick (Opd.t 29) (Opd.t 34) (Opd.c (V.bool false)))
  none, EOper.mk (some 36) (EOp.mv (Opd.t 35)) none, EOper.mk (some 37) (EOp.mv (Opd.t 0)) (some (36, true)), EOper.mk (some 38) (EOp.nck (Opd.t 37)) (some (36, true)),
  EOper.mk (some 39) (EOp.fa 5 (Opd.t 38)) (some (36, true)), EOper.mk (some 40) (EOp.ld false 1 (Opd.t 39)) (some (36, true)), EOper.mk (some 41) (EOp.call (Opd.f 62)
  [Opd.t 40]) (some (36, true)), EOper.mk (some 42) (EOp.pick (Opd.t 36) (Opd.t 41) (Opd.c (V.bool false))) none, EOper.mk (some 43) (EOp.mv (Opd.t 42)) none, EOper.mk
  (some 44) (EOp.mv (Opd.t 0)) (some (43, true)), EOper.mk (some 45) (EOp.nck (Opd.t 44)) (some (43, true)), EOper.mk (some 46) (EOp.fa 6 (Opd.t 45)) (some (43, true)),
  EOper.mk (some 47) (EOp.ld false 1 (Opd.t 46)) (some (43, true)), EOper.mk (some 48) (EOp.call (Opd.f 63) [Opd.t 47]) (some (43, true)), EOper.mk (some 49) (EOp.pick
  (Opd.t 43) (Opd.t 48) (Opd.c (V.bool false))) none, EOper.mk (some 50) (EOp.mv (Opd.t 49)) none, EOper.mk (some 51) (EOp.mv (Opd.t 0)) (some (50, true)), EOper.mk (some
  52) (EOp.nck (Opd.t 51)) (some (50, true)), EOper.mk (some 53) (EOp.fa 7 (Opd.t 52)) (some (50, true)), EOper.mk (some 54) (EOp.ld false 1 (Opd.t 53)) (some (50, true)),
  EOper.mk (some 55) (EOp.call (Opd.f 64) [Opd.t 54]) (some (50, true)), EOper.mk (some 56) (EOp.pick (Opd.t 50) (Opd.t 55) (Opd.c (V.bool false))) none, EOper.mk (some
  57) (EOp.mv (Opd.t 56)) none, EOper.mk (some 58) (EOp.mv (Opd.t 0)) (some (57, true)), EOper.mk (some 59) (EOp.nck (Opd.t 58)) (some (57, true)), EOper.mk (some 60)
  (EOp.fa 8 (Opd.t 59)) (some (57, true)), EOper.mk (some 61) (EOp.ld false 1 (Opd.t 60)) (some (57, true)), EOper.mk (some 62) (EOp.call (Opd.f 65) [Opd.t 61]) (some (57,
  true)), EOper.mk (some 63) (EOp.pick (Opd.t 57) (Opd.t 62) (Opd.c (V.bool false))) none, EOper.mk (some 64) (EOp.mv (Opd.t 63)) none, EOper.mk (some 65) (EOp.mv (Opd.t
  0)) (some (64, true)), EOper.mk (some 66) (EOp.nck (Opd.t 65)) (some (64, true)), EOper.mk (some 67) (EOp.fa 9 (Opd.t 66)) (some (64, true)), EOper.mk (some 68) (EOp.ld
  false 1 (Opd.t 67)) (some (64, true)), EOper.mk (some 69) (EOp.call (Opd.f 66) [Opd.t 68]) (some (64, true)), EOper.mk (some 70) (EOp.pick (Opd.t 64) (Opd.t 69) (Opd.c
  (V.bool false))) none, EOper.mk (some 71) (EOp.mv (Opd.t 70)) none, EOper.mk (some 72) (EOp.mv (Opd.t 0)) (some (71, true)), EOper.mk (some 73) (EOp.nck (Opd.t 72))
  (some (71, true)), EOper.mk (some 74) (EOp.fa 10 (Opd.t 73)) (some (71, true)), EOper.mk (some 75) (EOp.ld false 1 (Opd.t 74)) (some (71, true)), EOper.mk (some 76)
  (EOp.call (Opd.f 67) [Opd.t 75]) (some (71, true)), EOper.mk (some 77) (EOp.pick (Opd.t 71) (Opd.t 76) (Opd.c (V.bool false))) none, EOper.mk (some 78) (EOp.mv (Opd.t
  77)) none, EOper.mk (some 79) (EOp.mv (Opd.t 0)) (some (78, true)), EOper.mk (some 80) (EOp.nck (Opd.t 79)) (some (78, true)), EOper.mk (some 81) (EOp.fa 11 (Opd.t 80))
  (some (78, true)), EOper.mk (some 82) (EOp.ld false 1 (Opd.t 81)) (some (78, true)), EOper.mk (some 83) (EOp.call (Opd.f 68) [Opd.t 82]) (some (78, true)), EOper.mk
  (some 84) (EOp.pick (Opd.t 78) (Opd.t 83) (Opd.c (V.bool false))) none, EOper.mk (some 85) (EOp.mv (Opd.t 84)) none, EOper.mk (some 86) (EOp.mv (Opd.t 0)) (some (85,
  true)), EOper.mk (some 87) (EOp.nck (Opd.t 86)) (some (85, true)), EOper.mk (some 88) (EOp.fa 12 (Opd.t 87)) (some (85, true)), EOper.mk (some 89) (EOp.ld false 1 (Opd.t
  88)) (some (85, true)), EOper.mk (some 90) (EOp.call (Opd.f 69) [Opd.t 89]) (some (85, true)), EOper.mk (some 91) (EOp.pick (Opd.t 85) (Opd.t 90) (Opd.c (V.bool false)))
  none, EOper.mk (some 92) (EOp.mv (Opd.t 91)) none, EOper.mk (some 93) (EOp.mv (Opd.t 0)) (some (92, true)), EOper.mk (some 94) (EOp.nck (Opd.t 93)) (some (92, true)),
  EOper.mk (some 95) (EOp.fa 13 (Opd.t 94)) (some (92, true)), EOper.mk (some 96) (EOp.ld false 1 (Opd.t 95)) (some (92, true)), EOper.mk (some 97) (EOp.call (Opd.f 70)
  [Opd.t 96]) (some (92, true)), EOper.mk (some 98) (EOp.pick (Opd.t 92) (Opd.t 97) (Opd.c (V.bool false))) none, EOper.mk (some 99) (EOp.mv (Opd.t 98)) none, EOper.mk
  (some 100) (EOp.mv (Opd.t 0)) (some (99, true)), EOper.mk (some 101) (EOp.nck (Opd.t 100)) (some (99, true)), EOper.mk (some 102) (EOp.fa 14 (Opd.t 101)) (some (99,
  true)), EOper.mk (some 103) (EOp.ld false 1 (Opd.t 102)) (some (99, true)), EOper.mk (some 104) (EOp.call (Opd.f 71) [Opd.t 103]) (some (99, true)), EOper.mk (some 105)
  (EOp.pick (Opd.t 99) (Opd.t 104) (Opd.c (V.bool false))) none, EOper.mk (some 106) (EOp.mv (Opd.t 105)) none, EOper.mk (some 107) (EOp.mv (Opd.t 0)) (some (106, true)),
  EOper.mk (some 108) (EOp.nck (Opd.t 107)) (some (106, true)), EOper.mk (some 109) (EOp.fa 15 (Opd.t 108)) (some (106, true)), EOper.mk (some 110) (EOp.ld false 1 (Opd.t
  109)) (some (106, true)), EOper.mk (some 111) (EOp.call (Opd.f 72) [Opd.t 110]) (some (106, true)), EOper.mk (some 112) (EOp.pick (Opd.t 106) (Opd.t 111) (Opd.c (V.bool
  false))) none, EOper.mk (some 113) (EOp.mv (Opd.t 112)) none, EOper.mk (some 114) (EOp.mv (Opd.t 0)) (some (113, true)), EOper.mk (some 115) (EOp.nck (Opd.t 114)) (some
  (113, true)), EOper.mk (some 116) (EOp.fa 16 (Opd.t 115)) (some (113, true)), EOper.mk (some 117) (EOp.ld false 1 (Opd.t 116)) (some (113, true)), EOper.mk (some 118)
  (EOp.call (Opd.f 73) [Opd.t 117]) (some (113, true)), EOper.mk (some 119) (EOp.pick (Opd.t 113) (Opd.t 118) (Opd.c (V.bool false))) none, EOper.mk (some 2) (EOp.mv
  (Opd.t 119)) none]
def b46_2 : EC := EC.ret
def r46_2 : EC := b46_2
def r46_1 : EC := EC.seq b46_1 r46_2
def r46_0 : EC := EC.seq b46_0 r46_1
def e46 : EFun := EFun.mk 120 [ERes.t 2] r46_0
theorem c46 : cFun Tryd.prog 2 (fun _ => false) Tryd.f46 = some e46 := by kernel_rfl
theorem x46 : Tryd.prog.funcs[46]? = some Tryd.f46 := by kernel_rfl
theorem n46 : (Tryd.f46.name == "runtime.NumGoroutine") = false := by kernel_rfl
/-! 50: septumkit.bag.putBytes -/
def e50 : EFun := EFun.mk 14 [] (EC.ops false [EOper.mk (some 4) (EOp.mv (Opd.t 0)) none, EOper.mk (some 5) (EOp.mv (Opd.t 0)) none, EOper.mk (some 6) (EOp.nck (Opd.t 5))
  none, EOper.mk (some 7) (EOp.fa 5 (Opd.t 6)) none, EOper.mk (some 8) (EOp.ld false 1 (Opd.t 7)) none, EOper.mk (some 9) (EOp.mv (Opd.t 1)) none, EOper.mk (some 10)
  (EOp.bslice 27 1 [V.sl none 0 0] [(0, 1, Opd.t 9)]) none, EOper.mk (some 11) (EOp.app 27 1 24 [V.sl none 0 0] (Opd.t 8) (Opd.t 10)) none, EOper.mk (some 12) (EOp.nck
  (Opd.t 4)) none, EOper.mk (some 13) (EOp.fa 5 (Opd.t 12)) none, EOper.mk none (EOp.st 1 (Opd.t 13) (Opd.t 11)) none])
theorem c50 : cFun Tryd.prog 2 (fun _ => false) Tryd.f50 = some e50 := by kernel_rfl
theorem x50 : Tryd.prog.funcs[50]? = some Tryd.f50 := by kernel_rfl
theorem n50 : (Tryd.f50.name == "runtime.NumGoroutine") = false := by kernel_rfl
/-! 59: septumkit.flatInts -/
def l59_1p0 : EC := EC.seq (EC.ops false [EOper.mk (some 22) (EOp.mv (Opd.t 4)) none, EOper.mk (some 23) (EOp.mv (Opd.t 0)) none, EOper.mk (some 24) (EOp.mv (Opd.t 3))
  none, EOper.mk (some 25) (EOp.ixs 1 (Opd.t 23) (Opd.t 24)) none, EOper.mk (some 26) (EOp.ld false 1 (Opd.t 25)) none, EOper.mk (some 27) (EOp.len false (Opd.t 26)) none,
  EOper.mk (some 28) (EOp.bin .lss (Opd.t 22) (Opd.t 27)) none]) (EC.cond (Opd.t 28) EC.skip (EC.exit 2))
def l59_1p1 : EC := EC.block 3 (EC.opsT [EOper.mk (some 31) (EOp.mv (Opd.t 0)) none, EOper.mk (some 32) (EOp.mv (Opd.t 3)) none, EOper.mk (some 33) (EOp.ixs 1 (Opd.t 31)
  (Opd.t 32)) none, EOper.mk (some 34) (EOp.ld false 1 (Opd.t 33)) none, EOper.mk (some 35) (EOp.mv (Opd.t 4)) none, EOper.mk (some 36) (EOp.mv (Opd.t 3)) none, EOper.mk
  (some 37) (EOp.mv (Opd.t 4)) none, EOper.mk (some 38) (EOp.call (Opd.f 48) [Opd.t 36, Opd.t 37]) none, EOper.mk (some 39) (EOp.ixs 1 (Opd.t 34) (Opd.t 35)) none] []
  [EOper.mk none (EOp.st 1 (Opd.t 39) (Opd.t 38)) none])
def l59_1p2 : EC := EC.ops false [EOper.mk (some 29) (EOp.mv (Opd.t 4)) none, EOper.mk (some 30) (EOp.bin .add (Opd.t 29) (Opd.c (V.int .i64 (1)))) none, EOper.mk (some 4)
  (EOp.mv (Opd.t 30)) none]
def l59_1r2 : EC := l59_1p2
def l59_1r1 : EC := EC.seq l59_1p1 l59_1r2
def l59_1r0 : EC := EC.seq l59_1p0 l59_1r1
def l59_1 : EC := l59_1r0
def l59_0p0 : EC := EC.seq (EC.ops false [EOper.mk (some 16) (EOp.mv (Opd.t 3)) none, EOper.mk (some 17) (EOp.mv (Opd.t 0)) none, EOper.mk (some 18) (EOp.len false (Opd.t
  17)) none, EOper.mk (some 19) (EOp.bin .lss (Opd.t 16) (Opd.t 18)) none]) (EC.cond (Opd.t 19) EC.skip (EC.exit 0))
def l59_0p1 : EC := EC.block 1 (EC.seq (EC.ops false [EOper.mk (some 4) (EOp.mv (Opd.c (V.int .i64 (0)))) none]) (EC.block 2 (EC.loop l59_1)))
def l59_0p2 : EC := EC.ops false [EOper.mk (some 20) (EOp.mv (Opd.t 3)) none, EOper.mk (some 21) (EOp.bin .add (Opd.t 20) (Opd.c (V.int .i64 (1)))) none, EOper.mk (some 3)
  (EOp.mv (Opd.t 21)) none]
def l59_0r2 : EC := l59_0p2
def l59_0r1 : EC := EC.seq l59_0p1 l59_0r2
def l59_0r0 : EC := EC.seq l59_0p0 l59_0r1
def l59_0 : EC := l59_0r0
def l59_3p0 : EC := EC.seq (EC.ops false [EOper.mk (some 53) (EOp.mv (Opd.t 8)) none, EOper.mk (some 54) (EOp.bin .lss (Opd.t 53) (Opd.c (V.int .i64 (64)))) none])
  (EC.cond (Opd.t 54) EC.skip (EC.exit 6))
def l59_3p1 : EC := EC.block 7 (EC.ops false [EOper.mk (some 57) (EOp.mv (Opd.t 7)) none, EOper.mk (some 58) (EOp.mv (Opd.t 6)) none, EOper.mk (some 59) (EOp.mv (Opd.t 0))
  none, EOper.mk (some 60) (EOp.mv (Opd.t 6)) none, EOper.mk (some 61) (EOp.ixs 1 (Opd.t 59) (Opd.t 60)) none, EOper.mk (some 62) (EOp.ld false 1 (Opd.t 61)) none,
  EOper.mk (some 63) (EOp.len false (Opd.t 62)) none, EOper.mk (some 64) (EOp.mv (Opd.t 8)) none, EOper.mk (some 65) (EOp.bin .add (Opd.t 63) (Opd.t 64)) none, EOper.mk
  (some 66) (EOp.call (Opd.f 48) [Opd.t 58, Opd.t 65]) none, EOper.mk (some 67) (EOp.bslice 3 1 [V.int .i64 (0)] [(0, 1, Opd.t 66)]) none, EOper.mk (some 68) (EOp.app 3 1
  8 [V.int .i64 (0)] (Opd.t 57) (Opd.t 67)) none, EOper.mk (some 7) (EOp.mv (Opd.t 68)) none])
def l59_3p2 : EC := EC.ops false [EOper.mk (some 55) (EOp.mv (Opd.t 8)) none, EOper.mk (some 56) (EOp.bin .add (Opd.t 55) (Opd.c (V.int .i64 (1)))) none, EOper.mk (some 8)
  (EOp.mv (Opd.t 56)) none]
def l59_3r2 : EC := l59_3p2
def l59_3r1 : EC := EC.seq l59_3p1 l59_3r2
def l59_3r0 : EC := EC.seq l59_3p0 l59_3r1
def l59_3 : EC := l59_3r0
def l59_2p0 : EC := EC.seq (EC.ops false [EOper.mk (some 43) (EOp.mv (Opd.t 6)) none, EOper.mk (some 44) (EOp.mv (Opd.t 0)) none, EOper.mk (some 45) (EOp.len false (Opd.t
  44)) none, EOper.mk (some 46) (EOp.bin .lss (Opd.t 43) (Opd.t 45)) none]) (EC.cond (Opd.t 46) EC.skip (EC.exit 4))
def l59_2p1 : EC := EC.block 5 (EC.seq (EC.ops false [EOper.mk (some 49) (EOp.mv (Opd.t 0)) none, EOper.mk (some 50) (EOp.mv (Opd.t 6)) none, EOper.mk (some 51) (EOp.ixs 1
  (Opd.t 49) (Opd.t 50)) none, EOper.mk (some 52) (EOp.ld false 1 (Opd.t 51)) none, EOper.mk (some 7) (EOp.mv (Opd.t 52)) none]) (EC.seq (EC.seq (EC.ops false [EOper.mk
  (some 8) (EOp.mv (Opd.c (V.int .i64 (0)))) none]) (EC.block 6 (EC.loop l59_3))) (EC.ops false [EOper.mk (some 69) (EOp.mv (Opd.t 5)) none, EOper.mk (some 70) (EOp.mv
  (Opd.t 6)) none, EOper.mk (some 71) (EOp.mv (Opd.t 7)) none, EOper.mk (some 72) (EOp.ixs 1 (Opd.t 69) (Opd.t 70)) none, EOper.mk none (EOp.st 1 (Opd.t 72) (Opd.t 71))
  none])))
def l59_2p2 : EC := EC.ops false [EOper.mk (some 47) (EOp.mv (Opd.t 6)) none, EOper.mk (some 48) (EOp.bin .add (Opd.t 47) (Opd.c (V.int .i64 (1)))) none, EOper.mk (some 6)
  (EOp.mv (Opd.t 48)) none]
def l59_2r2 : EC := l59_2p2
def l59_2r1 : EC := EC.seq l59_2p1 l59_2r2
def l59_2r0 : EC := EC.seq l59_2p0 l59_2r1
def l59_2 : EC := l59_2r0
def l59_5p0 : EC := EC.seq (EC.ops false [EOper.mk (some 79) (EOp.mv (Opd.t 10)) none, EOper.mk (some 80) (EOp.mv (Opd.t 5)) none, EOper.mk (some 81) (EOp.mv (Opd.t 9))
  none, EOper.mk (some 82) (EOp.ixs 1 (Opd.t 80) (Opd.t 81)) none, EOper.mk (some 83) (EOp.ld false 1 (Opd.t 82)) none, EOper.mk (some 84) (EOp.len false (Opd.t 83)) none,
  EOper.mk (some 85) (EOp.bin .lss (Opd.t 79) (Opd.t 84)) none]) (EC.cond (Opd.t 85) EC.skip (EC.exit 10))
def l59_5p1 : EC := EC.block 11 (EC.seq (EC.ops true [EOper.mk (some 88) (EOp.mv (Opd.t 5)) none, EOper.mk (some 89) (EOp.mv (Opd.t 9)) none, EOper.mk (some 90) (EOp.ixs 1
  (Opd.t 88) (Opd.t 89)) none, EOper.mk (some 91) (EOp.ld false 1 (Opd.t 90)) none, EOper.mk (some 92) (EOp.mv (Opd.t 10)) none, EOper.mk (some 93) (EOp.ixs 1 (Opd.t 91)
  (Opd.t 92)) none, EOper.mk (some 94) (EOp.ld false 1 (Opd.t 93)) none, EOper.mk (some 95) (EOp.mv (Opd.t 9)) none, EOper.mk (some 96) (EOp.mv (Opd.t 10)) none, EOper.mk
  (some 97) (EOp.call (Opd.f 48) [Opd.t 95, Opd.t 96]) none, EOper.mk (some 98) (EOp.bin .eql (Opd.t 94) (Opd.t 97)) none, EOper.mk (some 99) (EOp.un .not (Opd.t 98))
  none, EOper.mk (some 100) (EOp.mv (Opd.t 99)) none, EOper.mk (some 101) (EOp.mv (Opd.t 10)) (some (100, false)), EOper.mk (some 102) (EOp.mv (Opd.t 0)) (some (100,
  false)), EOper.mk (some 103) (EOp.mv (Opd.t 9)) (some (100, false)), EOper.mk (some 104) (EOp.ixs 1 (Opd.t 102) (Opd.t 103)) (some (100, false)), EOper.mk (some 105)
  (EOp.ld false 1 (Opd.t 104)) (some (100, false)), EOper.mk (some 106) (EOp.len false (Opd.t 105)) (some (100, false)), EOper.mk (some 107) (EOp.bin .lss (Opd.t 101)
  (Opd.t 106)) (some (100, false)), EOper.mk (some 108) (EOp.mv (Opd.t 107)) (some (100, false)), EOper.mk (some 109) (EOp.mv (Opd.t 0)) (some (108, true)), EOper.mk (some
  110) (EOp.mv (Opd.t 9)) (some (108, true)), EOper.mk (some 111) (EOp.ixs 1 (Opd.t 109) (Opd.t 110)) (some (108, true)), EOper.mk (some 112) (EOp.ld false 1 (Opd.t 111))
  (some (108, true)), EOper.mk (some 113) (EOp.mv (Opd.t 10)) (some (108, true)), EOper.mk (some 114) (EOp.ixs 1 (Opd.t 112) (Opd.t 113)) (some (108, true)), EOper.mk
  (some 115) (EOp.ld false 1 (Opd.t 114)) (some (108, true)), EOper.mk (some 116) (EOp.mv (Opd.t 9)) (some (108, true)), EOper.mk (some 117) (EOp.mv (Opd.t 10)) (some
  (108, true)), EOper.mk (some 118) (EOp.call (Opd.f 48) [Opd.t 116, Opd.t 117]) (some (108, true)), EOper.mk (some 119) (EOp.bin .eql (Opd.t 115) (Opd.t 118)) (some (108,
  true)), EOper.mk (some 120) (EOp.un .not (Opd.t 119)) (some (108, true)), EOper.mk (some 121) (EOp.pick (Opd.t 108) (Opd.t 120) (Opd.c (V.bool false))) (some (100,
  false)), EOper.mk (some 122) (EOp.pick (Opd.t 100) (Opd.c (V.bool true)) (Opd.t 121)) none]) (EC.cond (Opd.t 122) (EC.seq (EC.ops false [EOper.mk (some 2) (EOp.mv (Opd.c
  (V.bool false))) none]) EC.ret) EC.skip))
def l59_5p2 : EC := EC.ops false [EOper.mk (some 86) (EOp.mv (Opd.t 10)) none, EOper.mk (some 87) (EOp.bin .add (Opd.t 86) (Opd.c (V.int .i64 (1)))) none, EOper.mk (some
  10) (EOp.mv (Opd.t 87)) none]
def l59_5r2 : EC := l59_5p2
def l59_5r1 : EC := EC.seq l59_5p1 l59_5r2
def l59_5r0 : EC := EC.seq l59_5p0 l59_5r1
def l59_5 : EC := l59_5r0
def l59_4p0 : EC := EC.seq (EC.ops false [EOper.mk (some 73) (EOp.mv (Opd.t 9)) none, EOper.mk (some 74) (EOp.mv (Opd.t 0)) none, EOper.mk (some 75) (EOp.len false (Opd.t
  74)) none, EOper.mk (some 76) (EOp.bin .lss (Opd.t 73) (Opd.t 75)) none]) (EC.cond (Opd.t 76) EC.skip (EC.exit 8))
def l59_4p1 : EC := EC.block 9 (EC.seq (EC.ops false [EOper.mk (some 10) (EOp.mv (Opd.c (V.int .i64 (0)))) none]) (EC.block 10 (EC.loop l59_5)))
def l59_4p2 : EC := EC.ops false [EOper.mk (some 77) (EOp.mv (Opd.t 9)) none, EOper.mk (some 78) (EOp.bin .add (Opd.t 77) (Opd.c (V.int .i64 (1)))) none, EOper.mk (some 9)
  (EOp.mv (Opd.t 78)) none]
def l59_4r2 : EC := l59_4p2
def l59_4r1 : EC := EC.seq l59_4p1 l59_4r2
def l59_4r0 : EC := EC.seq l59_4p0 l59_4r1
def l59_4 : EC := l59_4r0
def l59_7p0 : EC := EC.seq (EC.ops false [EOper.mk (some 130) (EOp.mv (Opd.t 13)) none, EOper.mk (some 131) (EOp.bin .lss (Opd.t 130) (Opd.c (V.int .i64 (64)))) none])
  (EC.cond (Opd.t 131) EC.skip (EC.exit 14))
def l59_7p1 : EC := EC.block 15 (EC.ops false [EOper.mk (some 134) (EOp.mv (Opd.t 12)) none, EOper.mk (some 135) (EOp.mv (Opd.t 13)) none, EOper.mk (some 136) (EOp.mv
  (Opd.t 11)) none, EOper.mk (some 137) (EOp.mv (Opd.t 0)) none, EOper.mk (some 138) (EOp.len false (Opd.t 137)) none, EOper.mk (some 139) (EOp.bin .add (Opd.t 136) (Opd.t
  138)) none, EOper.mk (some 140) (EOp.mv (Opd.t 13)) none, EOper.mk (some 141) (EOp.call (Opd.f 48) [Opd.t 139, Opd.t 140]) none, EOper.mk (some 142) (EOp.ixs 1 (Opd.t
  134) (Opd.t 135)) none, EOper.mk none (EOp.st 1 (Opd.t 142) (Opd.t 141)) none])
def l59_7p2 : EC := EC.ops false [EOper.mk (some 132) (EOp.mv (Opd.t 13)) none, EOper.mk (some 133) (EOp.bin .add (Opd.t 132) (Opd.c (V.int .i64 (1)))) none, EOper.mk
  (some 13) (EOp.mv (Opd.t 133)) none]
def l59_7r2 : EC := l59_7p2
def l59_7r1 : EC := EC.seq l59_7p1 l59_7r2
def l59_7r0 : EC := EC.seq l59_7p0 l59_7r1
def l59_7 : EC := l59_7r0
def l59_6p0 : EC := EC.seq (EC.ops false [EOper.mk (some 123) (EOp.mv (Opd.t 11)) none, EOper.mk (some 124) (EOp.mv (Opd.t 0)) none, EOper.mk (some 125) (EOp.len false
  (Opd.t 124)) none, EOper.mk (some 126) (EOp.bin .lss (Opd.t 123) (Opd.t 125)) none]) (EC.cond (Opd.t 126) EC.skip (EC.exit 12))
def l59_6p1 : EC := EC.block 13 (EC.seq (EC.ops false [EOper.mk (some 129) (EOp.mksl 3 [V.int .i64 (0)] 8 (Opd.c (V.int .i64 (64))) (Opd.c (V.int .i64 (64)))) none,
  EOper.mk (some 12) (EOp.mv (Opd.t 129)) none]) (EC.seq (EC.seq (EC.ops false [EOper.mk (some 13) (EOp.mv (Opd.c (V.int .i64 (0)))) none]) (EC.block 14 (EC.loop l59_7)))
  (EC.ops false [EOper.mk (some 143) (EOp.mv (Opd.t 5)) none, EOper.mk (some 144) (EOp.mv (Opd.t 11)) none, EOper.mk (some 145) (EOp.mv (Opd.t 0)) none, EOper.mk (some
  146) (EOp.mv (Opd.t 11)) none, EOper.mk (some 147) (EOp.ixs 1 (Opd.t 145) (Opd.t 146)) none, EOper.mk (some 148) (EOp.ld false 1 (Opd.t 147)) none, EOper.mk (some 149)
  (EOp.mv (Opd.t 12)) none, EOper.mk (some 150) (EOp.app 3 1 8 [V.int .i64 (0)] (Opd.t 148) (Opd.t 149)) none, EOper.mk (some 151) (EOp.ixs 1 (Opd.t 143) (Opd.t 144))
  none, EOper.mk none (EOp.st 1 (Opd.t 151) (Opd.t 150)) none])))
def l59_6p2 : EC := EC.ops false [EOper.mk (some 127) (EOp.mv (Opd.t 11)) none, EOper.mk (some 128) (EOp.bin .add (Opd.t 127) (Opd.c (V.int .i64 (1)))) none, EOper.mk
  (some 11) (EOp.mv (Opd.t 128)) none]
def l59_6r2 : EC := l59_6p2
def l59_6r1 : EC := EC.seq l59_6p1 l59_6r2
def l59_6r0 : EC := EC.seq l59_6p0 l59_6r1
def l59_6 : EC := l59_6r0
def l59_9p0 : EC := EC.seq (EC.ops false [EOper.mk (some 158) (EOp.mv (Opd.t 15)) none, EOper.mk (some 159) (EOp.mv (Opd.t 0)) none, EOper.mk (some 160) (EOp.mv (Opd.t
  14)) none, EOper.mk (some 161) (EOp.ixs 1 (Opd.t 159) (Opd.t 160)) none, EOper.mk (some 162) (EOp.ld false 1 (Opd.t 161)) none, EOper.mk (some 163) (EOp.len false (Opd.t
  162)) none, EOper.mk (some 164) (EOp.bin .lss (Opd.t 158) (Opd.t 163)) none]) (EC.cond (Opd.t 164) EC.skip (EC.exit 18))
def l59_9p1 : EC := EC.block 19 (EC.seq (EC.ops true [EOper.mk (some 167) (EOp.mv (Opd.t 0)) none, EOper.mk (some 168) (EOp.mv (Opd.t 14)) none, EOper.mk (some 169)
  (EOp.ixs 1 (Opd.t 167) (Opd.t 168)) none, EOper.mk (some 170) (EOp.ld false 1 (Opd.t 169)) none, EOper.mk (some 171) (EOp.mv (Opd.t 15)) none, EOper.mk (some 172)
  (EOp.ixs 1 (Opd.t 170) (Opd.t 171)) none, EOper.mk (some 173) (EOp.ld false 1 (Opd.t 172)) none, EOper.mk (some 174) (EOp.mv (Opd.t 14)) none, EOper.mk (some 175)
  (EOp.mv (Opd.t 15)) none, EOper.mk (some 176) (EOp.call (Opd.f 48) [Opd.t 174, Opd.t 175]) none, EOper.mk (some 177) (EOp.bin .eql (Opd.t 173) (Opd.t 176)) none,
  EOper.mk (some 178) (EOp.un .not (Opd.t 177)) none, EOper.mk (some 179) (EOp.mv (Opd.t 178)) none, EOper.mk (some 180) (EOp.mv (Opd.t 5)) (some (179, false)), EOper.mk
  (some 181) (EOp.mv (Opd.t 14)) (some (179, false)), EOper.mk (some 182) (EOp.ixs 1 (Opd.t 180) (Opd.t 181)) (some (179, false)), EOper.mk (some 183) (EOp.ld false 1
  (Opd.t 182)) (some (179, false)), EOper.mk (some 184) (EOp.mv (Opd.t 15)) (some (179, false)), EOper.mk (some 185) (EOp.ixs 1 (Opd.t 183) (Opd.t 184)) (some (179,
  false)), EOper.mk (some 186) (EOp.ld false 1 (Opd.t 185)) (some (179, false)), EOper.mk (some 187) (EOp.mv (Opd.t 14)) (some (179, false)), EOper.mk (some 188) (EOp.mv
  (Opd.t 15)) (some (179, false)), EOper.mk (some 189) (EOp.call (Opd.f 48) [Opd.t 187, Opd.t 188]) (some (179, false)), EOper.mk (some 190) (EOp.bin .eql (Opd.t 186)
  (Opd.t 189)) (some (179, false)), EOper.mk (some 191) (EOp.un .not (Opd.t 190)) (some (179, false)), EOper.mk (some 192) (EOp.pick (Opd.t 179) (Opd.c (V.bool true))
  (Opd.t 191)) none]) (EC.cond (Opd.t 192) (EC.seq (EC.ops false [EOper.mk (some 2) (EOp.mv (Opd.c (V.bool false))) none]) EC.ret) EC.skip))
def l59_9p2 : EC := EC.ops false [EOper.mk (some 165) (EOp.mv (Opd.t 15)) none, EOper.mk (some 166) (EOp.bin .add (Opd.t 165) (Opd.c (V.int .i64 (1)))) none, EOper.mk
  (some 15) (EOp.mv (Opd.t 166)) none]
def l59_9r2 : EC := l59_9p2
def l59_9r1 : EC := EC.seq l59_9p1 l59_9r2
def l59_9r0 : EC := EC.seq l59_9p0 l59_9r1
def l59_9 : EC := l59_9r0
def l59_8p0 : EC := EC.seq (EC.ops false [EOper.mk (some 152) (EOp.mv (Opd.t 14)) none, EOper.mk (some 153) (EOp.mv (Opd.t 0)) none, EOper.mk (some 154) (EOp.len false
  (Opd.t 153)) none, EOper.mk (some 155) (EOp.bin .lss (Opd.t 152) (Opd.t 154)) none]) (EC.cond (Opd.t 155) EC.skip (EC.exit 16))
def l59_8p1 : EC := EC.block 17 (EC.seq (EC.ops false [EOper.mk (some 15) (EOp.mv (Opd.c (V.int .i64 (0)))) none]) (EC.block 18 (EC.loop l59_9)))
def l59_8p2 : EC := EC.ops false [EOper.mk (some 156) (EOp.mv (Opd.t 14)) none, EOper.mk (some 157) (EOp.bin .add (Opd.t 156) (Opd.c (V.int .i64 (1)))) none, EOper.mk
  (some 14) (EOp.mv (Opd.t 157)) none]
def l59_8r2 : EC := l59_8p2
def l59_8r1 : EC := EC.seq l59_8p1 l59_8r2
def l59_8r0 : EC := EC.seq l59_8p0 l59_8r1
def l59_8 : EC := l59_8r0
def b59_0 : EC := EC.ops false [EOper.mk (some 2) (EOp.mv (Opd.c (V.bool false))) none]
def b59_1 : EC := EC.seq (EC.ops false [EOper.mk (some 3) (EOp.mv (Opd.c (V.int .i64 (0)))) none]) (EC.block 0 (EC.loop l59_0))
def b59_2 : EC := EC.ops false [EOper.mk (some 40) (EOp.mv (Opd.t 0)) none, EOper.mk (some 41) (EOp.len false (Opd.t 40)) none, EOper.mk (some 42) (EOp.mksl 41 [V.sl none
  0 0] 24 (Opd.t 41) (Opd.t 41)) none, EOper.mk (some 5) (EOp.mv (Opd.t 42)) none]
def b59_3 : EC := EC.seq (EC.ops false [EOper.mk (some 6) (EOp.mv (Opd.c (V.int .i64 (0)))) none]) (EC.block 4 (EC.loop l59_2))
def b59_4 : EC := EC.seq (EC.ops false [EOper.mk (some 9) (EOp.mv (Opd.c (V.int .i64 (0)))) none]) (EC.block 8 (EC.loop l59_4))
def b59_5 : EC := EC.seq (EC.ops false [EOper.mk (some 11) (EOp.mv (Opd.c (V.int .i64 (0)))) none]) (EC.block 12 (EC.loop l59_6))
def b59_6 : EC := EC.seq (EC.ops false [EOper.mk (some 14) (EOp.mv (Opd.c (V.int .i64 (0)))) none]) (EC.block 16 (EC.loop l59_8))
def b59_7 : EC := EC.ops false [EOper.mk (some 2) (EOp.mv (Opd.c (V.bool true))) none]
def b59_8 : EC := EC.ret
def r59_8 : EC := b59_8
def r59_7 : EC := EC.seq b59_7 r59_8
def r59_6 : EC := EC.seq b59_6 r59_7
def r59_5 : EC := EC.seq b59_5 r59_6
def r59_4 : EC := EC.seq b59_4 r59_5
def r59_3 : EC := EC.seq b59_3 r59_4
def r59_2 : EC := EC.seq b59_2 r59_3
def r59_1 : EC := EC.seq b59_1 r59_2
def r59_0 : EC := EC.seq b59_0 r59_1
def e59 : EFun := EFun.mk 193 [ERes.t 2] r59_0
theorem c59 : cFun Tryd.prog 2 (fun _ => false) Tryd.f59 = some e59 := by kernel_rfl
theorem x59 : Tryd.prog.funcs[59]? = some Tryd.f59 := by kernel_rfl
theorem n59 : (Tryd.f59.name == "runtime.NumGoroutine") = false := by kernel_rfl
/-! 62: septumkit.flatBytes -/
def l62_1p0 : EC := EC.seq (EC.ops false [EOper.mk (some 22) (EOp.mv (Opd.t 4)) none, EOper.mk (some 23) (EOp.mv (Opd.t 0)) none, EOper.mk (some 24) (EOp.mv (Opd.t 3))
  none, EOper.mk (some 25) (EOp.ixs 1 (Opd.t 23) (Opd.t 24)) none, EOper.mk (some 26) (EOp.ld false 1 (Opd.t 25)) none, EOper.mk (some 27) (EOp.len false (Opd.t 26)) none,
  EOper.mk (some 28) (EOp.bin .lss (Opd.t 22) (Opd.t 27)) none]) (EC.cond (Opd.t 28) EC.skip (EC.exit 2))
def l62_1p1 : EC := EC.block 3 (EC.opsT [EOper.mk (some 31) (EOp.mv (Opd.t 0)) none, EOper.mk (some 32) (EOp.mv (Opd.t 3)) none, EOper.mk (some 33) (EOp.ixs 1 (Opd.t 31)
  (Opd.t 32)) none, EOper.mk (some 34) (EOp.ld false 1 (Opd.t 33)) none, EOper.mk (some 35) (EOp.mv (Opd.t 4)) none, EOper.mk (some 36) (EOp.mv (Opd.t 3)) none, EOper.mk
  (some 37) (EOp.mv (Opd.t 4)) none, EOper.mk (some 38) (EOp.call (Opd.f 33) [Opd.t 36, Opd.t 37]) none, EOper.mk (some 39) (EOp.ixs 1 (Opd.t 34) (Opd.t 35)) none] []
  [EOper.mk none (EOp.st 1 (Opd.t 39) (Opd.t 38)) none])
def l62_1p2 : EC := EC.ops false [EOper.mk (some 29) (EOp.mv (Opd.t 4)) none, EOper.mk (some 30) (EOp.bin .add (Opd.t 29) (Opd.c (V.int .i64 (1)))) none, EOper.mk (some 4)
  (EOp.mv (Opd.t 30)) none]
def l62_1r2 : EC := l62_1p2
def l62_1r1 : EC := EC.seq l62_1p1 l62_1r2
def l62_1r0 : EC := EC.seq l62_1p0 l62_1r1
def l62_1 : EC := l62_1r0
def l62_0p0 : EC := EC.seq (EC.ops false [EOper.mk (some 16) (EOp.mv (Opd.t 3)) none, EOper.mk (some 17) (EOp.mv (Opd.t 0)) none, EOper.mk (some 18) (EOp.len false (Opd.t
  17)) none, EOper.mk (some 19) (EOp.bin .lss (Opd.t 16) (Opd.t 18)) none]) (EC.cond (Opd.t 19) EC.skip (EC.exit 0))
def l62_0p1 : EC := EC.block 1 (EC.seq (EC.ops false [EOper.mk (some 4) (EOp.mv (Opd.c (V.int .i64 (0)))) none]) (EC.block 2 (EC.loop l62_1)))
def l62_0p2 : EC := EC.ops false [EOper.mk (some 20) (EOp.mv (Opd.t 3)) none, EOper.mk (some 21) (EOp.bin .add (Opd.t 20) (Opd.c (V.int .i64 (1)))) none, EOper.mk (some 3)
  (EOp.mv (Opd.t 21)) none]
def l62_0r2 : EC := l62_0p2
def l62_0r1 : EC := EC.seq l62_0p1 l62_0r2
def l62_0r0 : EC := EC.seq l62_0p0 l62_0r1
def l62_0 : EC := l62_0r0
def l62_3p0 : EC := EC.seq (EC.ops false [EOper.mk (some 53) (EOp.mv (Opd.t 8)) none, EOper.mk (some 54) (EOp.bin .lss (Opd.t 53) (Opd.c (V.int .i64 (64)))) none])
  (EC.cond (Opd.t 54) EC.skip (EC.exit 6))
def l62_3p1 : EC := EC.block 7 (EC.ops false [EOper.mk (some 57) (EOp.mv (Opd.t 7)) none, EOper.mk (some 58) (EOp.mv (Opd.t 6)) none, EOper.mk (some 59) (EOp.mv (Opd.t 0))
  none, EOper.mk (some 60) (EOp.mv (Opd.t 6)) none, EOper.mk (some 61) (EOp.ixs 1 (Opd.t 59) (Opd.t 60)) none, EOper.mk (some 62) (EOp.ld false 1 (Opd.t 61)) none,
  EOper.mk (some 63) (EOp.len false (Opd.t 62)) none, EOper.mk (some 64) (EOp.mv (Opd.t 8)) none, EOper.mk (some 65) (EOp.bin .add (Opd.t 63) (Opd.t 64)) none, EOper.mk
  (some 66) (EOp.call (Opd.f 33) [Opd.t 58, Opd.t 65]) none, EOper.mk (some 67) (EOp.bslice 5 1 [V.int .u8 (0)] [(0, 1, Opd.t 66)]) none, EOper.mk (some 68) (EOp.app 5 1 1
  [V.int .u8 (0)] (Opd.t 57) (Opd.t 67)) none, EOper.mk (some 7) (EOp.mv (Opd.t 68)) none])
def l62_3p2 : EC := EC.ops false [EOper.mk (some 55) (EOp.mv (Opd.t 8)) none, EOper.mk (some 56) (EOp.bin .add (Opd.t 55) (Opd.c (V.int .i64 (1)))) none, EOper.mk (some 8)
  (EOp.mv (Opd.t 56)) none]
def l62_3r2 : EC := l62_3p2
def l62_3r1 : EC := EC.seq l62_3p1 l62_3r2
def l62_3r0 : EC := EC.seq l62_3p0 l62_3r1
def l62_3 : EC := l62_3r0
def l62_2p0 : EC := EC.seq (EC.ops false [EOper.mk (some 43) (EOp.mv (Opd.t 6)) none, EOper.mk (some 44) (EOp.mv (Opd.t 0)) none, EOper.mk (some 45) (EOp.len false (Opd.t
  44)) none, EOper.mk (some 46) (EOp.bin .lss (Opd.t 43) (Opd.t 45)) none]) (EC.cond (Opd.t 46) EC.skip (EC.exit 4))
def l62_2p1 : EC := EC.block 5 (EC.seq (EC.ops false [EOper.mk (some 49) (EOp.mv (Opd.t 0)) none, EOper.mk (some 50) (EOp.mv (Opd.t 6)) none, EOper.mk (some 51) (EOp.ixs 1
  (Opd.t 49) (Opd.t 50)) none, EOper.mk (some 52) (EOp.ld false 1 (Opd.t 51)) none, EOper.mk (some 7) (EOp.mv (Opd.t 52)) none]) (EC.seq (EC.seq (EC.ops false [EOper.mk
  (some 8) (EOp.mv (Opd.c (V.int .i64 (0)))) none]) (EC.block 6 (EC.loop l62_3))) (EC.ops false [EOper.mk (some 69) (EOp.mv (Opd.t 5)) none, EOper.mk (some 70) (EOp.mv
  (Opd.t 6)) none, EOper.mk (some 71) (EOp.mv (Opd.t 7)) none, EOper.mk (some 72) (EOp.ixs 1 (Opd.t 69) (Opd.t 70)) none, EOper.mk none (EOp.st 1 (Opd.t 72) (Opd.t 71))
  none])))
def l62_2p2 : EC := EC.ops false [EOper.mk (some 47) (EOp.mv (Opd.t 6)) none, EOper.mk (some 48) (EOp.bin .add (Opd.t 47) (Opd.c (V.int .i64 (1)))) none, EOper.mk (some 6)
  (EOp.mv (Opd.t 48)) none]
def l62_2r2 : EC := l62_2p2
def l62_2r1 : EC := EC.seq l62_2p1 l62_2r2
def l62_2r0 : EC := EC.seq l62_2p0 l62_2r1
def l62_2 : EC := l62_2r0
def l62_5p0 : EC := EC.seq (EC.ops false [EOper.mk (some 79) (EOp.mv (Opd.t 10)) none, EOper.mk (some 80) (EOp.mv (Opd.t 5)) none, EOper.mk (some 81) (EOp.mv (Opd.t 9))
  none, EOper.mk (some 82) (EOp.ixs 1 (Opd.t 80) (Opd.t 81)) none, EOper.mk (some 83) (EOp.ld false 1 (Opd.t 82)) none, EOper.mk (some 84) (EOp.len false (Opd.t 83)) none,
  EOper.mk (some 85) (EOp.bin .lss (Opd.t 79) (Opd.t 84)) none]) (EC.cond (Opd.t 85) EC.skip (EC.exit 10))
def l62_5p1 : EC := EC.block 11 (EC.seq (EC.ops true [EOper.mk (some 88) (EOp.mv (Opd.t 5)) none, EOper.mk (some 89) (EOp.mv (Opd.t 9)) none, EOper.mk (some 90) (EOp.ixs 1
  (Opd.t 88) (Opd.t 89)) none, EOper.mk (some 91) (EOp.ld false 1 (Opd.t 90)) none, EOper.mk (some 92) (EOp.mv (Opd.t 10)) none, EOper.mk (some 93) (EOp.ixs 1 (Opd.t 91)
  (Opd.t 92)) none, EOper.mk (some 94) (EOp.ld false 1 (Opd.t 93)) none, EOper.mk (some 95) (EOp.mv (Opd.t 9)) none, EOper.mk (some 96) (EOp.mv (Opd.t 10)) none, EOper.mk
  (some 97) (EOp.call (Opd.f 33) [Opd.t 95, Opd.t 96]) none, EOper.mk (some 98) (EOp.bin .eql (Opd.t 94) (Opd.t 97)) none, EOper.mk (some 99) (EOp.un .not (Opd.t 98))
  none, EOper.mk (some 100) (EOp.mv (Opd.t 99)) none, EOper.mk (some 101) (EOp.mv (Opd.t 10)) (some (100, false)), EOper.mk (some 102) (EOp.mv (Opd.t 0)) (some (100,
  false)), EOper.mk (some 103) (EOp.mv (Opd.t 9)) (some (100, false)), EOper.mk (some 104) (EOp.ixs 1 (Opd.t 102) (Opd.t 103)) (some (100, false)), EOper.mk (some 105)
  (EOp.ld false 1 (Opd.t 104)) (some (100, false)), EOper.mk (some 106) (EOp.len false (Opd.t 105)) (some (100, false)), EOper.mk (some 107) (EOp.bin .lss (Opd.t 101)
  (Opd.t 106)) (some (100, false)), EOper.mk (some 108) (EOp.mv (Opd.t 107)) (some (100, false)), EOper.mk (some 109) (EOp.mv (Opd.t 0)) (some (108, true)), EOper.mk (some
  110) (EOp.mv (Opd.t 9)) (some (108, true)), EOper.mk (some 111) (EOp.ixs 1 (Opd.t 109) (Opd.t 110)) (some (108, true)), EOper.mk (some 112) (EOp.ld false 1 (Opd.t 111))
  (some (108, true)), EOper.mk (some 113) (EOp.mv (Opd.t 10)) (some (108, true)), EOper.mk (some 114) (EOp.ixs 1 (Opd.t 112) (Opd.t 113)) (some (108, true)), EOper.mk
  (some 115) (EOp.ld false 1 (Opd.t 114)) (some (108, true)), EOper.mk (some 116) (EOp.mv (Opd.t 9)) (some (108, true)), EOper.mk (some 117) (EOp.mv (Opd.t 10)) (some
  (108, true)), EOper.mk (some 118) (EOp.call (Opd.f 33) [Opd.t 116, Opd.t 117]) (some (108, true)), EOper.mk (some 119) (EOp.bin .eql (Opd.t 115) (Opd.t 118)) (some (108,
  true)), EOper.mk (some 120) (EOp.un .not (Opd.t 119)) (some (108, true)), EOper.mk (some 121) (EOp.pick (Opd.t 108) (Opd.t 120) (Opd.c (V.bool false))) (some (100,
  false)), EOper.mk (some 122) (EOp.pick (Opd.t 100) (Opd.c (V.bool true)) (Opd.t 121)) none]) (EC.cond (Opd.t 122) (EC.seq (EC.ops false [EOper.mk (some 2) (EOp.mv (Opd.c
  (V.bool false))) none]) EC.ret) EC.skip))
def l62_5p2 : EC := EC.ops false [EOper.mk (some 86) (EOp.mv (Opd.t 10)) none, EOper.mk (some 87) (EOp.bin .add (Opd.t 86) (Opd.c (V.int .i64 (1)))) none, EOper.mk (some
  10) (EOp.mv (Opd.t 87)) none]
def l62_5r2 : EC := l62_5p2
def l62_5r1 : EC := EC.seq l62_5p1 l62_5r2
def l62_5r0 : EC := EC.seq l62_5p0 l62_5r1
def l62_5 : EC := l62_5r0
def l62_4p0 : EC := EC.seq (EC.ops false [EOper.mk (some 73) (EOp.mv (Opd.t 9)) none, EOper.mk (some 74) (EOp.mv (Opd.t 0)) none, EOper.mk (some 75) (EOp.len false (Opd.t
  74)) none, EOper.mk (some 76) (EOp.bin .lss (Opd.t 73) (Opd.t 75)) none]) (EC.cond (Opd.t 76) EC.skip (EC.exit 8))
def l62_4p1 : EC := EC.block 9 (EC.seq (EC.ops false [EOper.mk (some 10) (EOp.mv (Opd.c (V.int .i64 (0)))) none]) (EC.block 10 (EC.loop l62_5)))
def l62_4p2 : EC := EC.ops false [EOper.mk (some 77) (EOp.mv (Opd.t 9)) none, EOper.mk (some 78) (EOp.bin .add (Opd.t 77) (Opd.c (V.int .i64 (1)))) none, EOper.mk (some 9)
  (EOp.mv (Opd.t 78)) none]
def l62_4r2 : EC := l62_4p2
def l62_4r1 : EC := EC.seq l62_4p1 l62_4r2
def l62_4r0 : EC := EC.seq l62_4p0 l62_4r1
def l62_4 : EC := l62_4r0
def l62_7p0 : EC := EC.seq (EC.ops false [EOper.mk (some 130) (EOp.mv (Opd.t 13)) none, EOper.mk (some 131) (EOp.bin .lss (Opd.t 130) (Opd.c (V.int .i64 (64)))) none])
  (EC.cond (Opd.t 131) EC.skip (EC.exit 14))
def l62_7p1 : EC := EC.block 15 (EC.ops false [EOper.mk (some 134) (EOp.mv (Opd.t 12)) none, EOper.mk (some 135) (EOp.mv (Opd.t 13)) none, EOper.mk (some 136) (EOp.mv
  (Opd.t 11)) none, EOper.mk (some 137) (EOp.mv (Opd.t 0)) none, EOper.mk (some 138) (EOp.len false (Opd.t 137)) none, EOper.mk (some 139) (EOp.bin .add (Opd.t 136) (Opd.t
  138)) none, EOper.mk (some 140) (EOp.mv (Opd.t 13)) none, EOper.mk (some 141) (EOp.call (Opd.f 33) [Opd.t 139, Opd.t 140]) none, EOper.mk (some 142) (EOp.ixs 1 (Opd.t
  134) (Opd.t 135)) none, EOper.mk none (EOp.st 1 (Opd.t 142) (Opd.t 141)) none])
def l62_7p2 : EC := EC.ops false [EOper.mk (some 132) (EOp.mv (Opd.t 13)) none, EOper.mk (some 133) (EOp.bin .add (Opd.t 132) (Opd.c (V.int .i64 (1)))) none, EOper.mk
  (some 13) (EOp.mv (Opd.t 133)) none]
def l62_7r2 : EC := l62_7p2
def l62_7r1 : EC := EC.seq l62_7p1 l62_7r2
def l62_7r0 : EC := EC.seq l62_7p0 l62_7r1
def l62_7 : EC := l62_7r0
def l62_6p0 : EC := EC.seq (EC.ops false [EOper.mk (some 123) (EOp.mv (Opd.t 11)) none, EOper.mk (some 124) (EOp.mv (Opd.t 0)) none, EOper.mk (some 125) (EOp.len false
  (Opd.t 124)) none, EOper.mk (some 126) (EOp.bin .lss (Opd.t 123) (Opd.t 125)) none]) (EC.cond (Opd.t 126) EC.skip (EC.exit 12))
def l62_6p1 : EC := EC.block 13 (EC.seq (EC.ops false [EOper.mk (some 129) (EOp.mksl 5 [V.int .u8 (0)] 1 (Opd.c (V.int .i64 (64))) (Opd.c (V.int .i64 (64)))) none,
  EOper.mk (some 12) (EOp.mv (Opd.t 129)) none]) (EC.seq (EC.seq (EC.ops false [EOper.mk (some 13) (EOp.mv (Opd.c (V.int .i64 (0)))) none]) (EC.block 14 (EC.loop l62_7)))
  (EC.ops false [EOper.mk (some 143) (EOp.mv (Opd.t 5)) none, EOper.mk (some 144) (EOp.mv (Opd.t 11)) none, EOper.mk (some 145) (EOp.mv (Opd.t 0)) none, EOper.mk (some
  146) (EOp.mv (Opd.t 11)) none, EOper.mk (some 147) (EOp.ixs 1 (Opd.t 145) (Opd.t 146)) none, EOper.mk (some 148) (EOp.ld false 1 (Opd.t 147)) none, EOper.mk (some 149)
  (EOp.mv (Opd.t 12)) none, EOper.mk (some 150) (EOp.app 5 1 1 [V.int .u8 (0)] (Opd.t 148) (Opd.t 149)) none, EOper.mk (some 151) (EOp.ixs 1 (Opd.t 143) (Opd.t 144)) none,
  EOper.mk none (EOp.st 1 (Opd.t 151) (Opd.t 150)) none])))
def l62_6p2 : EC := EC.ops false [EOper.mk (some 127) (EOp.mv (Opd.t 11)) none, EOper.mk (some 128) (EOp.bin .add (Opd.t 127) (Opd.c (V.int .i64 (1)))) none, EOper.mk
  (some 11) (EOp.mv (Opd.t 128)) none]
def l62_6r2 : EC := l62_6p2
def l62_6r1 : EC := EC.seq l62_6p1 l62_6r2
def l62_6r0 : EC := EC.seq l62_6p0 l62_6r1
def l62_6 : EC := l62_6r0
def l62_9p0 : EC := EC.seq (EC.ops false [EOper.mk (some 158) (EOp.mv (Opd.t 15)) none, EOper.mk (some 159) (EOp.mv (Opd.t 0)) none, EOper.mk (some 160) (EOp.mv (Opd.t
  14)) none, EOper.mk (some 161) (EOp.ixs 1 (Opd.t 159) (Opd.t 160)) none, EOper.mk (some 162) (EOp.ld false 1 (Opd.t 161)) none, EOper.mk (some 163) (EOp.len false (Opd.t
  162)) none, EOper.mk (some 164) (EOp.bin .lss (Opd.t 158) (Opd.t 163)) none]) (EC.cond (Opd.t 164) EC.skip (EC.exit 18))
def l62_9p1 : EC := EC.block 19 (EC.seq (EC.ops true [EOper.mk (some 167) (EOp.mv (Opd.t 0)) none, EOper.mk (some 168) (EOp.mv (Opd.t 14)) none, EOper.mk (some 169)
  (EOp.ixs 1 (Opd.t 167) (Opd.t 168)) none, EOper.mk (some 170) (EOp.ld false 1 (Opd.t 169)) none, EOper.mk (some 171) (EOp.mv (Opd.t 15)) none, EOper.mk (some 172)
  (EOp.ixs 1 (Opd.t 170) (Opd.t 171)) none, EOper.mk (some 173) (EOp.ld false 1 (Opd.t 172)) none, EOper.mk (some 174) (EOp.mv (Opd.t 14)) none, EOper.mk (some 175)
  (EOp.mv (Opd.t 15)) none, EOper.mk (some 176) (EOp.call (Opd.f 33) [Opd.t 174, Opd.t 175]) none, EOper.mk (some 177) (EOp.bin .eql (Opd.t 173) (Opd.t 176)) none,
  EOper.mk (some 178) (EOp.un .not (Opd.t 177)) none, EOper.mk (some 179) (EOp.mv (Opd.t 178)) none, EOper.mk (some 180) (EOp.mv (Opd.t 5)) (some (179, false)), EOper.mk
  (some 181) (EOp.mv (Opd.t 14)) (some (179, false)), EOper.mk (some 182) (EOp.ixs 1 (Opd.t 180) (Opd.t 181)) (some (179, false)), EOper.mk (some 183) (EOp.ld false 1
  (Opd.t 182)) (some (179, false)), EOper.mk (some 184) (EOp.mv (Opd.t 15)) (some (179, false)), EOper.mk (some 185) (EOp.ixs 1 (Opd.t 183) (Opd.t 184)) (some (179,
  false)), EOper.mk (some 186) (EOp.ld false 1 (Opd.t 185)) (some (179, false)), EOper.mk (some 187) (EOp.mv (Opd.t 14)) (some (179, false)), EOper.mk (some 188) (EOp.mv
  (Opd.t 15)) (some (179, false)), EOper.mk (some 189) (EOp.call (Opd.f 33) [Opd.t 187, Opd.t 188]) (some (179, false)), EOper.mk (some 190) (EOp.bin .eql (Opd.t 186)
  (Opd.t 189)) (some (179, false)), EOper.mk (some 191) (EOp.un .not (Opd.t 190)) (some (179, false)), EOper.mk (some 192) (EOp.pick (Opd.t 179) (Opd.c (V.bool true))
  (Opd.t 191)) none]) (EC.cond (Opd.t 192) (EC.seq (EC.ops false [EOper.mk (some 2) (EOp.mv (Opd.c (V.bool false))) none]) EC.ret) EC.skip))
def l62_9p2 : EC := EC.ops false [EOper.mk (some 165) (EOp.mv (Opd.t 15)) none, EOper.mk (some 166) (EOp.bin .add (Opd.t 165) (Opd.c (V.int .i64 (1)))) none, EOper.mk
  (some 15) (EOp.mv (Opd.t 166)) none]
def l62_9r2 : EC := l62_9p2
def l62_9r1 : EC := EC.seq l62_9p1 l62_9r2
def l62_9r0 : EC := EC.seq l62_9p0 l62_9r1
def l62_9 : EC := l62_9r0
def l62_8p0 : EC := EC.seq (EC.ops false [EOper.mk (some 152) (EOp.mv (Opd.t 14)) none, EOper.mk (some 153) (EOp.mv (Opd.t 0)) none, EOper.mk (some 154) (EOp.len false
  (Opd.t 153)) none, EOper.mk (some 155) (EOp.bin .lss (Opd.t 152) (Opd.t 154)) none]) (EC.cond (Opd.t 155) EC.skip (EC.exit 16))
def l62_8p1 : EC := EC.block 17 (EC.seq (EC.ops false [EOper.mk (some 15) (EOp.mv (Opd.c (V.int .i64 (0)))) none]) (EC.block 18 (EC.loop l62_9)))
def l62_8p2 : EC := EC.ops false [EOper.mk (some 156) (EOp.mv (Opd.t 14)) none, EOper.mk (some 157) (EOp.bin .add (Opd.t 156) (Opd.c (V.int .i64 (1)))) none, EOper.mk
  (some 14) (EOp.mv (Opd.t 157)) none]
def l62_8r2 : EC := l62_8p2
def l62_8r1 : EC := EC.seq l62_8p1 l62_8r2
def l62_8r0 : EC := EC.seq l62_8p0 l62_8r1
def l62_8 : EC := l62_8r0
def b62_0 : EC := EC.ops false [EOper.mk (some 2) (EOp.mv (Opd.c (V.bool false))) none]
def b62_1 : EC := EC.seq (EC.ops false [EOper.mk (some 3) (EOp.mv (Opd.c (V.int .i64 (0)))) none]) (EC.block 0 (EC.loop l62_0))
def b62_2 : EC := EC.ops false [EOper.mk (some 40) (EOp.mv (Opd.t 0)) none, EOper.mk (some 41) (EOp.len false (Opd.t 40)) none, EOper.mk (some 42) (EOp.mksl 27 [V.sl none
  0 0] 24 (Opd.t 41) (Opd.t 41)) none, EOper.mk (some 5) (EOp.mv (Opd.t 42)) none]
def b62_3 : EC := EC.seq (EC.ops false [EOper.mk (some 6) (EOp.mv (Opd.c (V.int .i64 (0)))) none]) (EC.block 4 (EC.loop l62_2))
def b62_4 : EC := EC.seq (EC.ops false [EOper.mk (some 9) (EOp.mv (Opd.c (V.int .i64 (0)))) none]) (EC.block 8 (EC.loop l62_4))
def b62_5 : EC := EC.seq (EC.ops false [EOper.mk (some 11) (EOp.mv (Opd.c (V.int .i64 (0)))) none]) (EC.block 12 (EC.loop l62_6))
def b62_6 : EC := EC.seq (EC.ops false [EOper.mk (some 14) (EOp.mv (Opd.c (V.int .i64 (0)))) none]) (EC.block 16 (EC.loop l62_8))
def b62_7 : EC := EC.ops false [EOper.mk (some 2) (EOp.mv (Opd.c (V.bool true))) none]
def b62_8 : EC := EC.ret
def r62_8 : EC := b62_8
def r62_7 : EC := EC.seq b62_7 r62_8
def r62_6 : EC := EC.seq b62_6 r62_7
def r62_5 : EC := EC.seq b62_5 r62_6
def r62_4 : EC := EC.seq b62_4 r62_5
def r62_3 : EC := EC.seq b62_3 r62_4
def r62_2 : EC := EC.seq b62_2 r62_3
def r62_1 : EC := EC.seq b62_1 r62_2
def r62_0 : EC := EC.seq b62_0 r62_1
def e62 : EFun := EFun.mk 193 [ERes.t 2] r62_0
theorem c62 : cFun Tryd.prog 2 (fun _ => false) Tryd.f62 = some e62 := by kernel_rfl
theorem x62 : Tryd.prog.funcs[62]? = some Tryd.f62 := by kernel_rfl
theorem n62 : (Tryd.f62.name == "runtime.NumGoroutine") = false := by kernel_rfl
end Go.Ev
