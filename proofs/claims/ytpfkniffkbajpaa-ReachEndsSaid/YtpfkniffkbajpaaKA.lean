/- dev: forms (printed by forms.py) -/
import Derived.Test.YtpfkniffkbajpaaChecked
import Derived.Test.YtpfkniffkbajpaaEvV
set_option linter.all false
namespace Go.Ev
open Go Go.Proofs
set_option maxRecDepth 1000000
/-! 3: septumlaw02.ReachOne -/
def b3_0 : EC := EC.ops false [EOper.mk (some 3) (EOp.box true 24 (Opd.t 0)) none, EOper.mk (some 6) (EOp.mv (Opd.c (V.bool false))) none]
def m3_0 : List Bool := [false, false, false, true, false, false, true, false, false, false, false, false, false, false, false, false, false, false, false, false, false, false, false, false, false, false, false, false, false, false, false, false, false, false, false, false, false, false, false, false, false, false, false, false, false, false, false, false, false, false, false, false, false, false, false, false, false, false, false, false, false, false, false, false, false, false, false, false, false, false, false, false, false, false, false, false, false, false, false, false, false, false, false, false, false]
def b3_1 : EC := EC.ops false [EOper.mk (some 16) (EOp.mv (Opd.t 1)) none, EOper.mk (some 17) (EOp.mv (Opd.t 2)) none, EOper.mk (some 18) (EOp.call (Opd.f 9) [Opd.t 16,
  Opd.t 17]) none, EOper.mk (some 15) (EOp.mv (Opd.t 18)) none, EOper.mk (some 19) (EOp.ext (Opd.t 15) 0) none, EOper.mk (some 20) (EOp.ext (Opd.t 15) 1) none, EOper.mk
  (some 7) (EOp.alloc true 24 [V.int .u32 (0), V.int .u32 (0)]) none, EOper.mk none (EOp.st 2 (Opd.t 7) (Opd.t 19)) none, EOper.mk (some 8) (EOp.mv (Opd.t 20)) none]
def m3_1 : List Bool := [false, false, false, false, false, false, false, true, true, false, false, false, false, false, false, true, true, true, true, true, true, false, false, false, false, false, false, false, false, false, false, false, false, false, false, false, false, false, false, false, false, false, false, false, false, false, false, false, false, false, false, false, false, false, false, false, false, false, false, false, false, false, false, false, false, false, false, false, false, false, false, false, false, false, false, false, false, false, false, false, false, false, false, false, false]
def b3_2 : EC := EC.ops false [EOper.mk (some 22) (EOp.mv (Opd.t 1)) none, EOper.mk (some 23) (EOp.mv (Opd.t 2)) none, EOper.mk (some 24) (EOp.call (Opd.f 10) [Opd.t 22,
  Opd.t 23]) none, EOper.mk (some 21) (EOp.mv (Opd.t 24)) none, EOper.mk (some 25) (EOp.ext (Opd.t 21) 0) none, EOper.mk (some 26) (EOp.ext (Opd.t 21) 1) none, EOper.mk
  (some 9) (EOp.alloc true 24 [V.int .u32 (0), V.int .u32 (0)]) none, EOper.mk none (EOp.st 2 (Opd.t 9) (Opd.t 25)) none, EOper.mk (some 10) (EOp.mv (Opd.t 26)) none]
def m3_2 : List Bool := [false, false, false, false, false, false, false, false, false, true, true, false, false, false, false, false, false, false, false, false, false, true, true, true, true, true, true, false, false, false, false, false, false, false, false, false, false, false, false, false, false, false, false, false, false, false, false, false, false, false, false, false, false, false, false, false, false, false, false, false, false, false, false, false, false, false, false, false, false, false, false, false, false, false, false, false, false, false, false, false, false, false, false, false, false]
def b3_3 : EC := EC.ops false [EOper.mk (some 28) (EOp.mv (Opd.t 1)) none, EOper.mk (some 29) (EOp.mv (Opd.t 2)) none, EOper.mk (some 30) (EOp.call (Opd.f 11) [Opd.t 29,
  Opd.c (V.int .i64 (9))]) none, EOper.mk (some 31) (EOp.call (Opd.f 9) [Opd.t 28, Opd.t 30]) none, EOper.mk (some 27) (EOp.mv (Opd.t 31)) none, EOper.mk (some 32)
  (EOp.ext (Opd.t 27) 0) none, EOper.mk (some 33) (EOp.ext (Opd.t 27) 1) none, EOper.mk (some 11) (EOp.alloc true 24 [V.int .u32 (0), V.int .u32 (0)]) none, EOper.mk none
  (EOp.st 2 (Opd.t 11) (Opd.t 32)) none, EOper.mk (some 12) (EOp.mv (Opd.t 33)) none]
def m3_3 : List Bool := [false, false, false, false, false, false, false, false, false, false, false, true, true, false, false, false, false, false, false, false, false, false, false, false, false, false, false, true, true, true, true, true, true, true, false, false, false, false, false, false, false, false, false, false, false, false, false, false, false, false, false, false, false, false, false, false, false, false, false, false, false, false, false, false, false, false, false, false, false, false, false, false, false, false, false, false, false, false, false, false, false, false, false, false, false]
def b3_4 : EC := EC.ops false [EOper.mk (some 35) (EOp.mv (Opd.t 1)) none, EOper.mk (some 36) (EOp.mv (Opd.t 2)) none, EOper.mk (some 37) (EOp.call (Opd.f 11) [Opd.t 36,
  Opd.c (V.int .i64 (9))]) none, EOper.mk (some 38) (EOp.call (Opd.f 10) [Opd.t 35, Opd.t 37]) none, EOper.mk (some 34) (EOp.mv (Opd.t 38)) none, EOper.mk (some 39)
  (EOp.ext (Opd.t 34) 0) none, EOper.mk (some 40) (EOp.ext (Opd.t 34) 1) none, EOper.mk (some 13) (EOp.alloc true 24 [V.int .u32 (0), V.int .u32 (0)]) none, EOper.mk none
  (EOp.st 2 (Opd.t 13) (Opd.t 39)) none, EOper.mk (some 14) (EOp.mv (Opd.t 40)) none]
def m3_4 : List Bool := [false, false, false, false, false, false, false, false, false, false, false, false, false, true, true, false, false, false, false, false, false, false, false, false, false, false, false, false, false, false, false, false, false, false, true, true, true, true, true, true, true, false, false, false, false, false, false, false, false, false, false, false, false, false, false, false, false, false, false, false, false, false, false, false, false, false, false, false, false, false, false, false, false, false, false, false, false, false, false, false, false, false, false, false, false]
def b3_5 : EC := EC.ops true [EOper.mk (some 41) (EOp.ld true 2 (Opd.t 3)) none, EOper.mk (some 42) (EOp.call (Opd.f 12) [Opd.t 41]) none, EOper.mk (some 43) (EOp.ld true
  2 (Opd.t 3)) none, EOper.mk (some 44) (EOp.call (Opd.f 13) [Opd.t 43]) none, EOper.mk (some 45) (EOp.eqb false (Opd.t 42) (Opd.t 44)) none, EOper.mk (some 46) (EOp.mv
  (Opd.t 45)) none, EOper.mk (some 47) (EOp.ld true 2 (Opd.t 3)) (some (46, true)), EOper.mk (some 48) (EOp.call (Opd.f 14) [Opd.t 47]) (some (46, true)), EOper.mk (some
  49) (EOp.ld true 2 (Opd.t 3)) (some (46, true)), EOper.mk (some 50) (EOp.call (Opd.f 15) [Opd.t 49]) (some (46, true)), EOper.mk (some 51) (EOp.bin .eql (Opd.t 48)
  (Opd.t 50)) (some (46, true)), EOper.mk (some 52) (EOp.pick (Opd.t 46) (Opd.t 51) (Opd.c (V.bool false))) none, EOper.mk (some 53) (EOp.mv (Opd.t 52)) none, EOper.mk
  (some 54) (EOp.ld true 2 (Opd.t 3)) (some (53, true)), EOper.mk (some 55) (EOp.mv (Opd.t 1)) (some (53, true)), EOper.mk (some 56) (EOp.call (Opd.f 16) [Opd.t 54, Opd.t
  55]) (some (53, true)), EOper.mk (some 57) (EOp.ld true 2 (Opd.t 3)) (some (53, true)), EOper.mk (some 58) (EOp.mv (Opd.t 1)) (some (53, true)), EOper.mk (some 59)
  (EOp.call (Opd.f 17) [Opd.t 57, Opd.t 58]) (some (53, true)), EOper.mk (some 60) (EOp.eqb false (Opd.t 56) (Opd.t 59)) (some (53, true)), EOper.mk (some 61) (EOp.pick
  (Opd.t 53) (Opd.t 60) (Opd.c (V.bool false))) none, EOper.mk (some 62) (EOp.mv (Opd.t 61)) none, EOper.mk (some 63) (EOp.ld true 2 (Opd.t 7)) (some (62, true)), EOper.mk
  (some 64) (EOp.ld true 2 (Opd.t 9)) (some (62, true)), EOper.mk (some 65) (EOp.cmp false [true, true] (Opd.t 63) (Opd.t 64)) (some (62, true)), EOper.mk (some 66)
  (EOp.pick (Opd.t 62) (Opd.t 65) (Opd.c (V.bool false))) none, EOper.mk (some 67) (EOp.mv (Opd.t 66)) none, EOper.mk (some 68) (EOp.mv (Opd.t 8)) (some (67, true)),
  EOper.mk (some 69) (EOp.mv (Opd.t 10)) (some (67, true)), EOper.mk (some 70) (EOp.eqb false (Opd.t 68) (Opd.t 69)) (some (67, true)), EOper.mk (some 71) (EOp.pick (Opd.t
  67) (Opd.t 70) (Opd.c (V.bool false))) none, EOper.mk (some 72) (EOp.mv (Opd.t 71)) none, EOper.mk (some 73) (EOp.ld true 2 (Opd.t 11)) (some (72, true)), EOper.mk (some
  74) (EOp.ld true 2 (Opd.t 13)) (some (72, true)), EOper.mk (some 75) (EOp.cmp false [true, true] (Opd.t 73) (Opd.t 74)) (some (72, true)), EOper.mk (some 76) (EOp.pick
  (Opd.t 72) (Opd.t 75) (Opd.c (V.bool false))) none, EOper.mk (some 77) (EOp.mv (Opd.t 76)) none, EOper.mk (some 78) (EOp.mv (Opd.t 12)) (some (77, true)), EOper.mk (some
  79) (EOp.mv (Opd.t 14)) (some (77, true)), EOper.mk (some 80) (EOp.eqb false (Opd.t 78) (Opd.t 79)) (some (77, true)), EOper.mk (some 81) (EOp.pick (Opd.t 77) (Opd.t 80)
  (Opd.c (V.bool false))) none, EOper.mk (some 82) (EOp.mv (Opd.t 81)) none, EOper.mk (some 83) (EOp.call (Opd.f 18) []) (some (82, true)), EOper.mk (some 84) (EOp.pick
  (Opd.t 82) (Opd.t 83) (Opd.c (V.bool false))) none, EOper.mk (some 6) (EOp.mv (Opd.t 84)) none]
def m3_5 : List Bool := [false, false, false, false, false, false, true, false, false, false, false, false, false, false, false, false, false, false, false, false, false, false, false, false, false, false, false, false, false, false, false, false, false, false, false, false, false, false, false, false, false, true, true, true, true, true, true, true, true, true, true, true, true, true, true, true, true, true, true, true, true, true, true, true, true, true, true, true, true, true, true, true, true, true, true, true, true, true, true, true, true, true, true, true, true]
def b3_6 : EC := EC.ret
def m3_6 : List Bool := [false, false, false, false, false, false, false, false, false, false, false, false, false, false, false, false, false, false, false, false, false, false, false, false, false, false, false, false, false, false, false, false, false, false, false, false, false, false, false, false, false, false, false, false, false, false, false, false, false, false, false, false, false, false, false, false, false, false, false, false, false, false, false, false, false, false, false, false, false, false, false, false, false, false, false, false, false, false, false, false, false, false, false, false, false]
def r3_6 : EC := b3_6
def r3_5 : EC := EC.seq b3_5 r3_6
def r3_4 : EC := EC.seq b3_4 r3_5
def r3_3 : EC := EC.seq b3_3 r3_4
def r3_2 : EC := EC.seq b3_2 r3_3
def r3_1 : EC := EC.seq b3_1 r3_2
def r3_0 : EC := EC.seq b3_0 r3_1
def e3 : EFun := EFun.mk 85 [ERes.t 6] r3_0
theorem c3 : cFun Try.prog 0 (fun _ => false) Try.f3 = some e3 := by kernel_rfl
theorem x3 : Try.prog.funcs[3]? = some Try.f3 := by kernel_rfl
theorem n3 : (Try.f3.name == "runtime.NumGoroutine") = false := by kernel_rfl
/-! 4: septumlaw02.ReachTwo -/
def b4_0 : EC := EC.ops false [EOper.mk (some 2) (EOp.box true 24 (Opd.t 0)) none, EOper.mk (some 3) (EOp.box true 24 (Opd.t 1)) none, EOper.mk (some 4) (EOp.mv (Opd.c
  (V.bool false))) none]
def m4_0 : List Bool := [false, false, true, true, true, false, false, false, false, false, false, false, false, false, false, false, false, false, false, false, false]
def b4_1 : EC := EC.ops false [EOper.mk (some 5) (EOp.ld true 2 (Opd.t 2)) none, EOper.mk (some 6) (EOp.ld true 2 (Opd.t 3)) none, EOper.mk (some 7) (EOp.call (Opd.f 19)
  [Opd.t 5, Opd.t 6]) none, EOper.mk (some 8) (EOp.mv (Opd.t 7)) none, EOper.mk (some 9) (EOp.ld true 2 (Opd.t 3)) (some (8, true)), EOper.mk (some 10) (EOp.ld true 2
  (Opd.t 2)) (some (8, true)), EOper.mk (some 11) (EOp.call (Opd.f 19) [Opd.t 9, Opd.t 10]) (some (8, true)), EOper.mk (some 12) (EOp.pick (Opd.t 8) (Opd.t 11) (Opd.c
  (V.bool false))) none, EOper.mk (some 13) (EOp.mv (Opd.t 12)) none, EOper.mk (some 14) (EOp.ld true 2 (Opd.t 2)) (some (13, true)), EOper.mk (some 15) (EOp.ld true 2
  (Opd.t 2)) (some (13, true)), EOper.mk (some 16) (EOp.call (Opd.f 19) [Opd.t 14, Opd.t 15]) (some (13, true)), EOper.mk (some 17) (EOp.pick (Opd.t 13) (Opd.t 16) (Opd.c
  (V.bool false))) none, EOper.mk (some 18) (EOp.mv (Opd.t 17)) none, EOper.mk (some 19) (EOp.call (Opd.f 18) []) (some (18, true)), EOper.mk (some 20) (EOp.pick (Opd.t
  18) (Opd.t 19) (Opd.c (V.bool false))) none, EOper.mk (some 4) (EOp.mv (Opd.t 20)) none]
def m4_1 : List Bool := [false, false, false, false, true, true, true, true, true, true, true, true, true, true, true, true, true, true, true, true, true]
def b4_2 : EC := EC.ret
def m4_2 : List Bool := [false, false, false, false, false, false, false, false, false, false, false, false, false, false, false, false, false, false, false, false, false]
def r4_2 : EC := b4_2
def r4_1 : EC := EC.seq b4_1 r4_2
def r4_0 : EC := EC.seq b4_0 r4_1
def e4 : EFun := EFun.mk 21 [ERes.t 4] r4_0
theorem c4 : cFun Try.prog 0 (fun _ => false) Try.f4 = some e4 := by kernel_rfl
theorem x4 : Try.prog.funcs[4]? = some Try.f4 := by kernel_rfl
theorem n4 : (Try.f4.name == "runtime.NumGoroutine") = false := by kernel_rfl
/-! 5: septumlaw02.ReachOrder -/
def b5_0 : EC := EC.ops false [EOper.mk (some 3) (EOp.box true 24 (Opd.t 0)) none, EOper.mk (some 4) (EOp.box true 24 (Opd.t 1)) none, EOper.mk (some 5) (EOp.box true 24
  (Opd.t 2)) none, EOper.mk (some 6) (EOp.mv (Opd.c (V.bool false))) none]
def m5_0 : List Bool := [false, false, false, true, true, true, true, false, false, false, false, false, false, false, false, false, false, false, false, false, false, false, false, false, false, false, false, false, false, false, false, false, false, false, false, false, false, false, false, false, false, false, false, false, false, false, false, false, false, false, false, false, false, false, false, false, false, false, false, false, false, false, false, false, false, false, false, false, false, false, false, false, false, false, false, false, false, false]
def b5_1 : EC := EC.seq (EC.ops false [EOper.mk (some 7) (EOp.call (Opd.f 18) []) none, EOper.mk (some 8) (EOp.un .not (Opd.t 7)) none]) (EC.cond (Opd.t 8) (EC.seq (EC.ops
  false [EOper.mk (some 6) (EOp.mv (Opd.c (V.bool false))) none]) EC.ret) EC.skip)
def m5_1 : List Bool := [false, false, false, false, false, false, true, true, true, false, false, false, false, false, false, false, false, false, false, false, false, false, false, false, false, false, false, false, false, false, false, false, false, false, false, false, false, false, false, false, false, false, false, false, false, false, false, false, false, false, false, false, false, false, false, false, false, false, false, false, false, false, false, false, false, false, false, false, false, false, false, false, false, false, false, false, false, false]
def b5_2 : EC := EC.seq (EC.ops true [EOper.mk (some 9) (EOp.ld true 2 (Opd.t 3)) none, EOper.mk (some 10) (EOp.ld true 2 (Opd.t 4)) none, EOper.mk (some 11) (EOp.cmp true
  [true, true] (Opd.t 9) (Opd.t 10)) none, EOper.mk (some 12) (EOp.mv (Opd.t 11)) none, EOper.mk (some 13) (EOp.ld true 2 (Opd.t 3)) (some (12, true)), EOper.mk (some 14)
  (EOp.ld true 2 (Opd.t 4)) (some (12, true)), EOper.mk (some 15) (EOp.call (Opd.f 20) [Opd.t 13, Opd.t 14]) (some (12, true)), EOper.mk (some 16) (EOp.ld true 2 (Opd.t
  4)) (some (12, true)), EOper.mk (some 17) (EOp.ld true 2 (Opd.t 3)) (some (12, true)), EOper.mk (some 18) (EOp.call (Opd.f 20) [Opd.t 16, Opd.t 17]) (some (12, true)),
  EOper.mk (some 19) (EOp.eqb false (Opd.t 15) (Opd.t 18)) (some (12, true)), EOper.mk (some 20) (EOp.pick (Opd.t 12) (Opd.t 19) (Opd.c (V.bool false))) none, EOper.mk
  (some 21) (EOp.mv (Opd.t 20)) none, EOper.mk (some 22) (EOp.ld true 2 (Opd.t 3)) (some (21, false)), EOper.mk (some 23) (EOp.ld true 2 (Opd.t 3)) (some (21, false)),
  EOper.mk (some 24) (EOp.call (Opd.f 20) [Opd.t 22, Opd.t 23]) (some (21, false)), EOper.mk (some 25) (EOp.pick (Opd.t 21) (Opd.c (V.bool true)) (Opd.t 24)) none,
  EOper.mk (some 26) (EOp.mv (Opd.t 25)) none, EOper.mk (some 27) (EOp.ld true 2 (Opd.t 3)) (some (26, false)), EOper.mk (some 28) (EOp.ld true 2 (Opd.t 4)) (some (26,
  false)), EOper.mk (some 29) (EOp.call (Opd.f 20) [Opd.t 27, Opd.t 28]) (some (26, false)), EOper.mk (some 30) (EOp.mv (Opd.t 29)) (some (26, false)), EOper.mk (some 31)
  (EOp.ld true 2 (Opd.t 4)) (some (30, true)), EOper.mk (some 32) (EOp.ld true 2 (Opd.t 5)) (some (30, true)), EOper.mk (some 33) (EOp.call (Opd.f 20) [Opd.t 31, Opd.t
  32]) (some (30, true)), EOper.mk (some 34) (EOp.pick (Opd.t 30) (Opd.t 33) (Opd.c (V.bool false))) (some (26, false)), EOper.mk (some 35) (EOp.mv (Opd.t 34)) (some (26,
  false)), EOper.mk (some 36) (EOp.ld true 2 (Opd.t 3)) (some (35, true)), EOper.mk (some 37) (EOp.ld true 2 (Opd.t 5)) (some (35, true)), EOper.mk (some 38) (EOp.call
  (Opd.f 20) [Opd.t 36, Opd.t 37]) (some (35, true)), EOper.mk (some 39) (EOp.un .not (Opd.t 38)) (some (35, true)), EOper.mk (some 40) (EOp.pick (Opd.t 35) (Opd.t 39)
  (Opd.c (V.bool false))) (some (26, false)), EOper.mk (some 41) (EOp.pick (Opd.t 26) (Opd.c (V.bool true)) (Opd.t 40)) none]) (EC.cond (Opd.t 41) (EC.seq (EC.ops false
  [EOper.mk (some 6) (EOp.mv (Opd.c (V.bool false))) none]) EC.ret) EC.skip)
def m5_2 : List Bool := [false, false, false, false, false, false, true, false, false, true, true, true, true, true, true, true, true, true, true, true, true, true, true, true, true, true, true, true, true, true, true, true, true, true, true, true, true, true, true, true, true, true, false, false, false, false, false, false, false, false, false, false, false, false, false, false, false, false, false, false, false, false, false, false, false, false, false, false, false, false, false, false, false, false, false, false, false, false]
def b5_3 : EC := EC.seq (EC.ops false [EOper.mk (some 42) (EOp.ld true 2 (Opd.t 3)) none, EOper.mk (some 43) (EOp.ld true 2 (Opd.t 4)) none, EOper.mk (some 44) (EOp.call
  (Opd.f 21) [Opd.t 42, Opd.t 43]) none, EOper.mk (some 45) (EOp.mv (Opd.t 44)) none, EOper.mk (some 46) (EOp.ld true 2 (Opd.t 4)) (some (45, true)), EOper.mk (some 47)
  (EOp.ld true 2 (Opd.t 5)) (some (45, true)), EOper.mk (some 48) (EOp.call (Opd.f 21) [Opd.t 46, Opd.t 47]) (some (45, true)), EOper.mk (some 49) (EOp.pick (Opd.t 45)
  (Opd.t 48) (Opd.c (V.bool false))) none, EOper.mk (some 50) (EOp.mv (Opd.t 49)) none, EOper.mk (some 51) (EOp.ld true 2 (Opd.t 3)) (some (50, true)), EOper.mk (some 52)
  (EOp.ld true 2 (Opd.t 5)) (some (50, true)), EOper.mk (some 53) (EOp.call (Opd.f 21) [Opd.t 51, Opd.t 52]) (some (50, true)), EOper.mk (some 54) (EOp.un .not (Opd.t 53))
  (some (50, true)), EOper.mk (some 55) (EOp.pick (Opd.t 50) (Opd.t 54) (Opd.c (V.bool false))) none]) (EC.cond (Opd.t 55) (EC.seq (EC.ops false [EOper.mk (some 6) (EOp.mv
  (Opd.c (V.bool false))) none]) EC.ret) EC.skip)
def m5_3 : List Bool := [false, false, false, false, false, false, true, false, false, false, false, false, false, false, false, false, false, false, false, false, false, false, false, false, false, false, false, false, false, false, false, false, false, false, false, false, false, false, false, false, false, false, true, true, true, true, true, true, true, true, true, true, true, true, true, true, false, false, false, false, false, false, false, false, false, false, false, false, false, false, false, false, false, false, false, false, false, false]
def b5_4 : EC := EC.ops true [EOper.mk (some 56) (EOp.ld true 2 (Opd.t 3)) none, EOper.mk (some 57) (EOp.ld true 2 (Opd.t 4)) none, EOper.mk (some 58) (EOp.call (Opd.f 21)
  [Opd.t 56, Opd.t 57]) none, EOper.mk (some 59) (EOp.un .not (Opd.t 58)) none, EOper.mk (some 60) (EOp.mv (Opd.t 59)) none, EOper.mk (some 61) (EOp.ld true 2 (Opd.t 3))
  (some (60, false)), EOper.mk (some 62) (EOp.call (Opd.f 14) [Opd.t 61]) (some (60, false)), EOper.mk (some 63) (EOp.ld true 2 (Opd.t 4)) (some (60, false)), EOper.mk
  (some 64) (EOp.call (Opd.f 14) [Opd.t 63]) (some (60, false)), EOper.mk (some 65) (EOp.bin .leq (Opd.t 62) (Opd.t 64)) (some (60, false)), EOper.mk (some 66) (EOp.mv
  (Opd.t 65)) (some (60, false)), EOper.mk (some 67) (EOp.ld true 2 (Opd.t 4)) (some (66, true)), EOper.mk (some 68) (EOp.ld true 2 (Opd.t 3)) (some (66, true)), EOper.mk
  (some 69) (EOp.call (Opd.f 21) [Opd.t 67, Opd.t 68]) (some (66, true)), EOper.mk (some 70) (EOp.un .not (Opd.t 69)) (some (66, true)), EOper.mk (some 71) (EOp.mv (Opd.t
  70)) (some (66, true)), EOper.mk (some 72) (EOp.ld true 2 (Opd.t 3)) (some (71, false)), EOper.mk (some 73) (EOp.ld true 2 (Opd.t 4)) (some (71, false)), EOper.mk (some
  74) (EOp.cmp false [true, true] (Opd.t 72) (Opd.t 73)) (some (71, false)), EOper.mk (some 75) (EOp.pick (Opd.t 71) (Opd.c (V.bool true)) (Opd.t 74)) (some (66, true)),
  EOper.mk (some 76) (EOp.pick (Opd.t 66) (Opd.t 75) (Opd.c (V.bool false))) (some (60, false)), EOper.mk (some 77) (EOp.pick (Opd.t 60) (Opd.c (V.bool true)) (Opd.t 76))
  none, EOper.mk (some 6) (EOp.mv (Opd.t 77)) none]
def m5_4 : List Bool := [false, false, false, false, false, false, true, false, false, false, false, false, false, false, false, false, false, false, false, false, false, false, false, false, false, false, false, false, false, false, false, false, false, false, false, false, false, false, false, false, false, false, false, false, false, false, false, false, false, false, false, false, false, false, false, false, true, true, true, true, true, true, true, true, true, true, true, true, true, true, true, true, true, true, true, true, true, true]
def b5_5 : EC := EC.ret
def m5_5 : List Bool := [false, false, false, false, false, false, false, false, false, false, false, false, false, false, false, false, false, false, false, false, false, false, false, false, false, false, false, false, false, false, false, false, false, false, false, false, false, false, false, false, false, false, false, false, false, false, false, false, false, false, false, false, false, false, false, false, false, false, false, false, false, false, false, false, false, false, false, false, false, false, false, false, false, false, false, false, false, false]
def r5_5 : EC := b5_5
def r5_4 : EC := EC.seq b5_4 r5_5
def r5_3 : EC := EC.seq b5_3 r5_4
def r5_2 : EC := EC.seq b5_2 r5_3
def r5_1 : EC := EC.seq b5_1 r5_2
def r5_0 : EC := EC.seq b5_0 r5_1
def e5 : EFun := EFun.mk 78 [ERes.t 6] r5_0
theorem c5 : cFun Try.prog 0 (fun _ => false) Try.f5 = some e5 := by kernel_rfl
theorem x5 : Try.prog.funcs[5]? = some Try.f5 := by kernel_rfl
theorem n5 : (Try.f5.name == "runtime.NumGoroutine") = false := by kernel_rfl
/-! 6: septumlaw02.ReachApart -/
def b6_0 : EC := EC.ops false [EOper.mk (some 2) (EOp.mv (Opd.c (V.bool false))) none]
def m6_0 : List Bool := [false, false, true, false, false, false, false, false, false, false, false, false, false, false, false, false, false, false, false, false, false, false, false, false]
def b6_1 : EC := EC.seq (EC.ops false [EOper.mk (some 4) (EOp.mv (Opd.t 0)) none, EOper.mk (some 5) (EOp.len false (Opd.t 4)) none, EOper.mk (some 6) (EOp.bin .gtr (Opd.t
  5) (Opd.c (V.int .i64 (200)))) none]) (EC.cond (Opd.t 6) (EC.seq (EC.ops false [EOper.mk (some 7) (EOp.call (Opd.f 18) []) none, EOper.mk (some 2) (EOp.mv (Opd.t 7))
  none]) EC.ret) EC.skip)
def m6_1 : List Bool := [false, false, true, false, true, true, true, true, false, false, false, false, false, false, false, false, false, false, false, false, false, false, false, false]
def b6_2 : EC := EC.ops false [EOper.mk (some 8) (EOp.bslice 24 0 [] []) none, EOper.mk (some 9) (EOp.mv (Opd.t 0)) none, EOper.mk (some 10) (EOp.app 24 2 8 [V.int .u32
  (0), V.int .u32 (0)] (Opd.t 8) (Opd.t 9)) none, EOper.mk (some 3) (EOp.mv (Opd.t 10)) none]
def m6_2 : List Bool := [false, false, false, true, false, false, false, false, true, true, true, false, false, false, false, false, false, false, false, false, false, false, false, false]
def b6_3 : EC := EC.ops false [EOper.mk (some 11) (EOp.mv (Opd.t 3)) none, EOper.mk (some 12) (EOp.call (Opd.f 22) [Opd.t 11]) none, EOper.mk (some 13) (EOp.mv (Opd.t 0))
  none, EOper.mk (some 14) (EOp.call (Opd.f 23) [Opd.t 13]) none, EOper.mk (some 15) (EOp.eqb false (Opd.t 12) (Opd.t 14)) none, EOper.mk (some 16) (EOp.mv (Opd.t 15))
  none, EOper.mk (some 17) (EOp.mv (Opd.t 3)) (some (16, true)), EOper.mk (some 18) (EOp.mv (Opd.t 0)) (some (16, true)), EOper.mk (some 19) (EOp.call (Opd.f 24) [Opd.t
  17, Opd.t 18]) (some (16, true)), EOper.mk (some 20) (EOp.pick (Opd.t 16) (Opd.t 19) (Opd.c (V.bool false))) none, EOper.mk (some 21) (EOp.mv (Opd.t 20)) none, EOper.mk
  (some 22) (EOp.call (Opd.f 18) []) (some (21, true)), EOper.mk (some 23) (EOp.pick (Opd.t 21) (Opd.t 22) (Opd.c (V.bool false))) none, EOper.mk (some 2) (EOp.mv (Opd.t
  23)) none]
def m6_3 : List Bool := [false, false, true, false, false, false, false, false, false, false, false, true, true, true, true, true, true, true, true, true, true, true, true, true]
def b6_4 : EC := EC.ret
def m6_4 : List Bool := [false, false, false, false, false, false, false, false, false, false, false, false, false, false, false, false, false, false, false, false, false, false, false, false]
def r6_4 : EC := b6_4
def r6_3 : EC := EC.seq b6_3 r6_4
def r6_2 : EC := EC.seq b6_2 r6_3
def r6_1 : EC := EC.seq b6_1 r6_2
def r6_0 : EC := EC.seq b6_0 r6_1
def e6 : EFun := EFun.mk 24 [ERes.t 2] r6_0
theorem c6 : cFun Try.prog 0 (fun _ => false) Try.f6 = some e6 := by kernel_rfl
theorem x6 : Try.prog.funcs[6]? = some Try.f6 := by kernel_rfl
theorem n6 : (Try.f6.name == "runtime.NumGoroutine") = false := by kernel_rfl
/-! 7: septumlaw02.ReachMeets -/
def b7_0 : EC := EC.ops false [EOper.mk (some 4) (EOp.box true 24 (Opd.t 0)) none, EOper.mk (some 5) (EOp.box true 24 (Opd.t 1)) none, EOper.mk (some 8) (EOp.mv (Opd.c
  (V.bool false))) none]
def m7_0 : List Bool := [false, false, false, false, true, true, false, false, true, false, false, false, false, false, false, false, false, false, false, false, false, false, false, false, false, false, false, false, false, false, false, false, false, false, false, false, false, false, false, false, false, false, false, false, false, false, false, false, false, false, false, false, false, false, false, false, false, false, false, false, false, false, false, false, false, false, false, false, false, false, false, false, false, false, false, false, false, false, false, false, false, false, false, false, false, false, false, false, false, false, false, false, false, false, false, false, false, false, false, false, false, false, false, false, false, false, false, false, false, false, false, false, false, false, false, false, false, false, false, false, false, false, false, false, false, false, false, false, false, false, false, false]
def b7_1 : EC := EC.seq (EC.ops false [EOper.mk (some 15) (EOp.call (Opd.f 18) []) none, EOper.mk (some 16) (EOp.un .not (Opd.t 15)) none]) (EC.cond (Opd.t 16) (EC.seq
  (EC.ops false [EOper.mk (some 8) (EOp.mv (Opd.c (V.bool false))) none]) EC.ret) EC.skip)
def m7_1 : List Bool := [false, false, false, false, false, false, false, false, true, false, false, false, false, false, false, true, true, false, false, false, false, false, false, false, false, false, false, false, false, false, false, false, false, false, false, false, false, false, false, false, false, false, false, false, false, false, false, false, false, false, false, false, false, false, false, false, false, false, false, false, false, false, false, false, false, false, false, false, false, false, false, false, false, false, false, false, false, false, false, false, false, false, false, false, false, false, false, false, false, false, false, false, false, false, false, false, false, false, false, false, false, false, false, false, false, false, false, false, false, false, false, false, false, false, false, false, false, false, false, false, false, false, false, false, false, false, false, false, false, false, false, false]
def b7_2 : EC := EC.ops false [EOper.mk (some 18) (EOp.ld true 2 (Opd.t 4)) none, EOper.mk (some 19) (EOp.ld true 2 (Opd.t 5)) none, EOper.mk (some 20) (EOp.call (Opd.f
  25) [Opd.t 18, Opd.t 19]) none, EOper.mk (some 17) (EOp.mv (Opd.t 20)) none, EOper.mk (some 21) (EOp.ext (Opd.t 17) 0) none, EOper.mk (some 22) (EOp.ext (Opd.t 17) 1)
  none, EOper.mk (some 9) (EOp.alloc true 24 [V.int .u32 (0), V.int .u32 (0)]) none, EOper.mk none (EOp.st 2 (Opd.t 9) (Opd.t 21)) none, EOper.mk (some 10) (EOp.mv (Opd.t
  22)) none]
def m7_2 : List Bool := [false, false, false, false, false, false, false, false, false, true, true, false, false, false, false, false, false, true, true, true, true, true, true, false, false, false, false, false, false, false, false, false, false, false, false, false, false, false, false, false, false, false, false, false, false, false, false, false, false, false, false, false, false, false, false, false, false, false, false, false, false, false, false, false, false, false, false, false, false, false, false, false, false, false, false, false, false, false, false, false, false, false, false, false, false, false, false, false, false, false, false, false, false, false, false, false, false, false, false, false, false, false, false, false, false, false, false, false, false, false, false, false, false, false, false, false, false, false, false, false, false, false, false, false, false, false, false, false, false, false, false, false]
def b7_3 : EC := EC.ops false [EOper.mk (some 24) (EOp.ld true 2 (Opd.t 5)) none, EOper.mk (some 25) (EOp.ld true 2 (Opd.t 4)) none, EOper.mk (some 26) (EOp.call (Opd.f
  25) [Opd.t 24, Opd.t 25]) none, EOper.mk (some 23) (EOp.mv (Opd.t 26)) none, EOper.mk (some 27) (EOp.ext (Opd.t 23) 0) none, EOper.mk (some 28) (EOp.ext (Opd.t 23) 1)
  none, EOper.mk (some 11) (EOp.alloc true 24 [V.int .u32 (0), V.int .u32 (0)]) none, EOper.mk none (EOp.st 2 (Opd.t 11) (Opd.t 27)) none, EOper.mk (some 12) (EOp.mv
  (Opd.t 28)) none]
def m7_3 : List Bool := [false, false, false, false, false, false, false, false, false, false, false, true, true, false, false, false, false, false, false, false, false, false, false, true, true, true, true, true, true, false, false, false, false, false, false, false, false, false, false, false, false, false, false, false, false, false, false, false, false, false, false, false, false, false, false, false, false, false, false, false, false, false, false, false, false, false, false, false, false, false, false, false, false, false, false, false, false, false, false, false, false, false, false, false, false, false, false, false, false, false, false, false, false, false, false, false, false, false, false, false, false, false, false, false, false, false, false, false, false, false, false, false, false, false, false, false, false, false, false, false, false, false, false, false, false, false, false, false, false, false, false, false]
def b7_4 : EC := EC.seq (EC.ops true [EOper.mk (some 29) (EOp.ld true 2 (Opd.t 9)) none, EOper.mk (some 30) (EOp.ld true 2 (Opd.t 11)) none, EOper.mk (some 31) (EOp.cmp
  true [true, true] (Opd.t 29) (Opd.t 30)) none, EOper.mk (some 32) (EOp.mv (Opd.t 31)) none, EOper.mk (some 33) (EOp.mv (Opd.t 10)) (some (32, false)), EOper.mk (some 34)
  (EOp.mv (Opd.t 12)) (some (32, false)), EOper.mk (some 35) (EOp.eqb true (Opd.t 33) (Opd.t 34)) (some (32, false)), EOper.mk (some 36) (EOp.pick (Opd.t 32) (Opd.c
  (V.bool true)) (Opd.t 35)) none, EOper.mk (some 37) (EOp.mv (Opd.t 36)) none, EOper.mk (some 38) (EOp.mv (Opd.t 10)) (some (37, false)), EOper.mk (some 39) (EOp.mv
  (Opd.t 38)) (some (37, false)), EOper.mk (some 40) (EOp.ld true 2 (Opd.t 9)) (some (39, true)), EOper.mk (some 41) (EOp.mv (Opd.t 2)) (some (39, true)), EOper.mk (some
  42) (EOp.call (Opd.f 16) [Opd.t 40, Opd.t 41]) (some (39, true)), EOper.mk (some 43) (EOp.pick (Opd.t 39) (Opd.t 42) (Opd.c (V.bool false))) (some (37, false)), EOper.mk
  (some 44) (EOp.ld true 2 (Opd.t 4)) (some (37, false)), EOper.mk (some 45) (EOp.mv (Opd.t 2)) (some (37, false)), EOper.mk (some 46) (EOp.call (Opd.f 16) [Opd.t 44,
  Opd.t 45]) (some (37, false)), EOper.mk (some 47) (EOp.mv (Opd.t 46)) (some (37, false)), EOper.mk (some 48) (EOp.ld true 2 (Opd.t 5)) (some (47, true)), EOper.mk (some
  49) (EOp.mv (Opd.t 2)) (some (47, true)), EOper.mk (some 50) (EOp.call (Opd.f 16) [Opd.t 48, Opd.t 49]) (some (47, true)), EOper.mk (some 51) (EOp.pick (Opd.t 47) (Opd.t
  50) (Opd.c (V.bool false))) (some (37, false)), EOper.mk (some 52) (EOp.eqb true (Opd.t 43) (Opd.t 51)) (some (37, false)), EOper.mk (some 53) (EOp.pick (Opd.t 37)
  (Opd.c (V.bool true)) (Opd.t 52)) none]) (EC.cond (Opd.t 53) (EC.seq (EC.ops false [EOper.mk (some 8) (EOp.mv (Opd.c (V.bool false))) none]) EC.ret) EC.skip)
def m7_4 : List Bool := [false, false, false, false, false, false, false, false, true, false, false, false, false, false, false, false, false, false, false, false, false, false, false, false, false, false, false, false, false, true, true, true, true, true, true, true, true, true, true, true, true, true, true, true, true, true, true, true, true, true, true, true, true, true, false, false, false, false, false, false, false, false, false, false, false, false, false, false, false, false, false, false, false, false, false, false, false, false, false, false, false, false, false, false, false, false, false, false, false, false, false, false, false, false, false, false, false, false, false, false, false, false, false, false, false, false, false, false, false, false, false, false, false, false, false, false, false, false, false, false, false, false, false, false, false, false, false, false, false, false, false, false]
def b7_5 : EC := EC.seq (EC.ops false [EOper.mk (some 54) (EOp.ld true 2 (Opd.t 4)) none, EOper.mk (some 55) (EOp.ld true 2 (Opd.t 5)) none, EOper.mk (some 56) (EOp.call
  (Opd.f 21) [Opd.t 54, Opd.t 55]) none, EOper.mk (some 57) (EOp.mv (Opd.t 56)) none, EOper.mk (some 58) (EOp.mv (Opd.t 10)) (some (57, true)), EOper.mk (some 59) (EOp.un
  .not (Opd.t 58)) (some (57, true)), EOper.mk (some 60) (EOp.mv (Opd.t 59)) (some (57, true)), EOper.mk (some 61) (EOp.ld true 2 (Opd.t 9)) (some (60, false)), EOper.mk
  (some 62) (EOp.ld true 2 (Opd.t 4)) (some (60, false)), EOper.mk (some 63) (EOp.cmp true [true, true] (Opd.t 61) (Opd.t 62)) (some (60, false)), EOper.mk (some 64)
  (EOp.pick (Opd.t 60) (Opd.c (V.bool true)) (Opd.t 63)) (some (57, true)), EOper.mk (some 65) (EOp.pick (Opd.t 57) (Opd.t 64) (Opd.c (V.bool false))) none, EOper.mk (some
  66) (EOp.mv (Opd.t 65)) none, EOper.mk (some 67) (EOp.mv (Opd.t 10)) (some (66, false)), EOper.mk (some 68) (EOp.mv (Opd.t 67)) (some (66, false)), EOper.mk (some 69)
  (EOp.ld true 2 (Opd.t 9)) (some (68, true)), EOper.mk (some 70) (EOp.ld true 2 (Opd.t 4)) (some (68, true)), EOper.mk (some 71) (EOp.call (Opd.f 21) [Opd.t 69, Opd.t
  70]) (some (68, true)), EOper.mk (some 72) (EOp.un .not (Opd.t 71)) (some (68, true)), EOper.mk (some 73) (EOp.mv (Opd.t 72)) (some (68, true)), EOper.mk (some 74)
  (EOp.ld true 2 (Opd.t 9)) (some (73, false)), EOper.mk (some 75) (EOp.ld true 2 (Opd.t 5)) (some (73, false)), EOper.mk (some 76) (EOp.call (Opd.f 21) [Opd.t 74, Opd.t
  75]) (some (73, false)), EOper.mk (some 77) (EOp.un .not (Opd.t 76)) (some (73, false)), EOper.mk (some 78) (EOp.pick (Opd.t 73) (Opd.c (V.bool true)) (Opd.t 77)) (some
  (68, true)), EOper.mk (some 79) (EOp.pick (Opd.t 68) (Opd.t 78) (Opd.c (V.bool false))) (some (66, false)), EOper.mk (some 80) (EOp.pick (Opd.t 66) (Opd.c (V.bool true))
  (Opd.t 79)) none]) (EC.cond (Opd.t 80) (EC.seq (EC.ops false [EOper.mk (some 8) (EOp.mv (Opd.c (V.bool false))) none]) EC.ret) EC.skip)
def m7_5 : List Bool := [false, false, false, false, false, false, false, false, true, false, false, false, false, false, false, false, false, false, false, false, false, false, false, false, false, false, false, false, false, false, false, false, false, false, false, false, false, false, false, false, false, false, false, false, false, false, false, false, false, false, false, false, false, false, true, true, true, true, true, true, true, true, true, true, true, true, true, true, true, true, true, true, true, true, true, true, true, true, true, true, true, false, false, false, false, false, false, false, false, false, false, false, false, false, false, false, false, false, false, false, false, false, false, false, false, false, false, false, false, false, false, false, false, false, false, false, false, false, false, false, false, false, false, false, false, false, false, false, false, false, false, false]
def b7_6 : EC := EC.seq (EC.ops false [EOper.mk (some 81) (EOp.ld true 2 (Opd.t 4)) none, EOper.mk (some 82) (EOp.call (Opd.f 12) [Opd.t 81]) none, EOper.mk (some 83)
  (EOp.mv (Opd.t 82)) none, EOper.mk (some 84) (EOp.ld true 2 (Opd.t 5)) (some (83, true)), EOper.mk (some 85) (EOp.call (Opd.f 12) [Opd.t 84]) (some (83, true)), EOper.mk
  (some 86) (EOp.pick (Opd.t 83) (Opd.t 85) (Opd.c (V.bool false))) none, EOper.mk (some 87) (EOp.mv (Opd.t 86)) none, EOper.mk (some 88) (EOp.ld true 2 (Opd.t 4)) (some
  (87, true)), EOper.mk (some 89) (EOp.ld true 2 (Opd.t 5)) (some (87, true)), EOper.mk (some 90) (EOp.bslice 24 2 [V.int .u32 (0), V.int .u32 (0), V.int .u32 (0), V.int
  .u32 (0)] [(0, 2, Opd.t 88), (2, 2, Opd.t 89)]) (some (87, true)), EOper.mk (some 91) (EOp.call (Opd.f 22) [Opd.t 90]) (some (87, true)), EOper.mk (some 92) (EOp.mv
  (Opd.t 10)) (some (87, true)), EOper.mk (some 93) (EOp.eqb false (Opd.t 91) (Opd.t 92)) (some (87, true)), EOper.mk (some 94) (EOp.pick (Opd.t 87) (Opd.t 93) (Opd.c
  (V.bool false))) none]) (EC.cond (Opd.t 94) (EC.seq (EC.ops false [EOper.mk (some 8) (EOp.mv (Opd.c (V.bool false))) none]) EC.ret) EC.skip)
def m7_6 : List Bool := [false, false, false, false, false, false, false, false, true, false, false, false, false, false, false, false, false, false, false, false, false, false, false, false, false, false, false, false, false, false, false, false, false, false, false, false, false, false, false, false, false, false, false, false, false, false, false, false, false, false, false, false, false, false, false, false, false, false, false, false, false, false, false, false, false, false, false, false, false, false, false, false, false, false, false, false, false, false, false, false, false, true, true, true, true, true, true, true, true, true, true, true, true, true, true, false, false, false, false, false, false, false, false, false, false, false, false, false, false, false, false, false, false, false, false, false, false, false, false, false, false, false, false, false, false, false, false, false, false, false, false, false]
def b7_7 : EC := EC.ops false [EOper.mk (some 96) (EOp.mv (Opd.t 2)) none, EOper.mk (some 97) (EOp.mv (Opd.t 3)) none, EOper.mk (some 98) (EOp.call (Opd.f 9) [Opd.t 96,
  Opd.t 97]) none, EOper.mk (some 95) (EOp.mv (Opd.t 98)) none, EOper.mk (some 99) (EOp.ext (Opd.t 95) 0) none, EOper.mk (some 100) (EOp.ext (Opd.t 95) 1) none, EOper.mk
  (some 13) (EOp.alloc true 24 [V.int .u32 (0), V.int .u32 (0)]) none, EOper.mk none (EOp.st 2 (Opd.t 13) (Opd.t 99)) none, EOper.mk (some 14) (EOp.mv (Opd.t 100)) none]
def m7_7 : List Bool := [false, false, false, false, false, false, false, false, false, false, false, false, false, true, true, false, false, false, false, false, false, false, false, false, false, false, false, false, false, false, false, false, false, false, false, false, false, false, false, false, false, false, false, false, false, false, false, false, false, false, false, false, false, false, false, false, false, false, false, false, false, false, false, false, false, false, false, false, false, false, false, false, false, false, false, false, false, false, false, false, false, false, false, false, false, false, false, false, false, false, false, false, false, false, false, true, true, true, true, true, true, false, false, false, false, false, false, false, false, false, false, false, false, false, false, false, false, false, false, false, false, false, false, false, false, false, false, false, false, false, false, false]
def b7_8 : EC := EC.seq (EC.ops false [EOper.mk (some 101) (EOp.mv (Opd.t 14)) none, EOper.mk (some 102) (EOp.un .not (Opd.t 101)) none]) (EC.cond (Opd.t 102) (EC.seq
  (EC.ops false [EOper.mk (some 103) (EOp.mv (Opd.t 3)) none, EOper.mk (some 104) (EOp.bin .lss (Opd.t 103) (Opd.c (V.int .i64 (1)))) none, EOper.mk (some 105) (EOp.mv
  (Opd.t 104)) none, EOper.mk (some 106) (EOp.mv (Opd.t 3)) (some (105, false)), EOper.mk (some 107) (EOp.mv (Opd.t 2)) (some (105, false)), EOper.mk (some 108) (EOp.conv
  .i64 (Opd.t 107)) (some (105, false)), EOper.mk (some 109) (EOp.bin .sub (Opd.c (V.int .i64 (4294967296))) (Opd.t 108)) (some (105, false)), EOper.mk (some 110) (EOp.bin
  .gtr (Opd.t 106) (Opd.t 109)) (some (105, false)), EOper.mk (some 111) (EOp.pick (Opd.t 105) (Opd.c (V.bool true)) (Opd.t 110)) none, EOper.mk (some 8) (EOp.mv (Opd.t
  111)) none]) EC.ret) EC.skip)
def m7_8 : List Bool := [false, false, false, false, false, false, false, false, true, false, false, false, false, false, false, false, false, false, false, false, false, false, false, false, false, false, false, false, false, false, false, false, false, false, false, false, false, false, false, false, false, false, false, false, false, false, false, false, false, false, false, false, false, false, false, false, false, false, false, false, false, false, false, false, false, false, false, false, false, false, false, false, false, false, false, false, false, false, false, false, false, false, false, false, false, false, false, false, false, false, false, false, false, false, false, false, false, false, false, false, false, true, true, true, true, true, true, true, true, true, true, true, false, false, false, false, false, false, false, false, false, false, false, false, false, false, false, false, false, false, false, false]
def b7_9 : EC := EC.ops false [EOper.mk (some 112) (EOp.ld true 2 (Opd.t 13)) none, EOper.mk (some 113) (EOp.call (Opd.f 14) [Opd.t 112]) none, EOper.mk (some 114) (EOp.mv
  (Opd.t 3)) none, EOper.mk (some 115) (EOp.bin .eql (Opd.t 113) (Opd.t 114)) none, EOper.mk (some 116) (EOp.mv (Opd.t 115)) none, EOper.mk (some 117) (EOp.fa 0 (Opd.t
  13)) (some (116, true)), EOper.mk (some 118) (EOp.ld false 1 (Opd.t 117)) (some (116, true)), EOper.mk (some 119) (EOp.mv (Opd.t 2)) (some (116, true)), EOper.mk (some
  120) (EOp.bin .eql (Opd.t 118) (Opd.t 119)) (some (116, true)), EOper.mk (some 121) (EOp.pick (Opd.t 116) (Opd.t 120) (Opd.c (V.bool false))) none, EOper.mk (some 122)
  (EOp.mv (Opd.t 121)) none, EOper.mk (some 123) (EOp.ld true 2 (Opd.t 13)) (some (122, true)), EOper.mk (some 124) (EOp.mv (Opd.t 2)) (some (122, true)), EOper.mk (some
  125) (EOp.call (Opd.f 16) [Opd.t 123, Opd.t 124]) (some (122, true)), EOper.mk (some 126) (EOp.pick (Opd.t 122) (Opd.t 125) (Opd.c (V.bool false))) none, EOper.mk (some
  127) (EOp.mv (Opd.t 126)) none, EOper.mk (some 128) (EOp.ld true 2 (Opd.t 13)) (some (127, true)), EOper.mk (some 129) (EOp.build [V.int .u32 (0), V.int .u32 (0)] [(1,
  1, Opd.c (V.int .u32 (4294967295)))]) (some (127, true)), EOper.mk (some 130) (EOp.call (Opd.f 21) [Opd.t 128, Opd.t 129]) (some (127, true)), EOper.mk (some 131)
  (EOp.pick (Opd.t 127) (Opd.t 130) (Opd.c (V.bool false))) none, EOper.mk (some 8) (EOp.mv (Opd.t 131)) none]
def m7_9 : List Bool := [false, false, false, false, false, false, false, false, true, false, false, false, false, false, false, false, false, false, false, false, false, false, false, false, false, false, false, false, false, false, false, false, false, false, false, false, false, false, false, false, false, false, false, false, false, false, false, false, false, false, false, false, false, false, false, false, false, false, false, false, false, false, false, false, false, false, false, false, false, false, false, false, false, false, false, false, false, false, false, false, false, false, false, false, false, false, false, false, false, false, false, false, false, false, false, false, false, false, false, false, false, false, false, false, false, false, false, false, false, false, false, false, true, true, true, true, true, true, true, true, true, true, true, true, true, true, true, true, true, true, true, true]
def b7_10 : EC := EC.ret
def m7_10 : List Bool := [false, false, false, false, false, false, false, false, false, false, false, false, false, false, false, false, false, false, false, false, false, false, false, false, false, false, false, false, false, false, false, false, false, false, false, false, false, false, false, false, false, false, false, false, false, false, false, false, false, false, false, false, false, false, false, false, false, false, false, false, false, false, false, false, false, false, false, false, false, false, false, false, false, false, false, false, false, false, false, false, false, false, false, false, false, false, false, false, false, false, false, false, false, false, false, false, false, false, false, false, false, false, false, false, false, false, false, false, false, false, false, false, false, false, false, false, false, false, false, false, false, false, false, false, false, false, false, false, false, false, false, false]
def r7_10 : EC := b7_10
def r7_9 : EC := EC.seq b7_9 r7_10
def r7_8 : EC := EC.seq b7_8 r7_9
def r7_7 : EC := EC.seq b7_7 r7_8
def r7_6 : EC := EC.seq b7_6 r7_7
def r7_5 : EC := EC.seq b7_5 r7_6
def r7_4 : EC := EC.seq b7_4 r7_5
def r7_3 : EC := EC.seq b7_3 r7_4
def r7_2 : EC := EC.seq b7_2 r7_3
def r7_1 : EC := EC.seq b7_1 r7_2
def r7_0 : EC := EC.seq b7_0 r7_1
def e7 : EFun := EFun.mk 132 [ERes.t 8] r7_0
theorem c7 : cFun Try.prog 0 (fun _ => false) Try.f7 = some e7 := by kernel_rfl
theorem x7 : Try.prog.funcs[7]? = some Try.f7 := by kernel_rfl
theorem n7 : (Try.f7.name == "runtime.NumGoroutine") = false := by kernel_rfl
/-! 8: septumlaw02.ReachEnds -/
def l8_1p0 : EC := EC.seq (EC.ops false [EOper.mk (some 29) (EOp.mv (Opd.t 5)) none, EOper.mk (some 30) (EOp.bin .lss (Opd.t 29) (Opd.c (V.int .i64 (81)))) none]) (EC.cond
  (Opd.t 30) EC.skip (EC.exit 2))
def l8_1m0 : List Bool := [false, false, false, false, false, false, false, false, false, false, false, false, false, false, false, false, false, false, false, false, false, false, false, false, false, false, false, false, false, true, true, false, false, false, false, false, false, false, false, false, false, false, false, false, false, false, false, false, false, false, false, false, false, false, false, false, false, false, false, false, false, false, false, false, false, false, false, false, false, false, false, false, false, false, false, false, false, false, false, false, false, false, false, false, false, false, false, false, false, false, false, false, false, false, false, false, false, false, false, false, false, false, false, false, false, false, false, false, false, false, false, false, false, false, false, false, false, false, false]
def l8_1p1 : EC := EC.block 3 (EC.seq (EC.opsT [EOper.mk (some 33) (EOp.mv (Opd.t 1)) none, EOper.mk (some 34) (EOp.mv (Opd.t 5)) none, EOper.mk (some 35) (EOp.bin .quo
  (Opd.t 34) (Opd.c (V.int .i64 (9)))) none, EOper.mk (some 36) (EOp.ixs 1 (Opd.t 33) (Opd.t 35)) none, EOper.mk (some 37) (EOp.ld false 1 (Opd.t 36)) none, EOper.mk (some
  38) (EOp.mv (Opd.t 1)) none, EOper.mk (some 39) (EOp.mv (Opd.t 5)) none, EOper.mk (some 40) (EOp.bin .rem (Opd.t 39) (Opd.c (V.int .i64 (9)))) none, EOper.mk (some 41)
  (EOp.ixs 1 (Opd.t 38) (Opd.t 40)) none, EOper.mk (some 42) (EOp.ld false 1 (Opd.t 41)) none, EOper.mk (some 43) (EOp.build [V.int .u32 (0), V.int .u32 (0)] [(0, 1, Opd.t
  37), (1, 1, Opd.t 42)]) none] [EOper.mk (some 6) (EOp.alloc true 24 [V.int .u32 (0), V.int .u32 (0)]) none, EOper.mk none (EOp.st 2 (Opd.t 6) (Opd.t 43)) none] [])
  (EC.seq (EC.opsX (Sch.sil (EOper.mk (some 44) (EOp.ld true 2 (Opd.t 4)) none) (Sch.sil (EOper.mk (some 45) (EOp.ld true 2 (Opd.t 6)) none) (Sch.op (EOper.mk (some 46)
  (EOp.call (Opd.f 19) [Opd.t 44, Opd.t 45]) none) (Sch.sil (EOper.mk (some 47) (EOp.un .not (Opd.t 46)) none) (Sch.sil (EOper.mk (some 48) (EOp.mv (Opd.t 47)) none)
  (Sch.sil (EOper.mk (some 49) (EOp.ld true 2 (Opd.t 4)) (some (48, false))) (Sch.sil (EOper.mk (some 50) (EOp.ld true 2 (Opd.t 6)) (some (48, false))) (Sch.sil (EOper.mk
  (some 53) (EOp.ld true 2 (Opd.t 4)) (some (48, false))) (Sch.sil (EOper.mk (some 54) (EOp.ld true 2 (Opd.t 6)) (some (48, false))) (Sch.both (Sch.op (EOper.mk (some 51)
  (EOp.bslice 24 2 [V.int .u32 (0), V.int .u32 (0), V.int .u32 (0), V.int .u32 (0)] [(0, 2, Opd.t 49), (2, 2, Opd.t 50)]) (some (48, false))) (Sch.both (Sch.op (EOper.mk
  (some 52) (EOp.call (Opd.f 22) [Opd.t 51]) (some (48, false))) (Sch.op (EOper.mk (some 55) (EOp.bslice 24 2 [V.int .u32 (0), V.int .u32 (0), V.int .u32 (0), V.int .u32
  (0)] [(0, 2, Opd.t 53), (2, 2, Opd.t 54)]) (some (48, false))) (Sch.op (EOper.mk (some 56) (EOp.call (Opd.f 23) [Opd.t 55]) (some (48, false))) (Sch.sil (EOper.mk (some
  57) (EOp.eqb true (Opd.t 52) (Opd.t 56)) (some (48, false))) (Sch.sil (EOper.mk (some 58) (EOp.pick (Opd.t 48) (Opd.c (V.bool true)) (Opd.t 57)) none) Sch.done)))))
  (Sch.op (EOper.mk (some 55) (EOp.bslice 24 2 [V.int .u32 (0), V.int .u32 (0), V.int .u32 (0), V.int .u32 (0)] [(0, 2, Opd.t 53), (2, 2, Opd.t 54)]) (some (48, false)))
  (Sch.op (EOper.mk (some 52) (EOp.call (Opd.f 22) [Opd.t 51]) (some (48, false))) (Sch.op (EOper.mk (some 56) (EOp.call (Opd.f 23) [Opd.t 55]) (some (48, false)))
  (Sch.sil (EOper.mk (some 57) (EOp.eqb true (Opd.t 52) (Opd.t 56)) (some (48, false))) (Sch.sil (EOper.mk (some 58) (EOp.pick (Opd.t 48) (Opd.c (V.bool true)) (Opd.t 57))
  none) Sch.done))))))) (Sch.op (EOper.mk (some 55) (EOp.bslice 24 2 [V.int .u32 (0), V.int .u32 (0), V.int .u32 (0), V.int .u32 (0)] [(0, 2, Opd.t 53), (2, 2, Opd.t 54)])
  (some (48, false))) (Sch.op (EOper.mk (some 51) (EOp.bslice 24 2 [V.int .u32 (0), V.int .u32 (0), V.int .u32 (0), V.int .u32 (0)] [(0, 2, Opd.t 49), (2, 2, Opd.t 50)])
  (some (48, false))) (Sch.op (EOper.mk (some 52) (EOp.call (Opd.f 22) [Opd.t 51]) (some (48, false))) (Sch.op (EOper.mk (some 56) (EOp.call (Opd.f 23) [Opd.t 55]) (some
  (48, false))) (Sch.sil (EOper.mk (some 57) (EOp.eqb true (Opd.t 52) (Opd.t 56)) (some (48, false))) (Sch.sil (EOper.mk (some 58) (EOp.pick (Opd.t 48) (Opd.c (V.bool
  true)) (Opd.t 57)) none) Sch.done))))))))))))))))) (EC.cond (Opd.t 58) (EC.seq (EC.ops false [EOper.mk (some 0) (EOp.mv (Opd.c (V.bool false))) none]) EC.ret) EC.skip)))
def l8_1m1 : List Bool := [true, false, false, false, false, false, true, false, false, false, false, false, false, false, false, false, false, false, false, false, false, false, false, false, false, false, false, false, false, false, false, false, false, true, true, true, true, true, true, true, true, true, true, true, true, true, true, true, true, true, true, true, true, true, true, true, true, true, true, false, false, false, false, false, false, false, false, false, false, false, false, false, false, false, false, false, false, false, false, false, false, false, false, false, false, false, false, false, false, false, false, false, false, false, false, false, false, false, false, false, false, false, false, false, false, false, false, false, false, false, false, false, false, false, false, false, false, false, false]
def l8_1p2 : EC := EC.ops false [EOper.mk (some 31) (EOp.mv (Opd.t 5)) none, EOper.mk (some 32) (EOp.bin .add (Opd.t 31) (Opd.c (V.int .i64 (1)))) none, EOper.mk (some 5)
  (EOp.mv (Opd.t 32)) none]
def l8_1m2 : List Bool := [false, false, false, false, false, true, false, false, false, false, false, false, false, false, false, false, false, false, false, false, false, false, false, false, false, false, false, false, false, false, false, true, true, false, false, false, false, false, false, false, false, false, false, false, false, false, false, false, false, false, false, false, false, false, false, false, false, false, false, false, false, false, false, false, false, false, false, false, false, false, false, false, false, false, false, false, false, false, false, false, false, false, false, false, false, false, false, false, false, false, false, false, false, false, false, false, false, false, false, false, false, false, false, false, false, false, false, false, false, false, false, false, false, false, false, false, false, false, false]
def l8_1r2 : EC := l8_1p2
def l8_1r1 : EC := EC.seq l8_1p1 l8_1r2
def l8_1r0 : EC := EC.seq l8_1p0 l8_1r1
def l8_1 : EC := l8_1r0
def l8_2p0 : EC := EC.seq (EC.ops false [EOper.mk (some 59) (EOp.mv (Opd.t 7)) none, EOper.mk (some 60) (EOp.bin .lss (Opd.t 59) (Opd.c (V.int .i64 (11)))) none]) (EC.cond
  (Opd.t 60) EC.skip (EC.exit 4))
def l8_2m0 : List Bool := [false, false, false, false, false, false, false, false, false, false, false, false, false, false, false, false, false, false, false, false, false, false, false, false, false, false, false, false, false, false, false, false, false, false, false, false, false, false, false, false, false, false, false, false, false, false, false, false, false, false, false, false, false, false, false, false, false, false, false, true, true, false, false, false, false, false, false, false, false, false, false, false, false, false, false, false, false, false, false, false, false, false, false, false, false, false, false, false, false, false, false, false, false, false, false, false, false, false, false, false, false, false, false, false, false, false, false, false, false, false, false, false, false, false, false, false, false, false, false]
def l8_2p1 : EC := EC.block 5 (EC.seq (EC.opsT [EOper.mk (some 64) (EOp.fa 0 (Opd.t 4)) none, EOper.mk (some 65) (EOp.ld false 1 (Opd.t 64)) none, EOper.mk (some 66)
  (EOp.mv (Opd.t 2)) none, EOper.mk (some 67) (EOp.mv (Opd.t 7)) none, EOper.mk (some 68) (EOp.ixs 1 (Opd.t 66) (Opd.t 67)) none, EOper.mk (some 69) (EOp.ld false 1 (Opd.t
  68)) none, EOper.mk (some 70) (EOp.call (Opd.f 9) [Opd.t 65, Opd.t 69]) none, EOper.mk (some 63) (EOp.mv (Opd.t 70)) none, EOper.mk (some 71) (EOp.ext (Opd.t 63) 0)
  none, EOper.mk (some 72) (EOp.ext (Opd.t 63) 1) none] [EOper.mk (some 8) (EOp.alloc true 24 [V.int .u32 (0), V.int .u32 (0)]) none, EOper.mk none (EOp.st 2 (Opd.t 8)
  (Opd.t 71)) none] [EOper.mk (some 9) (EOp.mv (Opd.t 72)) none]) (EC.seq (EC.opsT [EOper.mk (some 74) (EOp.fa 0 (Opd.t 4)) none, EOper.mk (some 75) (EOp.ld false 1 (Opd.t
  74)) none, EOper.mk (some 76) (EOp.mv (Opd.t 2)) none, EOper.mk (some 77) (EOp.mv (Opd.t 7)) none, EOper.mk (some 78) (EOp.ixs 1 (Opd.t 76) (Opd.t 77)) none, EOper.mk
  (some 79) (EOp.ld false 1 (Opd.t 78)) none, EOper.mk (some 80) (EOp.call (Opd.f 10) [Opd.t 75, Opd.t 79]) none, EOper.mk (some 73) (EOp.mv (Opd.t 80)) none, EOper.mk
  (some 81) (EOp.ext (Opd.t 73) 0) none, EOper.mk (some 82) (EOp.ext (Opd.t 73) 1) none] [EOper.mk (some 10) (EOp.alloc true 24 [V.int .u32 (0), V.int .u32 (0)]) none,
  EOper.mk none (EOp.st 2 (Opd.t 10) (Opd.t 81)) none] [EOper.mk (some 11) (EOp.mv (Opd.t 82)) none]) (EC.seq (EC.opsX (Sch.sil (EOper.mk (some 83) (EOp.ld true 2 (Opd.t
  8)) none) (Sch.sil (EOper.mk (some 84) (EOp.ld true 2 (Opd.t 10)) none) (Sch.sil (EOper.mk (some 85) (EOp.cmp true [true, true] (Opd.t 83) (Opd.t 84)) none) (Sch.sil
  (EOper.mk (some 86) (EOp.mv (Opd.t 85)) none) (Sch.sil (EOper.mk (some 87) (EOp.mv (Opd.t 9)) (some (86, false))) (Sch.sil (EOper.mk (some 88) (EOp.mv (Opd.t 11)) (some
  (86, false))) (Sch.sil (EOper.mk (some 89) (EOp.eqb true (Opd.t 87) (Opd.t 88)) (some (86, false))) (Sch.sil (EOper.mk (some 90) (EOp.pick (Opd.t 86) (Opd.c (V.bool
  true)) (Opd.t 89)) none) (Sch.sil (EOper.mk (some 91) (EOp.mv (Opd.t 90)) none) (Sch.sil (EOper.mk (some 92) (EOp.ld true 2 (Opd.t 4)) (some (91, false))) (Sch.sil
  (EOper.mk (some 94) (EOp.ld true 2 (Opd.t 4)) (some (91, false))) (Sch.op (EOper.mk (some 93) (EOp.call (Opd.f 14) [Opd.t 92]) (some (91, false))) (Sch.op (EOper.mk
  (some 95) (EOp.call (Opd.f 15) [Opd.t 94]) (some (91, false))) (Sch.sil (EOper.mk (some 96) (EOp.bin .neq (Opd.t 93) (Opd.t 95)) (some (91, false))) (Sch.sil (EOper.mk
  (some 97) (EOp.pick (Opd.t 91) (Opd.c (V.bool true)) (Opd.t 96)) none) (Sch.sil (EOper.mk (some 98) (EOp.mv (Opd.t 97)) none) (Sch.sil (EOper.mk (some 99) (EOp.ld true 2
  (Opd.t 4)) (some (98, false))) (Sch.sil (EOper.mk (some 100) (EOp.mv (Opd.t 1)) (some (98, false))) (Sch.sil (EOper.mk (some 101) (EOp.mv (Opd.t 7)) (some (98, false)))
  (Sch.sil (EOper.mk (some 102) (EOp.bin .rem (Opd.t 101) (Opd.c (V.int .i64 (9)))) (some (98, false))) (Sch.sil (EOper.mk (some 103) (EOp.ixs 1 (Opd.t 100) (Opd.t 102))
  (some (98, false))) (Sch.sil (EOper.mk (some 106) (EOp.ld true 2 (Opd.t 4)) (some (98, false))) (Sch.sil (EOper.mk (some 107) (EOp.mv (Opd.t 1)) (some (98, false)))
  (Sch.sil (EOper.mk (some 108) (EOp.mv (Opd.t 7)) (some (98, false))) (Sch.sil (EOper.mk (some 109) (EOp.bin .rem (Opd.t 108) (Opd.c (V.int .i64 (9)))) (some (98,
  false))) (Sch.sil (EOper.mk (some 110) (EOp.ixs 1 (Opd.t 107) (Opd.t 109)) (some (98, false))) (Sch.both (Sch.op (EOper.mk (some 104) (EOp.ld false 1 (Opd.t 103)) (some
  (98, false))) (Sch.both (Sch.op (EOper.mk (some 105) (EOp.call (Opd.f 16) [Opd.t 99, Opd.t 104]) (some (98, false))) (Sch.op (EOper.mk (some 111) (EOp.ld false 1 (Opd.t
  110)) (some (98, false))) (Sch.op (EOper.mk (some 112) (EOp.call (Opd.f 17) [Opd.t 106, Opd.t 111]) (some (98, false))) (Sch.sil (EOper.mk (some 113) (EOp.eqb true
  (Opd.t 105) (Opd.t 112)) (some (98, false))) (Sch.sil (EOper.mk (some 114) (EOp.pick (Opd.t 98) (Opd.c (V.bool true)) (Opd.t 113)) none) Sch.done))))) (Sch.op (EOper.mk
  (some 111) (EOp.ld false 1 (Opd.t 110)) (some (98, false))) (Sch.op (EOper.mk (some 105) (EOp.call (Opd.f 16) [Opd.t 99, Opd.t 104]) (some (98, false))) (Sch.op
  (EOper.mk (some 112) (EOp.call (Opd.f 17) [Opd.t 106, Opd.t 111]) (some (98, false))) (Sch.sil (EOper.mk (some 113) (EOp.eqb true (Opd.t 105) (Opd.t 112)) (some (98,
  false))) (Sch.sil (EOper.mk (some 114) (EOp.pick (Opd.t 98) (Opd.c (V.bool true)) (Opd.t 113)) none) Sch.done))))))) (Sch.op (EOper.mk (some 111) (EOp.ld false 1 (Opd.t
  110)) (some (98, false))) (Sch.op (EOper.mk (some 104) (EOp.ld false 1 (Opd.t 103)) (some (98, false))) (Sch.op (EOper.mk (some 105) (EOp.call (Opd.f 16) [Opd.t 99,
  Opd.t 104]) (some (98, false))) (Sch.op (EOper.mk (some 112) (EOp.call (Opd.f 17) [Opd.t 106, Opd.t 111]) (some (98, false))) (Sch.sil (EOper.mk (some 113) (EOp.eqb true
  (Opd.t 105) (Opd.t 112)) (some (98, false))) (Sch.sil (EOper.mk (some 114) (EOp.pick (Opd.t 98) (Opd.c (V.bool true)) (Opd.t 113)) none)
  Sch.done)))))))))))))))))))))))))))))))))) (EC.cond (Opd.t 114) (EC.seq (EC.ops false [EOper.mk (some 0) (EOp.mv (Opd.c (V.bool false))) none]) EC.ret) EC.skip))))
def l8_2m1 : List Bool := [true, false, false, false, false, false, false, false, true, true, true, true, false, false, false, false, false, false, false, false, false, false, false, false, false, false, false, false, false, false, false, false, false, false, false, false, false, false, false, false, false, false, false, false, false, false, false, false, false, false, false, false, false, false, false, false, false, false, false, false, false, false, false, true, true, true, true, true, true, true, true, true, true, true, true, true, true, true, true, true, true, true, true, true, true, true, true, true, true, true, true, true, true, true, true, true, true, true, true, true, true, true, true, true, true, true, true, true, true, true, true, true, true, true, true, false, false, false, false]
def l8_2p2 : EC := EC.ops false [EOper.mk (some 61) (EOp.mv (Opd.t 7)) none, EOper.mk (some 62) (EOp.bin .add (Opd.t 61) (Opd.c (V.int .i64 (1)))) none, EOper.mk (some 7)
  (EOp.mv (Opd.t 62)) none]
def l8_2m2 : List Bool := [false, false, false, false, false, false, false, true, false, false, false, false, false, false, false, false, false, false, false, false, false, false, false, false, false, false, false, false, false, false, false, false, false, false, false, false, false, false, false, false, false, false, false, false, false, false, false, false, false, false, false, false, false, false, false, false, false, false, false, false, false, true, true, false, false, false, false, false, false, false, false, false, false, false, false, false, false, false, false, false, false, false, false, false, false, false, false, false, false, false, false, false, false, false, false, false, false, false, false, false, false, false, false, false, false, false, false, false, false, false, false, false, false, false, false, false, false, false, false]
def l8_2r2 : EC := l8_2p2
def l8_2r1 : EC := EC.seq l8_2p1 l8_2r2
def l8_2r0 : EC := EC.seq l8_2p0 l8_2r1
def l8_2 : EC := l8_2r0
def l8_0p0 : EC := EC.seq (EC.ops false [EOper.mk (some 14) (EOp.mv (Opd.t 3)) none, EOper.mk (some 15) (EOp.bin .lss (Opd.t 14) (Opd.c (V.int .i64 (81)))) none]) (EC.cond
  (Opd.t 15) EC.skip (EC.exit 0))
def l8_0m0 : List Bool := [false, false, false, false, false, false, false, false, false, false, false, false, false, false, true, true, false, false, false, false, false, false, false, false, false, false, false, false, false, false, false, false, false, false, false, false, false, false, false, false, false, false, false, false, false, false, false, false, false, false, false, false, false, false, false, false, false, false, false, false, false, false, false, false, false, false, false, false, false, false, false, false, false, false, false, false, false, false, false, false, false, false, false, false, false, false, false, false, false, false, false, false, false, false, false, false, false, false, false, false, false, false, false, false, false, false, false, false, false, false, false, false, false, false, false, false, false, false, false]
def l8_0p1 : EC := EC.block 1 (EC.seq (EC.opsT [EOper.mk (some 18) (EOp.mv (Opd.t 1)) none, EOper.mk (some 19) (EOp.mv (Opd.t 3)) none, EOper.mk (some 20) (EOp.bin .quo
  (Opd.t 19) (Opd.c (V.int .i64 (9)))) none, EOper.mk (some 21) (EOp.ixs 1 (Opd.t 18) (Opd.t 20)) none, EOper.mk (some 22) (EOp.ld false 1 (Opd.t 21)) none, EOper.mk (some
  23) (EOp.mv (Opd.t 1)) none, EOper.mk (some 24) (EOp.mv (Opd.t 3)) none, EOper.mk (some 25) (EOp.bin .rem (Opd.t 24) (Opd.c (V.int .i64 (9)))) none, EOper.mk (some 26)
  (EOp.ixs 1 (Opd.t 23) (Opd.t 25)) none, EOper.mk (some 27) (EOp.ld false 1 (Opd.t 26)) none, EOper.mk (some 28) (EOp.build [V.int .u32 (0), V.int .u32 (0)] [(0, 1, Opd.t
  22), (1, 1, Opd.t 27)]) none] [EOper.mk (some 4) (EOp.alloc true 24 [V.int .u32 (0), V.int .u32 (0)]) none, EOper.mk none (EOp.st 2 (Opd.t 4) (Opd.t 28)) none] [])
  (EC.seq (EC.seq (EC.ops false [EOper.mk (some 5) (EOp.mv (Opd.c (V.int .i64 (0)))) none]) (EC.block 2 (EC.loop l8_1))) (EC.seq (EC.ops false [EOper.mk (some 7) (EOp.mv
  (Opd.c (V.int .i64 (0)))) none]) (EC.block 4 (EC.loop l8_2)))))
def l8_0m1 : List Bool := [true, false, false, false, true, true, true, true, true, true, true, true, false, false, false, false, false, false, true, true, true, true, true, true, true, true, true, true, true, true, true, true, true, true, true, true, true, true, true, true, true, true, true, true, true, true, true, true, true, true, true, true, true, true, true, true, true, true, true, true, true, true, true, true, true, true, true, true, true, true, true, true, true, true, true, true, true, true, true, true, true, true, true, true, true, true, true, true, true, true, true, true, true, true, true, true, true, true, true, true, true, true, true, true, true, true, true, true, true, true, true, true, true, true, true, false, false, false, false]
def l8_0p2 : EC := EC.ops false [EOper.mk (some 16) (EOp.mv (Opd.t 3)) none, EOper.mk (some 17) (EOp.bin .add (Opd.t 16) (Opd.c (V.int .i64 (1)))) none, EOper.mk (some 3)
  (EOp.mv (Opd.t 17)) none]
def l8_0m2 : List Bool := [false, false, false, true, false, false, false, false, false, false, false, false, false, false, false, false, true, true, false, false, false, false, false, false, false, false, false, false, false, false, false, false, false, false, false, false, false, false, false, false, false, false, false, false, false, false, false, false, false, false, false, false, false, false, false, false, false, false, false, false, false, false, false, false, false, false, false, false, false, false, false, false, false, false, false, false, false, false, false, false, false, false, false, false, false, false, false, false, false, false, false, false, false, false, false, false, false, false, false, false, false, false, false, false, false, false, false, false, false, false, false, false, false, false, false, false, false, false, false]
def l8_0r2 : EC := l8_0p2
def l8_0r1 : EC := EC.seq l8_0p1 l8_0r2
def l8_0r0 : EC := EC.seq l8_0p0 l8_0r1
def l8_0 : EC := l8_0r0
def b8_0 : EC := EC.ops false [EOper.mk (some 0) (EOp.mv (Opd.c (V.bool false))) none]
def m8_0 : List Bool := [true, false, false, false, false, false, false, false, false, false, false, false, false, false, false, false, false, false, false, false, false, false, false, false, false, false, false, false, false, false, false, false, false, false, false, false, false, false, false, false, false, false, false, false, false, false, false, false, false, false, false, false, false, false, false, false, false, false, false, false, false, false, false, false, false, false, false, false, false, false, false, false, false, false, false, false, false, false, false, false, false, false, false, false, false, false, false, false, false, false, false, false, false, false, false, false, false, false, false, false, false, false, false, false, false, false, false, false, false, false, false, false, false, false, false, false, false, false, false]
def b8_1 : EC := EC.ops false [EOper.mk (some 12) (EOp.bslice 22 9 [V.int .u32 (0), V.int .u32 (0), V.int .u32 (0), V.int .u32 (0), V.int .u32 (0), V.int .u32 (0), V.int
  .u32 (0), V.int .u32 (0), V.int .u32 (0)] [(0, 1, Opd.c (V.int .u32 (0))), (1, 1, Opd.c (V.int .u32 (1))), (2, 1, Opd.c (V.int .u32 (2))), (3, 1, Opd.c (V.int .u32
  (7))), (4, 1, Opd.c (V.int .u32 (8))), (5, 1, Opd.c (V.int .u32 (2147483648))), (6, 1, Opd.c (V.int .u32 (4294967293))), (7, 1, Opd.c (V.int .u32 (4294967294))), (8, 1,
  Opd.c (V.int .u32 (4294967295)))]) none, EOper.mk (some 1) (EOp.mv (Opd.t 12)) none]
def m8_1 : List Bool := [false, true, false, false, false, false, false, false, false, false, false, false, true, false, false, false, false, false, false, false, false, false, false, false, false, false, false, false, false, false, false, false, false, false, false, false, false, false, false, false, false, false, false, false, false, false, false, false, false, false, false, false, false, false, false, false, false, false, false, false, false, false, false, false, false, false, false, false, false, false, false, false, false, false, false, false, false, false, false, false, false, false, false, false, false, false, false, false, false, false, false, false, false, false, false, false, false, false, false, false, false, false, false, false, false, false, false, false, false, false, false, false, false, false, false, false, false, false, false]
def b8_2 : EC := EC.ops false [EOper.mk (some 13) (EOp.bslice 3 11 [V.int .i64 (0), V.int .i64 (0), V.int .i64 (0), V.int .i64 (0), V.int .i64 (0), V.int .i64 (0), V.int
  .i64 (0), V.int .i64 (0), V.int .i64 (0), V.int .i64 (0), V.int .i64 (0)] [(0, 1, Opd.c (V.int .i64 (-9223372036854775808))), (1, 1, Opd.c (V.int .i64 (-1))), (2, 1,
  Opd.c (V.int .i64 (0))), (3, 1, Opd.c (V.int .i64 (1))), (4, 1, Opd.c (V.int .i64 (2))), (5, 1, Opd.c (V.int .i64 (3))), (6, 1, Opd.c (V.int .i64 (2147483648))), (7, 1,
  Opd.c (V.int .i64 (4294967295))), (8, 1, Opd.c (V.int .i64 (4294967296))), (9, 1, Opd.c (V.int .i64 (4294967297))), (10, 1, Opd.c (V.int .i64 (9223372036854775807)))])
  none, EOper.mk (some 2) (EOp.mv (Opd.t 13)) none]
def m8_2 : List Bool := [false, false, true, false, false, false, false, false, false, false, false, false, false, true, false, false, false, false, false, false, false, false, false, false, false, false, false, false, false, false, false, false, false, false, false, false, false, false, false, false, false, false, false, false, false, false, false, false, false, false, false, false, false, false, false, false, false, false, false, false, false, false, false, false, false, false, false, false, false, false, false, false, false, false, false, false, false, false, false, false, false, false, false, false, false, false, false, false, false, false, false, false, false, false, false, false, false, false, false, false, false, false, false, false, false, false, false, false, false, false, false, false, false, false, false, false, false, false, false]
def b8_3 : EC := EC.seq (EC.ops false [EOper.mk (some 3) (EOp.mv (Opd.c (V.int .i64 (0)))) none]) (EC.block 0 (EC.loop l8_0))
def m8_3 : List Bool := [true, false, false, true, true, true, true, true, true, true, true, true, false, false, true, true, true, true, true, true, true, true, true, true, true, true, true, true, true, true, true, true, true, true, true, true, true, true, true, true, true, true, true, true, true, true, true, true, true, true, true, true, true, true, true, true, true, true, true, true, true, true, true, true, true, true, true, true, true, true, true, true, true, true, true, true, true, true, true, true, true, true, true, true, true, true, true, true, true, true, true, true, true, true, true, true, true, true, true, true, true, true, true, true, true, true, true, true, true, true, true, true, true, true, true, false, false, false, false]
def b8_4 : EC := EC.ops false [EOper.mk (some 115) (EOp.call (Opd.f 22) [Opd.c (V.sl none 0 0)]) none, EOper.mk (some 116) (EOp.mv (Opd.t 115)) none, EOper.mk (some 117)
  (EOp.call (Opd.f 18) []) (some (116, true)), EOper.mk (some 118) (EOp.pick (Opd.t 116) (Opd.t 117) (Opd.c (V.bool false))) none, EOper.mk (some 0) (EOp.mv (Opd.t 118))
  none]
def m8_4 : List Bool := [true, false, false, false, false, false, false, false, false, false, false, false, false, false, false, false, false, false, false, false, false, false, false, false, false, false, false, false, false, false, false, false, false, false, false, false, false, false, false, false, false, false, false, false, false, false, false, false, false, false, false, false, false, false, false, false, false, false, false, false, false, false, false, false, false, false, false, false, false, false, false, false, false, false, false, false, false, false, false, false, false, false, false, false, false, false, false, false, false, false, false, false, false, false, false, false, false, false, false, false, false, false, false, false, false, false, false, false, false, false, false, false, false, false, false, true, true, true, true]
def b8_5 : EC := EC.ret
def m8_5 : List Bool := [false, false, false, false, false, false, false, false, false, false, false, false, false, false, false, false, false, false, false, false, false, false, false, false, false, false, false, false, false, false, false, false, false, false, false, false, false, false, false, false, false, false, false, false, false, false, false, false, false, false, false, false, false, false, false, false, false, false, false, false, false, false, false, false, false, false, false, false, false, false, false, false, false, false, false, false, false, false, false, false, false, false, false, false, false, false, false, false, false, false, false, false, false, false, false, false, false, false, false, false, false, false, false, false, false, false, false, false, false, false, false, false, false, false, false, false, false, false, false]
def r8_5 : EC := b8_5
def r8_4 : EC := EC.seq b8_4 r8_5
def r8_3 : EC := EC.seq b8_3 r8_4
def r8_2 : EC := EC.seq b8_2 r8_3
def r8_1 : EC := EC.seq b8_1 r8_2
def r8_0 : EC := EC.seq b8_0 r8_1
def e8 : EFun := EFun.mk 119 [ERes.t 0] r8_0
theorem c8 : cFun Try.prog 0 (fun d => d == 2000004 || d == 2000006 || d == 2000008 || d == 2000010 || d == 2000064 || d == 2000074 || d == 3000000) Try.f8 = some e8 := by kernel_rfl
theorem x8 : Try.prog.funcs[8]? = some Try.f8 := by kernel_rfl
theorem n8 : (Try.f8.name == "runtime.NumGoroutine") = false := by kernel_rfl
/-! 9: reach.Of -/
def b9_0 : EC := EC.ops false [EOper.mk (some 4) (EOp.alloc true 24 [V.int .u32 (0), V.int .u32 (0)]) none, EOper.mk (some 5) (EOp.mv (Opd.c (V.bool false))) none]
def m9_0 : List Bool := [false, false, false, false, true, true, false, false, false, false, false, false, false, false, false, false, false, false, false, false, false, false, false, false]
def b9_1 : EC := EC.seq (EC.ops false [EOper.mk (some 6) (EOp.mv (Opd.t 1)) none, EOper.mk (some 7) (EOp.bin .lss (Opd.t 6) (Opd.c (V.int .i64 (1)))) none, EOper.mk (some
  8) (EOp.mv (Opd.t 7)) none, EOper.mk (some 9) (EOp.mv (Opd.t 1)) (some (8, false)), EOper.mk (some 10) (EOp.bin .sub (Opd.t 9) (Opd.c (V.int .i64 (1)))) (some (8,
  false)), EOper.mk (some 11) (EOp.mv (Opd.t 0)) (some (8, false)), EOper.mk (some 12) (EOp.un .xor (Opd.t 11)) (some (8, false)), EOper.mk (some 13) (EOp.conv .i64 (Opd.t
  12)) (some (8, false)), EOper.mk (some 14) (EOp.bin .gtr (Opd.t 10) (Opd.t 13)) (some (8, false)), EOper.mk (some 15) (EOp.pick (Opd.t 8) (Opd.c (V.bool true)) (Opd.t
  14)) none]) (EC.cond (Opd.t 15) (EC.seq (EC.ops false [EOper.mk (some 16) (EOp.build [V.int .u32 (0), V.int .u32 (0)] []) none, EOper.mk none (EOp.st 2 (Opd.t 4) (Opd.t
  16)) none, EOper.mk (some 5) (EOp.mv (Opd.c (V.bool false))) none]) EC.ret) EC.skip)
def m9_1 : List Bool := [false, false, false, false, false, true, true, true, true, true, true, true, true, true, true, true, true, false, false, false, false, false, false, false]
def b9_2 : EC := EC.ops false [EOper.mk (some 17) (EOp.mv (Opd.t 0)) none, EOper.mk (some 18) (EOp.mv (Opd.t 0)) none, EOper.mk (some 19) (EOp.mv (Opd.t 1)) none, EOper.mk
  (some 20) (EOp.bin .sub (Opd.t 19) (Opd.c (V.int .i64 (1)))) none, EOper.mk (some 21) (EOp.conv .u32 (Opd.t 20)) none, EOper.mk (some 22) (EOp.bin .add (Opd.t 18) (Opd.t
  21)) none, EOper.mk (some 23) (EOp.build [V.int .u32 (0), V.int .u32 (0)] [(0, 1, Opd.t 17), (1, 1, Opd.t 22)]) none, EOper.mk none (EOp.st 2 (Opd.t 4) (Opd.t 23)) none,
  EOper.mk (some 5) (EOp.mv (Opd.c (V.bool true))) none]
def m9_2 : List Bool := [false, false, false, false, false, true, false, false, false, false, false, false, false, false, false, false, false, true, true, true, true, true, true, true]
def b9_3 : EC := EC.ret
def m9_3 : List Bool := [false, false, false, false, false, false, false, false, false, false, false, false, false, false, false, false, false, false, false, false, false, false, false, false]
def r9_3 : EC := b9_3
def r9_2 : EC := EC.seq b9_2 r9_3
def r9_1 : EC := EC.seq b9_1 r9_2
def r9_0 : EC := EC.seq b9_0 r9_1
def e9 : EFun := EFun.mk 24 [ERes.c 4 2, ERes.t 5] r9_0
theorem c9 : cFun Try.prog 0 (fun _ => false) Try.f9 = some e9 := by kernel_rfl
theorem x9 : Try.prog.funcs[9]? = some Try.f9 := by kernel_rfl
theorem n9 : (Try.f9.name == "runtime.NumGoroutine") = false := by kernel_rfl
/-! 10: septumref02.Of -/
def b10_0 : EC := EC.ops false [EOper.mk (some 4) (EOp.alloc true 24 [V.int .u32 (0), V.int .u32 (0)]) none, EOper.mk (some 5) (EOp.mv (Opd.c (V.bool false))) none]
def m10_0 : List Bool := [false, false, false, false, true, true, false, false, false, false, false, false, false, false, false, false, false, false, false, false, false, false, false, false]
def b10_1 : EC := EC.seq (EC.ops false [EOper.mk (some 6) (EOp.mv (Opd.t 1)) none, EOper.mk (some 7) (EOp.bin .lss (Opd.t 6) (Opd.c (V.int .i64 (1)))) none, EOper.mk (some
  8) (EOp.mv (Opd.t 7)) none, EOper.mk (some 9) (EOp.mv (Opd.t 1)) (some (8, false)), EOper.mk (some 10) (EOp.mv (Opd.t 0)) (some (8, false)), EOper.mk (some 11) (EOp.conv
  .i64 (Opd.t 10)) (some (8, false)), EOper.mk (some 12) (EOp.bin .sub (Opd.c (V.int .i64 (4294967296))) (Opd.t 11)) (some (8, false)), EOper.mk (some 13) (EOp.bin .gtr
  (Opd.t 9) (Opd.t 12)) (some (8, false)), EOper.mk (some 14) (EOp.pick (Opd.t 8) (Opd.c (V.bool true)) (Opd.t 13)) none]) (EC.cond (Opd.t 14) (EC.seq (EC.ops false
  [EOper.mk (some 15) (EOp.build [V.int .u32 (0), V.int .u32 (0)] []) none, EOper.mk none (EOp.st 2 (Opd.t 4) (Opd.t 15)) none, EOper.mk (some 5) (EOp.mv (Opd.c (V.bool
  false))) none]) EC.ret) EC.skip)
def m10_1 : List Bool := [false, false, false, false, false, true, true, true, true, true, true, true, true, true, true, true, false, false, false, false, false, false, false, false]
def b10_2 : EC := EC.ops false [EOper.mk (some 16) (EOp.mv (Opd.t 0)) none, EOper.mk (some 17) (EOp.mv (Opd.t 0)) none, EOper.mk (some 18) (EOp.conv .i64 (Opd.t 17)) none,
  EOper.mk (some 19) (EOp.mv (Opd.t 1)) none, EOper.mk (some 20) (EOp.bin .add (Opd.t 18) (Opd.t 19)) none, EOper.mk (some 21) (EOp.bin .sub (Opd.t 20) (Opd.c (V.int .i64
  (1)))) none, EOper.mk (some 22) (EOp.conv .u32 (Opd.t 21)) none, EOper.mk (some 23) (EOp.build [V.int .u32 (0), V.int .u32 (0)] [(0, 1, Opd.t 16), (1, 1, Opd.t 22)])
  none, EOper.mk none (EOp.st 2 (Opd.t 4) (Opd.t 23)) none, EOper.mk (some 5) (EOp.mv (Opd.c (V.bool true))) none]
def m10_2 : List Bool := [false, false, false, false, false, true, false, false, false, false, false, false, false, false, false, false, true, true, true, true, true, true, true, true]
def b10_3 : EC := EC.ret
def m10_3 : List Bool := [false, false, false, false, false, false, false, false, false, false, false, false, false, false, false, false, false, false, false, false, false, false, false, false]
def r10_3 : EC := b10_3
def r10_2 : EC := EC.seq b10_2 r10_3
def r10_1 : EC := EC.seq b10_1 r10_2
def r10_0 : EC := EC.seq b10_0 r10_1
def e10 : EFun := EFun.mk 24 [ERes.c 4 2, ERes.t 5] r10_0
theorem c10 : cFun Try.prog 0 (fun _ => false) Try.f10 = some e10 := by kernel_rfl
theorem x10 : Try.prog.funcs[10]? = some Try.f10 := by kernel_rfl
theorem n10 : (Try.f10.name == "runtime.NumGoroutine") = false := by kernel_rfl
/-! 11: septumkit.Pick -/
def b11_0 : EC := EC.ops false [EOper.mk (some 4) (EOp.mv (Opd.c (V.int .i64 (0)))) none]
def m11_0 : List Bool := [false, false, false, false, true, false, false, false, false, false, false, false, false, false, false, false]
def b11_1 : EC := EC.seq (EC.ops false [EOper.mk (some 5) (EOp.mv (Opd.t 1)) none, EOper.mk (some 6) (EOp.bin .lss (Opd.t 5) (Opd.c (V.int .i64 (1)))) none]) (EC.cond
  (Opd.t 6) (EC.seq (EC.ops false [EOper.mk (some 4) (EOp.mv (Opd.c (V.int .i64 (0)))) none]) EC.ret) EC.skip)
def m11_1 : List Bool := [false, false, false, false, true, true, true, false, false, false, false, false, false, false, false, false]
def b11_2 : EC := EC.ops false [EOper.mk (some 7) (EOp.mv (Opd.t 0)) none, EOper.mk (some 8) (EOp.mv (Opd.t 1)) none, EOper.mk (some 9) (EOp.bin .rem (Opd.t 7) (Opd.t 8))
  none, EOper.mk (some 0) (EOp.mv (Opd.t 9)) none]
def m11_2 : List Bool := [true, false, false, false, false, false, false, true, true, true, false, false, false, false, false, false]
def b11_3 : EC := EC.seq (EC.ops false [EOper.mk (some 10) (EOp.mv (Opd.t 0)) none, EOper.mk (some 11) (EOp.bin .lss (Opd.t 10) (Opd.c (V.int .i64 (0)))) none]) (EC.cond
  (Opd.t 11) (EC.ops false [EOper.mk (some 12) (EOp.mv (Opd.t 0)) none, EOper.mk (some 13) (EOp.mv (Opd.t 1)) none, EOper.mk (some 14) (EOp.bin .add (Opd.t 12) (Opd.t 13))
  none, EOper.mk (some 0) (EOp.mv (Opd.t 14)) none]) EC.skip)
def m11_3 : List Bool := [true, false, false, false, false, false, false, false, false, false, true, true, true, true, true, false]
def b11_4 : EC := EC.ops false [EOper.mk (some 15) (EOp.mv (Opd.t 0)) none, EOper.mk (some 4) (EOp.mv (Opd.t 15)) none]
def m11_4 : List Bool := [false, false, false, false, true, false, false, false, false, false, false, false, false, false, false, true]
def b11_5 : EC := EC.ret
def m11_5 : List Bool := [false, false, false, false, false, false, false, false, false, false, false, false, false, false, false, false]
def r11_5 : EC := b11_5
def r11_4 : EC := EC.seq b11_4 r11_5
def r11_3 : EC := EC.seq b11_3 r11_4
def r11_2 : EC := EC.seq b11_2 r11_3
def r11_1 : EC := EC.seq b11_1 r11_2
def r11_0 : EC := EC.seq b11_0 r11_1
def e11 : EFun := EFun.mk 16 [ERes.t 4] r11_0
theorem c11 : cFun Try.prog 0 (fun _ => false) Try.f11 = some e11 := by kernel_rfl
theorem x11 : Try.prog.funcs[11]? = some Try.f11 := by kernel_rfl
theorem n11 : (Try.f11.name == "runtime.NumGoroutine") = false := by kernel_rfl
/-! 12: reach.Right -/
def b12_0 : EC := EC.ops false [EOper.mk (some 1) (EOp.box true 24 (Opd.t 0)) none, EOper.mk (some 2) (EOp.mv (Opd.c (V.bool false))) none]
def m12_0 : List Bool := [false, true, true, false, false, false]
def b12_1 : EC := EC.ops false [EOper.mk (some 3) (EOp.ld true 2 (Opd.t 1)) none, EOper.mk (some 4) (EOp.build [V.int .u32 (0), V.int .u32 (0)] [(0, 2, Opd.t 3)]) none,
  EOper.mk (some 5) (EOp.call (Opd.f 26) [Opd.t 4]) none, EOper.mk (some 2) (EOp.mv (Opd.t 5)) none]
def m12_1 : List Bool := [false, false, true, true, true, true]
def b12_2 : EC := EC.ret
def m12_2 : List Bool := [false, false, false, false, false, false]
def r12_2 : EC := b12_2
def r12_1 : EC := EC.seq b12_1 r12_2
def r12_0 : EC := EC.seq b12_0 r12_1
def e12 : EFun := EFun.mk 6 [ERes.t 2] r12_0
theorem c12 : cFun Try.prog 0 (fun _ => false) Try.f12 = some e12 := by kernel_rfl
theorem x12 : Try.prog.funcs[12]? = some Try.f12 := by kernel_rfl
theorem n12 : (Try.f12.name == "runtime.NumGoroutine") = false := by kernel_rfl
/-! 13: septumref02.Right -/
def b13_0 : EC := EC.ops false [EOper.mk (some 1) (EOp.box true 24 (Opd.t 0)) none, EOper.mk (some 2) (EOp.mv (Opd.c (V.bool false))) none]
def m13_0 : List Bool := [false, true, true, false, false, false, false, false]
def b13_1 : EC := EC.ops false [EOper.mk (some 3) (EOp.fa 0 (Opd.t 1)) none, EOper.mk (some 4) (EOp.ld false 1 (Opd.t 3)) none, EOper.mk (some 5) (EOp.fa 1 (Opd.t 1))
  none, EOper.mk (some 6) (EOp.ld false 1 (Opd.t 5)) none, EOper.mk (some 7) (EOp.bin .leq (Opd.t 4) (Opd.t 6)) none, EOper.mk (some 2) (EOp.mv (Opd.t 7)) none]
def m13_1 : List Bool := [false, false, true, true, true, true, true, true]
def b13_2 : EC := EC.ret
def m13_2 : List Bool := [false, false, false, false, false, false, false, false]
def r13_2 : EC := b13_2
def r13_1 : EC := EC.seq b13_1 r13_2
def r13_0 : EC := EC.seq b13_0 r13_1
def e13 : EFun := EFun.mk 8 [ERes.t 2] r13_0
theorem c13 : cFun Try.prog 0 (fun _ => false) Try.f13 = some e13 := by kernel_rfl
theorem x13 : Try.prog.funcs[13]? = some Try.f13 := by kernel_rfl
theorem n13 : (Try.f13.name == "runtime.NumGoroutine") = false := by kernel_rfl
/-! 14: reach.Size -/
def b14_0 : EC := EC.ops false [EOper.mk (some 1) (EOp.box true 24 (Opd.t 0)) none, EOper.mk (some 2) (EOp.mv (Opd.c (V.int .i64 (0)))) none]
def m14_0 : List Bool := [false, true, true, false, false, false, false, false, false, false, false, false, false]
def b14_1 : EC := EC.seq (EC.ops false [EOper.mk (some 3) (EOp.ld true 2 (Opd.t 1)) none, EOper.mk (some 4) (EOp.call (Opd.f 12) [Opd.t 3]) none, EOper.mk (some 5) (EOp.un
  .not (Opd.t 4)) none]) (EC.cond (Opd.t 5) (EC.seq (EC.ops false [EOper.mk (some 2) (EOp.mv (Opd.c (V.int .i64 (0)))) none]) EC.ret) EC.skip)
def m14_1 : List Bool := [false, false, true, true, true, true, false, false, false, false, false, false, false]
def b14_2 : EC := EC.ops false [EOper.mk (some 6) (EOp.fa 1 (Opd.t 1)) none, EOper.mk (some 7) (EOp.ld false 1 (Opd.t 6)) none, EOper.mk (some 8) (EOp.fa 0 (Opd.t 1))
  none, EOper.mk (some 9) (EOp.ld false 1 (Opd.t 8)) none, EOper.mk (some 10) (EOp.bin .sub (Opd.t 7) (Opd.t 9)) none, EOper.mk (some 11) (EOp.conv .i64 (Opd.t 10)) none,
  EOper.mk (some 12) (EOp.bin .add (Opd.t 11) (Opd.c (V.int .i64 (1)))) none, EOper.mk (some 2) (EOp.mv (Opd.t 12)) none]
def m14_2 : List Bool := [false, false, true, false, false, false, true, true, true, true, true, true, true]
def b14_3 : EC := EC.ret
def m14_3 : List Bool := [false, false, false, false, false, false, false, false, false, false, false, false, false]
def r14_3 : EC := b14_3
def r14_2 : EC := EC.seq b14_2 r14_3
def r14_1 : EC := EC.seq b14_1 r14_2
def r14_0 : EC := EC.seq b14_0 r14_1
def e14 : EFun := EFun.mk 13 [ERes.t 2] r14_0
theorem c14 : cFun Try.prog 0 (fun _ => false) Try.f14 = some e14 := by kernel_rfl
theorem x14 : Try.prog.funcs[14]? = some Try.f14 := by kernel_rfl
theorem n14 : (Try.f14.name == "runtime.NumGoroutine") = false := by kernel_rfl
/-! 15: septumref02.Size -/
def b15_0 : EC := EC.ops false [EOper.mk (some 1) (EOp.box true 24 (Opd.t 0)) none, EOper.mk (some 2) (EOp.mv (Opd.c (V.int .i64 (0)))) none]
def m15_0 : List Bool := [false, true, true, false, false, false, false, false, false, false, false, false, false, false]
def b15_1 : EC := EC.seq (EC.ops false [EOper.mk (some 3) (EOp.ld true 2 (Opd.t 1)) none, EOper.mk (some 4) (EOp.call (Opd.f 13) [Opd.t 3]) none, EOper.mk (some 5) (EOp.un
  .not (Opd.t 4)) none]) (EC.cond (Opd.t 5) (EC.seq (EC.ops false [EOper.mk (some 2) (EOp.mv (Opd.c (V.int .i64 (0)))) none]) EC.ret) EC.skip)
def m15_1 : List Bool := [false, false, true, true, true, true, false, false, false, false, false, false, false, false]
def b15_2 : EC := EC.ops false [EOper.mk (some 6) (EOp.fa 1 (Opd.t 1)) none, EOper.mk (some 7) (EOp.ld false 1 (Opd.t 6)) none, EOper.mk (some 8) (EOp.conv .i64 (Opd.t 7))
  none, EOper.mk (some 9) (EOp.fa 0 (Opd.t 1)) none, EOper.mk (some 10) (EOp.ld false 1 (Opd.t 9)) none, EOper.mk (some 11) (EOp.conv .i64 (Opd.t 10)) none, EOper.mk (some
  12) (EOp.bin .sub (Opd.t 8) (Opd.t 11)) none, EOper.mk (some 13) (EOp.bin .add (Opd.t 12) (Opd.c (V.int .i64 (1)))) none, EOper.mk (some 2) (EOp.mv (Opd.t 13)) none]
def m15_2 : List Bool := [false, false, true, false, false, false, true, true, true, true, true, true, true, true]
def b15_3 : EC := EC.ret
def m15_3 : List Bool := [false, false, false, false, false, false, false, false, false, false, false, false, false, false]
def r15_3 : EC := b15_3
def r15_2 : EC := EC.seq b15_2 r15_3
def r15_1 : EC := EC.seq b15_1 r15_2
def r15_0 : EC := EC.seq b15_0 r15_1
def e15 : EFun := EFun.mk 14 [ERes.t 2] r15_0
theorem c15 : cFun Try.prog 0 (fun _ => false) Try.f15 = some e15 := by kernel_rfl
theorem x15 : Try.prog.funcs[15]? = some Try.f15 := by kernel_rfl
theorem n15 : (Try.f15.name == "runtime.NumGoroutine") = false := by kernel_rfl
/-! 16: reach.Has -/
def b16_0 : EC := EC.ops false [EOper.mk (some 2) (EOp.box true 24 (Opd.t 0)) none, EOper.mk (some 4) (EOp.mv (Opd.c (V.bool false))) none]
def m16_0 : List Bool := [false, false, true, false, true, false, false, false, false]
def b16_1 : EC := EC.ops false [EOper.mk (some 5) (EOp.ld true 2 (Opd.t 2)) none, EOper.mk (some 6) (EOp.build [V.int .u32 (0), V.int .u32 (0)] [(0, 2, Opd.t 5)]) none,
  EOper.mk (some 7) (EOp.mv (Opd.t 1)) none, EOper.mk (some 8) (EOp.call (Opd.f 27) [Opd.t 6, Opd.t 7]) none, EOper.mk (some 4) (EOp.mv (Opd.t 8)) none]
def m16_1 : List Bool := [false, false, false, false, true, true, true, true, true]
def b16_2 : EC := EC.ret
def m16_2 : List Bool := [false, false, false, false, false, false, false, false, false]
def r16_2 : EC := b16_2
def r16_1 : EC := EC.seq b16_1 r16_2
def r16_0 : EC := EC.seq b16_0 r16_1
def e16 : EFun := EFun.mk 9 [ERes.t 4] r16_0
theorem c16 : cFun Try.prog 0 (fun _ => false) Try.f16 = some e16 := by kernel_rfl
theorem x16 : Try.prog.funcs[16]? = some Try.f16 := by kernel_rfl
theorem n16 : (Try.f16.name == "runtime.NumGoroutine") = false := by kernel_rfl
/-! 17: septumref02.Has -/
def b17_0 : EC := EC.ops false [EOper.mk (some 2) (EOp.box true 24 (Opd.t 0)) none, EOper.mk (some 4) (EOp.mv (Opd.c (V.bool false))) none]
def m17_0 : List Bool := [false, false, true, false, true, false, false, false, false, false, false, false, false, false, false]
def b17_1 : EC := EC.ops false [EOper.mk (some 5) (EOp.mv (Opd.t 1)) none, EOper.mk (some 6) (EOp.fa 0 (Opd.t 2)) none, EOper.mk (some 7) (EOp.ld false 1 (Opd.t 6)) none,
  EOper.mk (some 8) (EOp.bin .geq (Opd.t 5) (Opd.t 7)) none, EOper.mk (some 9) (EOp.mv (Opd.t 8)) none, EOper.mk (some 10) (EOp.mv (Opd.t 1)) (some (9, true)), EOper.mk
  (some 11) (EOp.fa 1 (Opd.t 2)) (some (9, true)), EOper.mk (some 12) (EOp.ld false 1 (Opd.t 11)) (some (9, true)), EOper.mk (some 13) (EOp.bin .leq (Opd.t 10) (Opd.t 12))
  (some (9, true)), EOper.mk (some 14) (EOp.pick (Opd.t 9) (Opd.t 13) (Opd.c (V.bool false))) none, EOper.mk (some 4) (EOp.mv (Opd.t 14)) none]
def m17_1 : List Bool := [false, false, false, false, true, true, true, true, true, true, true, true, true, true, true]
def b17_2 : EC := EC.ret
def m17_2 : List Bool := [false, false, false, false, false, false, false, false, false, false, false, false, false, false, false]
def r17_2 : EC := b17_2
def r17_1 : EC := EC.seq b17_1 r17_2
def r17_0 : EC := EC.seq b17_0 r17_1
def e17 : EFun := EFun.mk 15 [ERes.t 4] r17_0
theorem c17 : cFun Try.prog 0 (fun _ => false) Try.f17 = some e17 := by kernel_rfl
theorem x17 : Try.prog.funcs[17]? = some Try.f17 := by kernel_rfl
theorem n17 : (Try.f17.name == "runtime.NumGoroutine") = false := by kernel_rfl
/-! 18: septumlaw02.awake -/
def b18_0 : EC := EC.ops false [EOper.mk (some 0) (EOp.mv (Opd.c (V.bool false))) none]
def m18_0 : List Bool := [true, false, false, false, false, false, false, false, false, false, false, false, false, false, false, false, false, false, false, false, false, false, false, false, false, false, false, false, false, false, false, false, false, false, false, false, false, false, false, false, false, false, false, false, false, false, false, false, false, false, false, false, false, false, false, false, false, false]
def b18_1 : EC := EC.ops false [EOper.mk (some 10) (EOp.call (Opd.f 9) [Opd.c (V.int .u32 (16)), Opd.c (V.int .i64 (4))]) none, EOper.mk (some 9) (EOp.mv (Opd.t 10)) none,
  EOper.mk (some 11) (EOp.ext (Opd.t 9) 0) none, EOper.mk (some 12) (EOp.ext (Opd.t 9) 1) none, EOper.mk (some 1) (EOp.alloc true 24 [V.int .u32 (0), V.int .u32 (0)])
  none, EOper.mk none (EOp.st 2 (Opd.t 1) (Opd.t 11)) none, EOper.mk (some 2) (EOp.mv (Opd.t 12)) none]
def m18_1 : List Bool := [false, true, true, false, false, false, false, false, false, true, true, true, true, false, false, false, false, false, false, false, false, false, false, false, false, false, false, false, false, false, false, false, false, false, false, false, false, false, false, false, false, false, false, false, false, false, false, false, false, false, false, false, false, false, false, false, false, false]
def b18_2 : EC := EC.ops false [EOper.mk (some 14) (EOp.call (Opd.f 9) [Opd.c (V.int .u32 (4294967295)), Opd.c (V.int .i64 (1))]) none, EOper.mk (some 13) (EOp.mv (Opd.t
  14)) none, EOper.mk (some 15) (EOp.ext (Opd.t 13) 0) none, EOper.mk (some 16) (EOp.ext (Opd.t 13) 1) none, EOper.mk (some 3) (EOp.alloc true 24 [V.int .u32 (0), V.int
  .u32 (0)]) none, EOper.mk none (EOp.st 2 (Opd.t 3) (Opd.t 15)) none, EOper.mk (some 4) (EOp.mv (Opd.t 16)) none]
def m18_2 : List Bool := [false, false, false, true, true, false, false, false, false, false, false, false, false, true, true, true, true, false, false, false, false, false, false, false, false, false, false, false, false, false, false, false, false, false, false, false, false, false, false, false, false, false, false, false, false, false, false, false, false, false, false, false, false, false, false, false, false, false]
def b18_3 : EC := EC.ops false [EOper.mk (some 18) (EOp.call (Opd.f 9) [Opd.c (V.int .u32 (4294967295)), Opd.c (V.int .i64 (2))]) none, EOper.mk (some 17) (EOp.mv (Opd.t
  18)) none, EOper.mk (some 19) (EOp.ext (Opd.t 17) 0) none, EOper.mk (some 20) (EOp.ext (Opd.t 17) 1) none, EOper.mk (some 5) (EOp.alloc true 24 [V.int .u32 (0), V.int
  .u32 (0)]) none, EOper.mk none (EOp.st 2 (Opd.t 5) (Opd.t 19)) none, EOper.mk (some 6) (EOp.mv (Opd.t 20)) none]
def m18_3 : List Bool := [false, false, false, false, false, true, true, false, false, false, false, false, false, false, false, false, false, true, true, true, true, false, false, false, false, false, false, false, false, false, false, false, false, false, false, false, false, false, false, false, false, false, false, false, false, false, false, false, false, false, false, false, false, false, false, false, false, false]
def b18_4 : EC := EC.ops false [EOper.mk (some 22) (EOp.build [V.int .u32 (0), V.int .u32 (0)] [(1, 1, Opd.c (V.int .u32 (9)))]) none, EOper.mk (some 23) (EOp.build [V.int
  .u32 (0), V.int .u32 (0)] [(0, 1, Opd.c (V.int .u32 (9))), (1, 1, Opd.c (V.int .u32 (12)))]) none, EOper.mk (some 24) (EOp.call (Opd.f 25) [Opd.t 22, Opd.t 23]) none,
  EOper.mk (some 21) (EOp.mv (Opd.t 24)) none, EOper.mk (some 25) (EOp.ext (Opd.t 21) 0) none, EOper.mk (some 26) (EOp.ext (Opd.t 21) 1) none, EOper.mk (some 7) (EOp.alloc
  true 24 [V.int .u32 (0), V.int .u32 (0)]) none, EOper.mk none (EOp.st 2 (Opd.t 7) (Opd.t 25)) none, EOper.mk (some 8) (EOp.mv (Opd.t 26)) none]
def m18_4 : List Bool := [false, false, false, false, false, false, false, true, true, false, false, false, false, false, false, false, false, false, false, false, false, true, true, true, true, true, true, false, false, false, false, false, false, false, false, false, false, false, false, false, false, false, false, false, false, false, false, false, false, false, false, false, false, false, false, false, false, false]
def b18_5 : EC := EC.ops false [EOper.mk (some 27) (EOp.mv (Opd.t 2)) none, EOper.mk (some 28) (EOp.mv (Opd.t 27)) none, EOper.mk (some 29) (EOp.ld true 2 (Opd.t 1)) (some
  (28, true)), EOper.mk (some 30) (EOp.build [V.int .u32 (0), V.int .u32 (0)] [(0, 1, Opd.c (V.int .u32 (16))), (1, 1, Opd.c (V.int .u32 (19)))]) (some (28, true)),
  EOper.mk (some 31) (EOp.cmp false [true, true] (Opd.t 29) (Opd.t 30)) (some (28, true)), EOper.mk (some 32) (EOp.pick (Opd.t 28) (Opd.t 31) (Opd.c (V.bool false))) none,
  EOper.mk (some 33) (EOp.mv (Opd.t 32)) none, EOper.mk (some 34) (EOp.mv (Opd.t 4)) (some (33, true)), EOper.mk (some 35) (EOp.pick (Opd.t 33) (Opd.t 34) (Opd.c (V.bool
  false))) none, EOper.mk (some 36) (EOp.mv (Opd.t 35)) none, EOper.mk (some 37) (EOp.ld true 2 (Opd.t 3)) (some (36, true)), EOper.mk (some 38) (EOp.build [V.int .u32
  (0), V.int .u32 (0)] [(0, 1, Opd.c (V.int .u32 (4294967295))), (1, 1, Opd.c (V.int .u32 (4294967295)))]) (some (36, true)), EOper.mk (some 39) (EOp.cmp false [true,
  true] (Opd.t 37) (Opd.t 38)) (some (36, true)), EOper.mk (some 40) (EOp.pick (Opd.t 36) (Opd.t 39) (Opd.c (V.bool false))) none, EOper.mk (some 41) (EOp.mv (Opd.t 40))
  none, EOper.mk (some 42) (EOp.mv (Opd.t 6)) (some (41, true)), EOper.mk (some 43) (EOp.un .not (Opd.t 42)) (some (41, true)), EOper.mk (some 44) (EOp.pick (Opd.t 41)
  (Opd.t 43) (Opd.c (V.bool false))) none, EOper.mk (some 45) (EOp.mv (Opd.t 44)) none, EOper.mk (some 46) (EOp.build [V.int .u32 (0), V.int .u32 (0)] [(1, 1, Opd.c (V.int
  .u32 (4294967295)))]) (some (45, true)), EOper.mk (some 47) (EOp.call (Opd.f 14) [Opd.t 46]) (some (45, true)), EOper.mk (some 48) (EOp.bin .eql (Opd.t 47) (Opd.c (V.int
  .i64 (4294967296)))) (some (45, true)), EOper.mk (some 49) (EOp.pick (Opd.t 45) (Opd.t 48) (Opd.c (V.bool false))) none, EOper.mk (some 50) (EOp.mv (Opd.t 49)) none,
  EOper.mk (some 51) (EOp.mv (Opd.t 8)) (some (50, true)), EOper.mk (some 52) (EOp.pick (Opd.t 50) (Opd.t 51) (Opd.c (V.bool false))) none, EOper.mk (some 53) (EOp.mv
  (Opd.t 52)) none, EOper.mk (some 54) (EOp.ld true 2 (Opd.t 7)) (some (53, true)), EOper.mk (some 55) (EOp.build [V.int .u32 (0), V.int .u32 (0)] [(0, 1, Opd.c (V.int
  .u32 (9))), (1, 1, Opd.c (V.int .u32 (9)))]) (some (53, true)), EOper.mk (some 56) (EOp.cmp false [true, true] (Opd.t 54) (Opd.t 55)) (some (53, true)), EOper.mk (some
  57) (EOp.pick (Opd.t 53) (Opd.t 56) (Opd.c (V.bool false))) none, EOper.mk (some 0) (EOp.mv (Opd.t 57)) none]
def m18_5 : List Bool := [true, false, false, false, false, false, false, false, false, false, false, false, false, false, false, false, false, false, false, false, false, false, false, false, false, false, false, true, true, true, true, true, true, true, true, true, true, true, true, true, true, true, true, true, true, true, true, true, true, true, true, true, true, true, true, true, true, true]
def b18_6 : EC := EC.ret
def m18_6 : List Bool := [false, false, false, false, false, false, false, false, false, false, false, false, false, false, false, false, false, false, false, false, false, false, false, false, false, false, false, false, false, false, false, false, false, false, false, false, false, false, false, false, false, false, false, false, false, false, false, false, false, false, false, false, false, false, false, false, false, false]
def r18_6 : EC := b18_6
def r18_5 : EC := EC.seq b18_5 r18_6
def r18_4 : EC := EC.seq b18_4 r18_5
def r18_3 : EC := EC.seq b18_3 r18_4
def r18_2 : EC := EC.seq b18_2 r18_3
def r18_1 : EC := EC.seq b18_1 r18_2
def r18_0 : EC := EC.seq b18_0 r18_1
def e18 : EFun := EFun.mk 58 [ERes.t 0] r18_0
theorem c18 : cFun Try.prog 0 (fun _ => false) Try.f18 = some e18 := by kernel_rfl
theorem x18 : Try.prog.funcs[18]? = some Try.f18 := by kernel_rfl
theorem n18 : (Try.f18.name == "runtime.NumGoroutine") = false := by kernel_rfl
/-! 19: septumlaw02.two -/
def b19_0 : EC := EC.ops false [EOper.mk (some 2) (EOp.box true 24 (Opd.t 0)) none, EOper.mk (some 3) (EOp.box true 24 (Opd.t 1)) none, EOper.mk (some 4) (EOp.mv (Opd.c
  (V.bool false))) none]
def m19_0 : List Bool := [false, false, true, true, true, false, false, false, false, false, false, false, false, false, false, false, false, false, false, false, false, false, false, false, false, false, false, false, false, false, false, false, false, false, false, false, false, false, false, false, false, false, false, false, false, false, false]
def b19_1 : EC := EC.ops false [EOper.mk (some 10) (EOp.ld true 2 (Opd.t 2)) none, EOper.mk (some 11) (EOp.ld true 2 (Opd.t 3)) none, EOper.mk (some 12) (EOp.call (Opd.f
  25) [Opd.t 10, Opd.t 11]) none, EOper.mk (some 9) (EOp.mv (Opd.t 12)) none, EOper.mk (some 13) (EOp.ext (Opd.t 9) 0) none, EOper.mk (some 14) (EOp.ext (Opd.t 9) 1) none,
  EOper.mk (some 5) (EOp.alloc true 24 [V.int .u32 (0), V.int .u32 (0)]) none, EOper.mk none (EOp.st 2 (Opd.t 5) (Opd.t 13)) none, EOper.mk (some 6) (EOp.mv (Opd.t 14))
  none]
def m19_1 : List Bool := [false, false, false, false, false, true, true, false, false, true, true, true, true, true, true, false, false, false, false, false, false, false, false, false, false, false, false, false, false, false, false, false, false, false, false, false, false, false, false, false, false, false, false, false, false, false, false]
def b19_2 : EC := EC.ops false [EOper.mk (some 16) (EOp.ld true 2 (Opd.t 2)) none, EOper.mk (some 17) (EOp.ld true 2 (Opd.t 3)) none, EOper.mk (some 18) (EOp.call (Opd.f
  28) [Opd.t 16, Opd.t 17]) none, EOper.mk (some 15) (EOp.mv (Opd.t 18)) none, EOper.mk (some 19) (EOp.ext (Opd.t 15) 0) none, EOper.mk (some 20) (EOp.ext (Opd.t 15) 1)
  none, EOper.mk (some 7) (EOp.alloc true 24 [V.int .u32 (0), V.int .u32 (0)]) none, EOper.mk none (EOp.st 2 (Opd.t 7) (Opd.t 19)) none, EOper.mk (some 8) (EOp.mv (Opd.t
  20)) none]
def m19_2 : List Bool := [false, false, false, false, false, false, false, true, true, false, false, false, false, false, false, true, true, true, true, true, true, false, false, false, false, false, false, false, false, false, false, false, false, false, false, false, false, false, false, false, false, false, false, false, false, false, false]
def b19_3 : EC := EC.ops true [EOper.mk (some 21) (EOp.ld true 2 (Opd.t 5)) none, EOper.mk (some 22) (EOp.ld true 2 (Opd.t 7)) none, EOper.mk (some 23) (EOp.cmp false
  [true, true] (Opd.t 21) (Opd.t 22)) none, EOper.mk (some 24) (EOp.mv (Opd.t 23)) none, EOper.mk (some 25) (EOp.mv (Opd.t 6)) (some (24, true)), EOper.mk (some 26)
  (EOp.mv (Opd.t 8)) (some (24, true)), EOper.mk (some 27) (EOp.eqb false (Opd.t 25) (Opd.t 26)) (some (24, true)), EOper.mk (some 28) (EOp.pick (Opd.t 24) (Opd.t 27)
  (Opd.c (V.bool false))) none, EOper.mk (some 29) (EOp.mv (Opd.t 28)) none, EOper.mk (some 30) (EOp.ld true 2 (Opd.t 2)) (some (29, true)), EOper.mk (some 31) (EOp.ld
  true 2 (Opd.t 3)) (some (29, true)), EOper.mk (some 32) (EOp.call (Opd.f 21) [Opd.t 30, Opd.t 31]) (some (29, true)), EOper.mk (some 33) (EOp.ld true 2 (Opd.t 2)) (some
  (29, true)), EOper.mk (some 34) (EOp.ld true 2 (Opd.t 3)) (some (29, true)), EOper.mk (some 35) (EOp.call (Opd.f 29) [Opd.t 33, Opd.t 34]) (some (29, true)), EOper.mk
  (some 36) (EOp.eqb false (Opd.t 32) (Opd.t 35)) (some (29, true)), EOper.mk (some 37) (EOp.pick (Opd.t 29) (Opd.t 36) (Opd.c (V.bool false))) none, EOper.mk (some 38)
  (EOp.mv (Opd.t 37)) none, EOper.mk (some 39) (EOp.ld true 2 (Opd.t 2)) (some (38, true)), EOper.mk (some 40) (EOp.ld true 2 (Opd.t 3)) (some (38, true)), EOper.mk (some
  41) (EOp.call (Opd.f 20) [Opd.t 39, Opd.t 40]) (some (38, true)), EOper.mk (some 42) (EOp.ld true 2 (Opd.t 2)) (some (38, true)), EOper.mk (some 43) (EOp.ld true 2
  (Opd.t 3)) (some (38, true)), EOper.mk (some 44) (EOp.call (Opd.f 30) [Opd.t 42, Opd.t 43]) (some (38, true)), EOper.mk (some 45) (EOp.eqb false (Opd.t 41) (Opd.t 44))
  (some (38, true)), EOper.mk (some 46) (EOp.pick (Opd.t 38) (Opd.t 45) (Opd.c (V.bool false))) none, EOper.mk (some 4) (EOp.mv (Opd.t 46)) none]
def m19_3 : List Bool := [false, false, false, false, true, false, false, false, false, false, false, false, false, false, false, false, false, false, false, false, false, true, true, true, true, true, true, true, true, true, true, true, true, true, true, true, true, true, true, true, true, true, true, true, true, true, true]
def b19_4 : EC := EC.ret
def m19_4 : List Bool := [false, false, false, false, false, false, false, false, false, false, false, false, false, false, false, false, false, false, false, false, false, false, false, false, false, false, false, false, false, false, false, false, false, false, false, false, false, false, false, false, false, false, false, false, false, false, false]
def r19_4 : EC := b19_4
def r19_3 : EC := EC.seq b19_3 r19_4
def r19_2 : EC := EC.seq b19_2 r19_3
def r19_1 : EC := EC.seq b19_1 r19_2
def r19_0 : EC := EC.seq b19_0 r19_1
def e19 : EFun := EFun.mk 47 [ERes.t 4] r19_0
theorem c19 : cFun Try.prog 0 (fun _ => false) Try.f19 = some e19 := by kernel_rfl
theorem x19 : Try.prog.funcs[19]? = some Try.f19 := by kernel_rfl
theorem n19 : (Try.f19.name == "runtime.NumGoroutine") = false := by kernel_rfl
/-! 20: reach.Less -/
def b20_0 : EC := EC.ops false [EOper.mk (some 2) (EOp.box true 24 (Opd.t 0)) none, EOper.mk (some 3) (EOp.box true 24 (Opd.t 1)) none, EOper.mk (some 4) (EOp.mv (Opd.c
  (V.bool false))) none]
def m20_0 : List Bool := [false, false, true, true, true, false, false, false, false, false, false, false, false, false, false, false, false, false, false, false, false, false, false, false, false, false, false]
def b20_1 : EC := EC.seq (EC.ops false [EOper.mk (some 5) (EOp.ld true 2 (Opd.t 2)) none, EOper.mk (some 6) (EOp.ld true 2 (Opd.t 3)) none, EOper.mk (some 7) (EOp.cmp
  false [true, true] (Opd.t 5) (Opd.t 6)) none]) (EC.cond (Opd.t 7) (EC.seq (EC.ops false [EOper.mk (some 4) (EOp.mv (Opd.c (V.bool false))) none]) EC.ret) EC.skip)
def m20_1 : List Bool := [false, false, false, false, true, true, true, true, false, false, false, false, false, false, false, false, false, false, false, false, false, false, false, false, false, false, false]
def b20_2 : EC := EC.ops false [EOper.mk (some 8) (EOp.fa 0 (Opd.t 2)) none, EOper.mk (some 9) (EOp.ld false 1 (Opd.t 8)) none, EOper.mk (some 10) (EOp.fa 0 (Opd.t 3))
  none, EOper.mk (some 11) (EOp.ld false 1 (Opd.t 10)) none, EOper.mk (some 12) (EOp.bin .lss (Opd.t 9) (Opd.t 11)) none, EOper.mk (some 13) (EOp.mv (Opd.t 12)) none,
  EOper.mk (some 14) (EOp.fa 0 (Opd.t 2)) (some (13, false)), EOper.mk (some 15) (EOp.ld false 1 (Opd.t 14)) (some (13, false)), EOper.mk (some 16) (EOp.fa 0 (Opd.t 3))
  (some (13, false)), EOper.mk (some 17) (EOp.ld false 1 (Opd.t 16)) (some (13, false)), EOper.mk (some 18) (EOp.bin .eql (Opd.t 15) (Opd.t 17)) (some (13, false)),
  EOper.mk (some 19) (EOp.mv (Opd.t 18)) (some (13, false)), EOper.mk (some 20) (EOp.fa 1 (Opd.t 2)) (some (19, true)), EOper.mk (some 21) (EOp.ld false 1 (Opd.t 20))
  (some (19, true)), EOper.mk (some 22) (EOp.fa 1 (Opd.t 3)) (some (19, true)), EOper.mk (some 23) (EOp.ld false 1 (Opd.t 22)) (some (19, true)), EOper.mk (some 24)
  (EOp.bin .lss (Opd.t 21) (Opd.t 23)) (some (19, true)), EOper.mk (some 25) (EOp.pick (Opd.t 19) (Opd.t 24) (Opd.c (V.bool false))) (some (13, false)), EOper.mk (some 26)
  (EOp.pick (Opd.t 13) (Opd.c (V.bool true)) (Opd.t 25)) none, EOper.mk (some 4) (EOp.mv (Opd.t 26)) none]
def m20_2 : List Bool := [false, false, false, false, true, false, false, false, true, true, true, true, true, true, true, true, true, true, true, true, true, true, true, true, true, true, true]
def b20_3 : EC := EC.ret
def m20_3 : List Bool := [false, false, false, false, false, false, false, false, false, false, false, false, false, false, false, false, false, false, false, false, false, false, false, false, false, false, false]
def r20_3 : EC := b20_3
def r20_2 : EC := EC.seq b20_2 r20_3
def r20_1 : EC := EC.seq b20_1 r20_2
def r20_0 : EC := EC.seq b20_0 r20_1
def e20 : EFun := EFun.mk 27 [ERes.t 4] r20_0
theorem c20 : cFun Try.prog 0 (fun _ => false) Try.f20 = some e20 := by kernel_rfl
theorem x20 : Try.prog.funcs[20]? = some Try.f20 := by kernel_rfl
theorem n20 : (Try.f20.name == "runtime.NumGoroutine") = false := by kernel_rfl
/-! 21: reach.In -/
def b21_0 : EC := EC.ops false [EOper.mk (some 2) (EOp.box true 24 (Opd.t 0)) none, EOper.mk (some 3) (EOp.box true 24 (Opd.t 1)) none, EOper.mk (some 4) (EOp.mv (Opd.c
  (V.bool false))) none]
def m21_0 : List Bool := [false, false, true, true, true, false, false, false]
def b21_1 : EC := EC.ops false [EOper.mk (some 5) (EOp.ld true 2 (Opd.t 2)) none, EOper.mk (some 6) (EOp.ld true 2 (Opd.t 3)) none, EOper.mk (some 7) (EOp.call (Opd.f 31)
  [Opd.t 5, Opd.t 6, Opd.f 32]) none, EOper.mk (some 4) (EOp.mv (Opd.t 7)) none]
def m21_1 : List Bool := [false, false, false, false, true, true, true, true]
def b21_2 : EC := EC.ret
def m21_2 : List Bool := [false, false, false, false, false, false, false, false]
def r21_2 : EC := b21_2
def r21_1 : EC := EC.seq b21_1 r21_2
def r21_0 : EC := EC.seq b21_0 r21_1
def e21 : EFun := EFun.mk 8 [ERes.t 4] r21_0
theorem c21 : cFun Try.prog 0 (fun _ => false) Try.f21 = some e21 := by kernel_rfl
theorem x21 : Try.prog.funcs[21]? = some Try.f21 := by kernel_rfl
theorem n21 : (Try.f21.name == "runtime.NumGoroutine") = false := by kernel_rfl
/-! 22: reach.Apart -/
def l22_0p0 : EC := EC.ops false [EOper.mk (some 8) (EOp.bin .lss (Opd.t 7) (Opd.t 6)) none]
def l22_0m0 : List Bool := [false, false, false, false, false, false, false, false, true, false, false, false, false, false, false, false, false, false, false, false, false, false, false]
def l22_0p1 : EC := EC.cond (Opd.t 8) EC.skip (EC.exit 0)
def l22_0m1 : List Bool := [false, false, false, false, false, false, false, false, false, false, false, false, false, false, false, false, false, false, false, false, false, false, false]
def l22_0p2 : EC := EC.block 1 (EC.seq (EC.ops false [EOper.mk (some 9) (EOp.mv (Opd.t 7)) none, EOper.mk (some 10) (EOp.ixs 2 (Opd.t 5) (Opd.t 7)) none, EOper.mk (some
  11) (EOp.ld true 2 (Opd.t 10)) none, EOper.mk (some 4) (EOp.alloc false 24 [V.int .u32 (0), V.int .u32 (0)]) none, EOper.mk (some 3) (EOp.mv (Opd.t 9)) none, EOper.mk
  none (EOp.st 2 (Opd.t 4) (Opd.t 11)) none]) (EC.seq (EC.ops false [EOper.mk (some 12) (EOp.ld true 2 (Opd.t 4)) none, EOper.mk (some 13) (EOp.call (Opd.f 12) [Opd.t 12])
  none, EOper.mk (some 14) (EOp.un .not (Opd.t 13)) none, EOper.mk (some 15) (EOp.mv (Opd.t 14)) none, EOper.mk (some 16) (EOp.mv (Opd.t 0)) (some (15, false)), EOper.mk
  (some 17) (EOp.mv (Opd.t 3)) (some (15, false)), EOper.mk (some 18) (EOp.slc 2 (Opd.t 16) none (some (Opd.t 17))) (some (15, false)), EOper.mk (some 19) (EOp.mkfn 34 []
  [Opd.t 4]) (some (15, false)), EOper.mk (some 20) (EOp.call (Opd.f 33) [Opd.t 18, Opd.t 19]) (some (15, false)), EOper.mk (some 21) (EOp.pick (Opd.t 15) (Opd.c (V.bool
  true)) (Opd.t 20)) none]) (EC.cond (Opd.t 21) (EC.seq (EC.ops false [EOper.mk (some 2) (EOp.mv (Opd.c (V.bool false))) none]) EC.ret) EC.skip)))
def l22_0m2 : List Bool := [false, false, true, true, true, false, false, false, false, true, true, true, true, true, true, true, true, true, true, true, true, true, false]
def l22_0p3 : EC := EC.ops false [EOper.mk (some 22) (EOp.bin .add (Opd.t 7) (Opd.c (V.int .i64 (1)))) none, EOper.mk (some 7) (EOp.mv (Opd.t 22)) none]
def l22_0m3 : List Bool := [false, false, false, false, false, false, false, true, false, false, false, false, false, false, false, false, false, false, false, false, false, false, true]
def l22_0r3 : EC := l22_0p3
def l22_0r2 : EC := EC.seq l22_0p2 l22_0r3
def l22_0r1 : EC := EC.seq l22_0p1 l22_0r2
def l22_0r0 : EC := EC.seq l22_0p0 l22_0r1
def l22_0 : EC := l22_0r0
def b22_0 : EC := EC.ops false [EOper.mk (some 2) (EOp.mv (Opd.c (V.bool false))) none]
def m22_0 : List Bool := [false, false, true, false, false, false, false, false, false, false, false, false, false, false, false, false, false, false, false, false, false, false, false]
def b22_1 : EC := EC.seq (EC.ops false [EOper.mk (some 5) (EOp.mv (Opd.t 0)) none, EOper.mk (some 6) (EOp.len false (Opd.t 5)) none, EOper.mk (some 7) (EOp.mv (Opd.c
  (V.int .i64 (0)))) none]) (EC.block 0 (EC.loop l22_0))
def m22_1 : List Bool := [false, false, true, true, true, true, true, true, true, true, true, true, true, true, true, true, true, true, true, true, true, true, true]
def b22_2 : EC := EC.ops false [EOper.mk (some 2) (EOp.mv (Opd.c (V.bool true))) none]
def m22_2 : List Bool := [false, false, true, false, false, false, false, false, false, false, false, false, false, false, false, false, false, false, false, false, false, false, false]
def b22_3 : EC := EC.ret
def m22_3 : List Bool := [false, false, false, false, false, false, false, false, false, false, false, false, false, false, false, false, false, false, false, false, false, false, false]
def r22_3 : EC := b22_3
def r22_2 : EC := EC.seq b22_2 r22_3
def r22_1 : EC := EC.seq b22_1 r22_2
def r22_0 : EC := EC.seq b22_0 r22_1
def e22 : EFun := EFun.mk 23 [ERes.t 2] r22_0
theorem c22 : cFun Try.prog 0 (fun d => d == 4) Try.f22 = some e22 := by kernel_rfl
theorem x22 : Try.prog.funcs[22]? = some Try.f22 := by kernel_rfl
theorem n22 : (Try.f22.name == "runtime.NumGoroutine") = false := by kernel_rfl
/-! 23: septumref02.Apart -/
def l23_1p0 : EC := EC.seq (EC.ops false [EOper.mk (some 19) (EOp.mv (Opd.t 4)) none, EOper.mk (some 20) (EOp.mv (Opd.t 3)) none, EOper.mk (some 21) (EOp.bin .lss (Opd.t
  19) (Opd.t 20)) none]) (EC.cond (Opd.t 21) EC.skip (EC.exit 2))
def l23_1m0 : List Bool := [false, false, false, false, false, false, false, false, false, false, false, false, false, false, false, false, false, false, false, true, true, true, false, false, false, false, false, false, false, false, false, false, false, false, false, false, false]
def l23_1p1 : EC := EC.block 3 (EC.seq (EC.opsT [EOper.mk (some 25) (EOp.mv (Opd.t 0)) none, EOper.mk (some 26) (EOp.mv (Opd.t 3)) none, EOper.mk (some 27) (EOp.ixs 2
  (Opd.t 25) (Opd.t 26)) none, EOper.mk (some 28) (EOp.ld true 2 (Opd.t 27)) none, EOper.mk (some 29) (EOp.mv (Opd.t 0)) none, EOper.mk (some 30) (EOp.mv (Opd.t 4)) none,
  EOper.mk (some 31) (EOp.ixs 2 (Opd.t 29) (Opd.t 30)) none, EOper.mk (some 32) (EOp.ld true 2 (Opd.t 31)) none, EOper.mk (some 33) (EOp.call (Opd.f 28) [Opd.t 28, Opd.t
  32]) none, EOper.mk (some 24) (EOp.mv (Opd.t 33)) none, EOper.mk (some 34) (EOp.ext (Opd.t 24) 0) none, EOper.mk (some 35) (EOp.ext (Opd.t 24) 1) none] [EOper.mk (some
  5) (EOp.alloc true 24 [V.int .u32 (0), V.int .u32 (0)]) none, EOper.mk none (EOp.st 2 (Opd.t 5) (Opd.t 34)) none] [EOper.mk (some 6) (EOp.mv (Opd.t 35)) none]) (EC.seq
  (EC.ops false [EOper.mk (some 36) (EOp.mv (Opd.t 6)) none]) (EC.cond (Opd.t 36) (EC.seq (EC.ops false [EOper.mk (some 2) (EOp.mv (Opd.c (V.bool false))) none]) EC.ret)
  EC.skip)))
def l23_1m1 : List Bool := [false, false, true, false, false, true, true, false, false, false, false, false, false, false, false, false, false, false, false, false, false, false, false, false, true, true, true, true, true, true, true, true, true, true, true, true, true]
def l23_1p2 : EC := EC.ops false [EOper.mk (some 22) (EOp.mv (Opd.t 4)) none, EOper.mk (some 23) (EOp.bin .add (Opd.t 22) (Opd.c (V.int .i64 (1)))) none, EOper.mk (some 4)
  (EOp.mv (Opd.t 23)) none]
def l23_1m2 : List Bool := [false, false, false, false, true, false, false, false, false, false, false, false, false, false, false, false, false, false, false, false, false, false, true, true, false, false, false, false, false, false, false, false, false, false, false, false, false]
def l23_1r2 : EC := l23_1p2
def l23_1r1 : EC := EC.seq l23_1p1 l23_1r2
def l23_1r0 : EC := EC.seq l23_1p0 l23_1r1
def l23_1 : EC := l23_1r0
def l23_0p0 : EC := EC.seq (EC.ops false [EOper.mk (some 7) (EOp.mv (Opd.t 3)) none, EOper.mk (some 8) (EOp.mv (Opd.t 0)) none, EOper.mk (some 9) (EOp.len false (Opd.t 8))
  none, EOper.mk (some 10) (EOp.bin .lss (Opd.t 7) (Opd.t 9)) none]) (EC.cond (Opd.t 10) EC.skip (EC.exit 0))
def l23_0m0 : List Bool := [false, false, false, false, false, false, false, true, true, true, true, false, false, false, false, false, false, false, false, false, false, false, false, false, false, false, false, false, false, false, false, false, false, false, false, false, false]
def l23_0p1 : EC := EC.block 1 (EC.seq (EC.seq (EC.ops false [EOper.mk (some 13) (EOp.mv (Opd.t 0)) none, EOper.mk (some 14) (EOp.mv (Opd.t 3)) none, EOper.mk (some 15)
  (EOp.ixs 2 (Opd.t 13) (Opd.t 14)) none, EOper.mk (some 16) (EOp.ld true 2 (Opd.t 15)) none, EOper.mk (some 17) (EOp.call (Opd.f 13) [Opd.t 16]) none, EOper.mk (some 18)
  (EOp.un .not (Opd.t 17)) none]) (EC.cond (Opd.t 18) (EC.seq (EC.ops false [EOper.mk (some 2) (EOp.mv (Opd.c (V.bool false))) none]) EC.ret) EC.skip)) (EC.seq (EC.ops
  false [EOper.mk (some 4) (EOp.mv (Opd.c (V.int .i64 (0)))) none]) (EC.block 2 (EC.loop l23_1))))
def l23_0m1 : List Bool := [false, false, true, false, true, true, true, false, false, false, false, false, false, true, true, true, true, true, true, true, true, true, true, true, true, true, true, true, true, true, true, true, true, true, true, true, true]
def l23_0p2 : EC := EC.ops false [EOper.mk (some 11) (EOp.mv (Opd.t 3)) none, EOper.mk (some 12) (EOp.bin .add (Opd.t 11) (Opd.c (V.int .i64 (1)))) none, EOper.mk (some 3)
  (EOp.mv (Opd.t 12)) none]
def l23_0m2 : List Bool := [false, false, false, true, false, false, false, false, false, false, false, true, true, false, false, false, false, false, false, false, false, false, false, false, false, false, false, false, false, false, false, false, false, false, false, false, false]
def l23_0r2 : EC := l23_0p2
def l23_0r1 : EC := EC.seq l23_0p1 l23_0r2
def l23_0r0 : EC := EC.seq l23_0p0 l23_0r1
def l23_0 : EC := l23_0r0
def b23_0 : EC := EC.ops false [EOper.mk (some 2) (EOp.mv (Opd.c (V.bool false))) none]
def m23_0 : List Bool := [false, false, true, false, false, false, false, false, false, false, false, false, false, false, false, false, false, false, false, false, false, false, false, false, false, false, false, false, false, false, false, false, false, false, false, false, false]
def b23_1 : EC := EC.seq (EC.ops false [EOper.mk (some 3) (EOp.mv (Opd.c (V.int .i64 (0)))) none]) (EC.block 0 (EC.loop l23_0))
def m23_1 : List Bool := [false, false, true, true, true, true, true, true, true, true, true, true, true, true, true, true, true, true, true, true, true, true, true, true, true, true, true, true, true, true, true, true, true, true, true, true, true]
def b23_2 : EC := EC.ops false [EOper.mk (some 2) (EOp.mv (Opd.c (V.bool true))) none]
def m23_2 : List Bool := [false, false, true, false, false, false, false, false, false, false, false, false, false, false, false, false, false, false, false, false, false, false, false, false, false, false, false, false, false, false, false, false, false, false, false, false, false]
def b23_3 : EC := EC.ret
def m23_3 : List Bool := [false, false, false, false, false, false, false, false, false, false, false, false, false, false, false, false, false, false, false, false, false, false, false, false, false, false, false, false, false, false, false, false, false, false, false, false, false]
def r23_3 : EC := b23_3
def r23_2 : EC := EC.seq b23_2 r23_3
def r23_1 : EC := EC.seq b23_1 r23_2
def r23_0 : EC := EC.seq b23_0 r23_1
def e23 : EFun := EFun.mk 37 [ERes.t 2] r23_0
theorem c23 : cFun Try.prog 0 (fun _ => false) Try.f23 = some e23 := by kernel_rfl
theorem x23 : Try.prog.funcs[23]? = some Try.f23 := by kernel_rfl
theorem n23 : (Try.f23.name == "runtime.NumGoroutine") = false := by kernel_rfl
/-! 24: septumkit.SameReaches -/
def l24_0p0 : EC := EC.seq (EC.ops false [EOper.mk (some 11) (EOp.mv (Opd.t 5)) none, EOper.mk (some 12) (EOp.mv (Opd.t 0)) none, EOper.mk (some 13) (EOp.len false (Opd.t
  12)) none, EOper.mk (some 14) (EOp.bin .lss (Opd.t 11) (Opd.t 13)) none]) (EC.cond (Opd.t 14) EC.skip (EC.exit 0))
def l24_0m0 : List Bool := [false, false, false, false, false, false, false, false, false, false, false, true, true, true, true, false, false, false, false, false, false, false, false, false, false, false]
def l24_0p1 : EC := EC.block 1 (EC.seq (EC.ops true [EOper.mk (some 17) (EOp.mv (Opd.t 0)) none, EOper.mk (some 18) (EOp.mv (Opd.t 5)) none, EOper.mk (some 19) (EOp.ixs 2
  (Opd.t 17) (Opd.t 18)) none, EOper.mk (some 20) (EOp.ld true 2 (Opd.t 19)) none, EOper.mk (some 21) (EOp.mv (Opd.t 1)) none, EOper.mk (some 22) (EOp.mv (Opd.t 5)) none,
  EOper.mk (some 23) (EOp.ixs 2 (Opd.t 21) (Opd.t 22)) none, EOper.mk (some 24) (EOp.ld true 2 (Opd.t 23)) none, EOper.mk (some 25) (EOp.cmp true [true, true] (Opd.t 20)
  (Opd.t 24)) none]) (EC.cond (Opd.t 25) (EC.seq (EC.ops false [EOper.mk (some 4) (EOp.mv (Opd.c (V.bool false))) none]) EC.ret) EC.skip))
def l24_0m1 : List Bool := [false, false, false, false, true, false, false, false, false, false, false, false, false, false, false, false, false, true, true, true, true, true, true, true, true, true]
def l24_0p2 : EC := EC.ops false [EOper.mk (some 15) (EOp.mv (Opd.t 5)) none, EOper.mk (some 16) (EOp.bin .add (Opd.t 15) (Opd.c (V.int .i64 (1)))) none, EOper.mk (some 5)
  (EOp.mv (Opd.t 16)) none]
def l24_0m2 : List Bool := [false, false, false, false, false, true, false, false, false, false, false, false, false, false, false, true, true, false, false, false, false, false, false, false, false, false]
def l24_0r2 : EC := l24_0p2
def l24_0r1 : EC := EC.seq l24_0p1 l24_0r2
def l24_0r0 : EC := EC.seq l24_0p0 l24_0r1
def l24_0 : EC := l24_0r0
def b24_0 : EC := EC.ops false [EOper.mk (some 4) (EOp.mv (Opd.c (V.bool false))) none]
def m24_0 : List Bool := [false, false, false, false, true, false, false, false, false, false, false, false, false, false, false, false, false, false, false, false, false, false, false, false, false, false]
def b24_1 : EC := EC.seq (EC.ops false [EOper.mk (some 6) (EOp.mv (Opd.t 0)) none, EOper.mk (some 7) (EOp.len false (Opd.t 6)) none, EOper.mk (some 8) (EOp.mv (Opd.t 1))
  none, EOper.mk (some 9) (EOp.len false (Opd.t 8)) none, EOper.mk (some 10) (EOp.bin .neq (Opd.t 7) (Opd.t 9)) none]) (EC.cond (Opd.t 10) (EC.seq (EC.ops false [EOper.mk
  (some 4) (EOp.mv (Opd.c (V.bool false))) none]) EC.ret) EC.skip)
def m24_1 : List Bool := [false, false, false, false, true, false, true, true, true, true, true, false, false, false, false, false, false, false, false, false, false, false, false, false, false, false]
def b24_2 : EC := EC.seq (EC.ops false [EOper.mk (some 5) (EOp.mv (Opd.c (V.int .i64 (0)))) none]) (EC.block 0 (EC.loop l24_0))
def m24_2 : List Bool := [false, false, false, false, true, true, false, false, false, false, false, true, true, true, true, true, true, true, true, true, true, true, true, true, true, true]
def b24_3 : EC := EC.ops false [EOper.mk (some 4) (EOp.mv (Opd.c (V.bool true))) none]
def m24_3 : List Bool := [false, false, false, false, true, false, false, false, false, false, false, false, false, false, false, false, false, false, false, false, false, false, false, false, false, false]
def b24_4 : EC := EC.ret
def m24_4 : List Bool := [false, false, false, false, false, false, false, false, false, false, false, false, false, false, false, false, false, false, false, false, false, false, false, false, false, false]
def r24_4 : EC := b24_4
def r24_3 : EC := EC.seq b24_3 r24_4
def r24_2 : EC := EC.seq b24_2 r24_3
def r24_1 : EC := EC.seq b24_1 r24_2
def r24_0 : EC := EC.seq b24_0 r24_1
def e24 : EFun := EFun.mk 26 [ERes.t 4] r24_0
theorem c24 : cFun Try.prog 0 (fun _ => false) Try.f24 = some e24 := by kernel_rfl
theorem x24 : Try.prog.funcs[24]? = some Try.f24 := by kernel_rfl
theorem n24 : (Try.f24.name == "runtime.NumGoroutine") = false := by kernel_rfl
/-! 25: reach.Meet -/
def b25_0 : EC := EC.ops false [EOper.mk (some 2) (EOp.box true 24 (Opd.t 0)) none, EOper.mk (some 3) (EOp.box true 24 (Opd.t 1)) none, EOper.mk (some 4) (EOp.alloc true
  24 [V.int .u32 (0), V.int .u32 (0)]) none, EOper.mk (some 5) (EOp.mv (Opd.c (V.bool false))) none]
def m25_0 : List Bool := [false, false, true, true, true, true, false, false, false, false, false, false, false, false, false, false, false]
def b25_1 : EC := EC.seq (EC.ops false [EOper.mk (some 6) (EOp.ld true 2 (Opd.t 2)) none, EOper.mk (some 7) (EOp.ld true 2 (Opd.t 3)) none, EOper.mk (some 8) (EOp.call
  (Opd.f 31) [Opd.t 6, Opd.t 7, Opd.f 35]) none, EOper.mk (some 9) (EOp.un .not (Opd.t 8)) none]) (EC.cond (Opd.t 9) (EC.seq (EC.ops false [EOper.mk (some 10) (EOp.build
  [V.int .u32 (0), V.int .u32 (0)] []) none, EOper.mk none (EOp.st 2 (Opd.t 4) (Opd.t 10)) none, EOper.mk (some 5) (EOp.mv (Opd.c (V.bool false))) none]) EC.ret) EC.skip)
def m25_1 : List Bool := [false, false, false, false, false, true, true, true, true, true, true, false, false, false, false, false, false]
def b25_2 : EC := EC.ops false [EOper.mk (some 11) (EOp.ld true 2 (Opd.t 2)) none, EOper.mk (some 12) (EOp.build [V.int .u32 (0), V.int .u32 (0)] [(0, 2, Opd.t 11)]) none,
  EOper.mk (some 13) (EOp.ld true 2 (Opd.t 3)) none, EOper.mk (some 14) (EOp.build [V.int .u32 (0), V.int .u32 (0)] [(0, 2, Opd.t 13)]) none, EOper.mk (some 15) (EOp.call
  (Opd.f 36) [Opd.t 12, Opd.t 14]) none, EOper.mk (some 16) (EOp.fld true 2 0 (Opd.t 15)) none, EOper.mk none (EOp.st 2 (Opd.t 4) (Opd.t 16)) none, EOper.mk (some 5)
  (EOp.mv (Opd.c (V.bool true))) none]
def m25_2 : List Bool := [false, false, false, false, false, true, false, false, false, false, false, true, true, true, true, true, true]
def b25_3 : EC := EC.ret
def m25_3 : List Bool := [false, false, false, false, false, false, false, false, false, false, false, false, false, false, false, false, false]
def r25_3 : EC := b25_3
def r25_2 : EC := EC.seq b25_2 r25_3
def r25_1 : EC := EC.seq b25_1 r25_2
def r25_0 : EC := EC.seq b25_0 r25_1
def e25 : EFun := EFun.mk 17 [ERes.c 4 2, ERes.t 5] r25_0
theorem c25 : cFun Try.prog 0 (fun _ => false) Try.f25 = some e25 := by kernel_rfl
theorem x25 : Try.prog.funcs[25]? = some Try.f25 := by kernel_rfl
theorem n25 : (Try.f25.name == "runtime.NumGoroutine") = false := by kernel_rfl
/-! 26: reach.ends.right -/
def b26_0 : EC := EC.ops false [EOper.mk (some 1) (EOp.box true 44 (Opd.t 0)) none, EOper.mk (some 2) (EOp.mv (Opd.c (V.bool false))) none]
def m26_0 : List Bool := [false, true, true, false, false, false, false, false, false, false]
def b26_1 : EC := EC.ops false [EOper.mk (some 3) (EOp.fa 0 (Opd.t 1)) none, EOper.mk (some 4) (EOp.fa 0 (Opd.t 3)) none, EOper.mk (some 5) (EOp.ld false 1 (Opd.t 4))
  none, EOper.mk (some 6) (EOp.fa 0 (Opd.t 1)) none, EOper.mk (some 7) (EOp.fa 1 (Opd.t 6)) none, EOper.mk (some 8) (EOp.ld false 1 (Opd.t 7)) none, EOper.mk (some 9)
  (EOp.bin .leq (Opd.t 5) (Opd.t 8)) none, EOper.mk (some 2) (EOp.mv (Opd.t 9)) none]
def m26_1 : List Bool := [false, false, true, true, true, true, true, true, true, true]
def b26_2 : EC := EC.ret
def m26_2 : List Bool := [false, false, false, false, false, false, false, false, false, false]
def r26_2 : EC := b26_2
def r26_1 : EC := EC.seq b26_1 r26_2
def r26_0 : EC := EC.seq b26_0 r26_1
def e26 : EFun := EFun.mk 10 [ERes.t 2] r26_0
theorem c26 : cFun Try.prog 0 (fun _ => false) Try.f26 = some e26 := by kernel_rfl
theorem x26 : Try.prog.funcs[26]? = some Try.f26 := by kernel_rfl
theorem n26 : (Try.f26.name == "runtime.NumGoroutine") = false := by kernel_rfl
/-! 27: reach.ends.has -/
def b27_0 : EC := EC.ops false [EOper.mk (some 2) (EOp.box true 44 (Opd.t 0)) none, EOper.mk (some 4) (EOp.mv (Opd.c (V.bool false))) none]
def m27_0 : List Bool := [false, false, true, false, true, false, false, false, false, false, false, false, false, false, false, false, false, false, false, false, false]
def b27_1 : EC := EC.ops false [EOper.mk (some 5) (EOp.ld true 2 (Opd.t 2)) none, EOper.mk (some 6) (EOp.call (Opd.f 26) [Opd.t 5]) none, EOper.mk (some 7) (EOp.mv (Opd.t
  6)) none, EOper.mk (some 8) (EOp.fa 0 (Opd.t 2)) (some (7, true)), EOper.mk (some 9) (EOp.fa 0 (Opd.t 8)) (some (7, true)), EOper.mk (some 10) (EOp.ld false 1 (Opd.t 9))
  (some (7, true)), EOper.mk (some 11) (EOp.mv (Opd.t 1)) (some (7, true)), EOper.mk (some 12) (EOp.bin .leq (Opd.t 10) (Opd.t 11)) (some (7, true)), EOper.mk (some 13)
  (EOp.pick (Opd.t 7) (Opd.t 12) (Opd.c (V.bool false))) none, EOper.mk (some 14) (EOp.mv (Opd.t 13)) none, EOper.mk (some 15) (EOp.mv (Opd.t 1)) (some (14, true)),
  EOper.mk (some 16) (EOp.fa 0 (Opd.t 2)) (some (14, true)), EOper.mk (some 17) (EOp.fa 1 (Opd.t 16)) (some (14, true)), EOper.mk (some 18) (EOp.ld false 1 (Opd.t 17))
  (some (14, true)), EOper.mk (some 19) (EOp.bin .leq (Opd.t 15) (Opd.t 18)) (some (14, true)), EOper.mk (some 20) (EOp.pick (Opd.t 14) (Opd.t 19) (Opd.c (V.bool false)))
  none, EOper.mk (some 4) (EOp.mv (Opd.t 20)) none]
def m27_1 : List Bool := [false, false, false, false, true, true, true, true, true, true, true, true, true, true, true, true, true, true, true, true, true]
def b27_2 : EC := EC.ret
def m27_2 : List Bool := [false, false, false, false, false, false, false, false, false, false, false, false, false, false, false, false, false, false, false, false, false]
def r27_2 : EC := b27_2
def r27_1 : EC := EC.seq b27_1 r27_2
def r27_0 : EC := EC.seq b27_0 r27_1
def e27 : EFun := EFun.mk 21 [ERes.t 4] r27_0
theorem c27 : cFun Try.prog 0 (fun _ => false) Try.f27 = some e27 := by kernel_rfl
theorem x27 : Try.prog.funcs[27]? = some Try.f27 := by kernel_rfl
theorem n27 : (Try.f27.name == "runtime.NumGoroutine") = false := by kernel_rfl
/-! 28: septumref02.Meet -/
def b28_0 : EC := EC.ops false [EOper.mk (some 2) (EOp.box true 24 (Opd.t 0)) none, EOper.mk (some 3) (EOp.box true 24 (Opd.t 1)) none, EOper.mk (some 4) (EOp.alloc true
  24 [V.int .u32 (0), V.int .u32 (0)]) none, EOper.mk (some 5) (EOp.mv (Opd.c (V.bool false))) none]
def m28_0 : List Bool := [false, false, true, true, true, true, false, false, false, false, false, false, false, false, false, false, false, false, false, false, false, false, false, false, false, false, false, false, false, false, false, false, false]
def b28_1 : EC := EC.ops false [EOper.mk (some 7) (EOp.fa 0 (Opd.t 2)) none, EOper.mk (some 8) (EOp.ld false 1 (Opd.t 7)) none, EOper.mk (some 9) (EOp.fa 0 (Opd.t 3))
  none, EOper.mk (some 10) (EOp.ld false 1 (Opd.t 9)) none, EOper.mk (some 11) (EOp.mm true (Opd.t 8) (Opd.t 10)) none, EOper.mk (some 12) (EOp.fa 1 (Opd.t 2)) none,
  EOper.mk (some 13) (EOp.ld false 1 (Opd.t 12)) none, EOper.mk (some 14) (EOp.fa 1 (Opd.t 3)) none, EOper.mk (some 15) (EOp.ld false 1 (Opd.t 14)) none, EOper.mk (some
  16) (EOp.mm false (Opd.t 13) (Opd.t 15)) none, EOper.mk (some 17) (EOp.build [V.int .u32 (0), V.int .u32 (0)] [(0, 1, Opd.t 11), (1, 1, Opd.t 16)]) none, EOper.mk (some
  6) (EOp.alloc true 24 [V.int .u32 (0), V.int .u32 (0)]) none, EOper.mk none (EOp.st 2 (Opd.t 6) (Opd.t 17)) none]
def m28_1 : List Bool := [false, false, false, false, false, false, true, true, true, true, true, true, true, true, true, true, true, true, false, false, false, false, false, false, false, false, false, false, false, false, false, false, false]
def b28_2 : EC := EC.seq (EC.ops false [EOper.mk (some 18) (EOp.ld true 2 (Opd.t 2)) none, EOper.mk (some 19) (EOp.call (Opd.f 13) [Opd.t 18]) none, EOper.mk (some 20)
  (EOp.un .not (Opd.t 19)) none, EOper.mk (some 21) (EOp.mv (Opd.t 20)) none, EOper.mk (some 22) (EOp.ld true 2 (Opd.t 3)) (some (21, false)), EOper.mk (some 23) (EOp.call
  (Opd.f 13) [Opd.t 22]) (some (21, false)), EOper.mk (some 24) (EOp.un .not (Opd.t 23)) (some (21, false)), EOper.mk (some 25) (EOp.pick (Opd.t 21) (Opd.c (V.bool true))
  (Opd.t 24)) none, EOper.mk (some 26) (EOp.mv (Opd.t 25)) none, EOper.mk (some 27) (EOp.ld true 2 (Opd.t 6)) (some (26, false)), EOper.mk (some 28) (EOp.call (Opd.f 13)
  [Opd.t 27]) (some (26, false)), EOper.mk (some 29) (EOp.un .not (Opd.t 28)) (some (26, false)), EOper.mk (some 30) (EOp.pick (Opd.t 26) (Opd.c (V.bool true)) (Opd.t 29))
  none]) (EC.cond (Opd.t 30) (EC.seq (EC.ops false [EOper.mk (some 31) (EOp.build [V.int .u32 (0), V.int .u32 (0)] []) none, EOper.mk none (EOp.st 2 (Opd.t 4) (Opd.t 31))
  none, EOper.mk (some 5) (EOp.mv (Opd.c (V.bool false))) none]) EC.ret) EC.skip)
def m28_2 : List Bool := [false, false, false, false, false, true, false, false, false, false, false, false, false, false, false, false, false, false, true, true, true, true, true, true, true, true, true, true, true, true, true, true, false]
def b28_3 : EC := EC.ops false [EOper.mk (some 32) (EOp.ld true 2 (Opd.t 6)) none, EOper.mk none (EOp.st 2 (Opd.t 4) (Opd.t 32)) none, EOper.mk (some 5) (EOp.mv (Opd.c
  (V.bool true))) none]
def m28_3 : List Bool := [false, false, false, false, false, true, false, false, false, false, false, false, false, false, false, false, false, false, false, false, false, false, false, false, false, false, false, false, false, false, false, false, true]
def b28_4 : EC := EC.ret
def m28_4 : List Bool := [false, false, false, false, false, false, false, false, false, false, false, false, false, false, false, false, false, false, false, false, false, false, false, false, false, false, false, false, false, false, false, false, false]
def r28_4 : EC := b28_4
def r28_3 : EC := EC.seq b28_3 r28_4
def r28_2 : EC := EC.seq b28_2 r28_3
def r28_1 : EC := EC.seq b28_1 r28_2
def r28_0 : EC := EC.seq b28_0 r28_1
def e28 : EFun := EFun.mk 33 [ERes.c 4 2, ERes.t 5] r28_0
theorem c28 : cFun Try.prog 0 (fun _ => false) Try.f28 = some e28 := by kernel_rfl
theorem x28 : Try.prog.funcs[28]? = some Try.f28 := by kernel_rfl
theorem n28 : (Try.f28.name == "runtime.NumGoroutine") = false := by kernel_rfl
/-! 29: septumref02.In -/
def b29_0 : EC := EC.ops false [EOper.mk (some 2) (EOp.box true 24 (Opd.t 0)) none, EOper.mk (some 3) (EOp.box true 24 (Opd.t 1)) none, EOper.mk (some 4) (EOp.mv (Opd.c
  (V.bool false))) none]
def m29_0 : List Bool := [false, false, true, true, true, false, false, false, false, false, false, false, false, false, false, false, false, false, false, false, false, false, false]
def b29_1 : EC := EC.ops false [EOper.mk (some 5) (EOp.ld true 2 (Opd.t 2)) none, EOper.mk (some 6) (EOp.call (Opd.f 13) [Opd.t 5]) none, EOper.mk (some 7) (EOp.mv (Opd.t
  6)) none, EOper.mk (some 8) (EOp.ld true 2 (Opd.t 3)) (some (7, true)), EOper.mk (some 9) (EOp.call (Opd.f 13) [Opd.t 8]) (some (7, true)), EOper.mk (some 10) (EOp.pick
  (Opd.t 7) (Opd.t 9) (Opd.c (V.bool false))) none, EOper.mk (some 11) (EOp.mv (Opd.t 10)) none, EOper.mk (some 12) (EOp.ld true 2 (Opd.t 3)) (some (11, true)), EOper.mk
  (some 13) (EOp.fa 0 (Opd.t 2)) (some (11, true)), EOper.mk (some 14) (EOp.ld false 1 (Opd.t 13)) (some (11, true)), EOper.mk (some 15) (EOp.call (Opd.f 17) [Opd.t 12,
  Opd.t 14]) (some (11, true)), EOper.mk (some 16) (EOp.pick (Opd.t 11) (Opd.t 15) (Opd.c (V.bool false))) none, EOper.mk (some 17) (EOp.mv (Opd.t 16)) none, EOper.mk
  (some 18) (EOp.ld true 2 (Opd.t 3)) (some (17, true)), EOper.mk (some 19) (EOp.fa 1 (Opd.t 2)) (some (17, true)), EOper.mk (some 20) (EOp.ld false 1 (Opd.t 19)) (some
  (17, true)), EOper.mk (some 21) (EOp.call (Opd.f 17) [Opd.t 18, Opd.t 20]) (some (17, true)), EOper.mk (some 22) (EOp.pick (Opd.t 17) (Opd.t 21) (Opd.c (V.bool false)))
  none, EOper.mk (some 4) (EOp.mv (Opd.t 22)) none]
def m29_1 : List Bool := [false, false, false, false, true, true, true, true, true, true, true, true, true, true, true, true, true, true, true, true, true, true, true]
def b29_2 : EC := EC.ret
def m29_2 : List Bool := [false, false, false, false, false, false, false, false, false, false, false, false, false, false, false, false, false, false, false, false, false, false, false]
def r29_2 : EC := b29_2
def r29_1 : EC := EC.seq b29_1 r29_2
def r29_0 : EC := EC.seq b29_0 r29_1
def e29 : EFun := EFun.mk 23 [ERes.t 4] r29_0
theorem c29 : cFun Try.prog 0 (fun _ => false) Try.f29 = some e29 := by kernel_rfl
theorem x29 : Try.prog.funcs[29]? = some Try.f29 := by kernel_rfl
theorem n29 : (Try.f29.name == "runtime.NumGoroutine") = false := by kernel_rfl
/-! 30: septumref02.Less -/
def b30_0 : EC := EC.ops false [EOper.mk (some 2) (EOp.box true 24 (Opd.t 0)) none, EOper.mk (some 3) (EOp.box true 24 (Opd.t 1)) none, EOper.mk (some 4) (EOp.mv (Opd.c
  (V.bool false))) none]
def m30_0 : List Bool := [false, false, true, true, true, false, false, false, false, false, false, false, false, false, false, false, false, false, false, false]
def b30_1 : EC := EC.seq (EC.ops false [EOper.mk (some 5) (EOp.fa 0 (Opd.t 2)) none, EOper.mk (some 6) (EOp.ld false 1 (Opd.t 5)) none, EOper.mk (some 7) (EOp.fa 0 (Opd.t
  3)) none, EOper.mk (some 8) (EOp.ld false 1 (Opd.t 7)) none, EOper.mk (some 9) (EOp.bin .neq (Opd.t 6) (Opd.t 8)) none]) (EC.cond (Opd.t 9) (EC.seq (EC.ops false
  [EOper.mk (some 10) (EOp.fa 0 (Opd.t 2)) none, EOper.mk (some 11) (EOp.ld false 1 (Opd.t 10)) none, EOper.mk (some 12) (EOp.fa 0 (Opd.t 3)) none, EOper.mk (some 13)
  (EOp.ld false 1 (Opd.t 12)) none, EOper.mk (some 14) (EOp.bin .lss (Opd.t 11) (Opd.t 13)) none, EOper.mk (some 4) (EOp.mv (Opd.t 14)) none]) EC.ret) EC.skip)
def m30_1 : List Bool := [false, false, false, false, true, true, true, true, true, true, true, true, true, true, true, false, false, false, false, false]
def b30_2 : EC := EC.ops false [EOper.mk (some 15) (EOp.fa 1 (Opd.t 2)) none, EOper.mk (some 16) (EOp.ld false 1 (Opd.t 15)) none, EOper.mk (some 17) (EOp.fa 1 (Opd.t 3))
  none, EOper.mk (some 18) (EOp.ld false 1 (Opd.t 17)) none, EOper.mk (some 19) (EOp.bin .lss (Opd.t 16) (Opd.t 18)) none, EOper.mk (some 4) (EOp.mv (Opd.t 19)) none]
def m30_2 : List Bool := [false, false, false, false, true, false, false, false, false, false, false, false, false, false, false, true, true, true, true, true]
def b30_3 : EC := EC.ret
def m30_3 : List Bool := [false, false, false, false, false, false, false, false, false, false, false, false, false, false, false, false, false, false, false, false]
def r30_3 : EC := b30_3
def r30_2 : EC := EC.seq b30_2 r30_3
def r30_1 : EC := EC.seq b30_1 r30_2
def r30_0 : EC := EC.seq b30_0 r30_1
def e30 : EFun := EFun.mk 20 [ERes.t 4] r30_0
theorem c30 : cFun Try.prog 0 (fun _ => false) Try.f30 = some e30 := by kernel_rfl
theorem x30 : Try.prog.funcs[30]? = some Try.f30 := by kernel_rfl
theorem n30 : (Try.f30.name == "runtime.NumGoroutine") = false := by kernel_rfl
/-! 31: reach.two -/
def b31_0 : EC := EC.ops false [EOper.mk (some 3) (EOp.box true 24 (Opd.t 0)) none, EOper.mk (some 4) (EOp.box true 24 (Opd.t 1)) none, EOper.mk (some 6) (EOp.mv (Opd.c
  (V.bool false))) none]
def m31_0 : List Bool := [false, false, false, true, true, false, true, false, false, false, false, false, false]
def b31_1 : EC := EC.ops false [EOper.mk (some 7) (EOp.mv (Opd.t 2)) none, EOper.mk (some 8) (EOp.ld true 2 (Opd.t 3)) none, EOper.mk (some 9) (EOp.build [V.int .u32 (0),
  V.int .u32 (0)] [(0, 2, Opd.t 8)]) none, EOper.mk (some 10) (EOp.ld true 2 (Opd.t 4)) none, EOper.mk (some 11) (EOp.build [V.int .u32 (0), V.int .u32 (0)] [(0, 2, Opd.t
  10)]) none, EOper.mk (some 12) (EOp.call (Opd.t 7) [Opd.t 9, Opd.t 11]) none, EOper.mk (some 6) (EOp.mv (Opd.t 12)) none]
def m31_1 : List Bool := [false, false, false, false, false, false, true, true, true, true, true, true, true]
def b31_2 : EC := EC.ret
def m31_2 : List Bool := [false, false, false, false, false, false, false, false, false, false, false, false, false]
def r31_2 : EC := b31_2
def r31_1 : EC := EC.seq b31_1 r31_2
def r31_0 : EC := EC.seq b31_0 r31_1
def e31 : EFun := EFun.mk 13 [ERes.t 6] r31_0
theorem c31 : cFun Try.prog 0 (fun _ => false) Try.f31 = some e31 := by kernel_rfl
theorem x31 : Try.prog.funcs[31]? = some Try.f31 := by kernel_rfl
theorem n31 : (Try.f31.name == "runtime.NumGoroutine") = false := by kernel_rfl
/-! 32: reach.ends.in -/
def b32_0 : EC := EC.ops false [EOper.mk (some 2) (EOp.box true 44 (Opd.t 0)) none, EOper.mk (some 3) (EOp.box true 44 (Opd.t 1)) none, EOper.mk (some 4) (EOp.mv (Opd.c
  (V.bool false))) none]
def m32_0 : List Bool := [false, false, true, true, true, false, false, false, false, false, false, false, false, false, false, false, false, false, false, false, false]
def b32_1 : EC := EC.ops false [EOper.mk (some 5) (EOp.ld true 2 (Opd.t 2)) none, EOper.mk (some 6) (EOp.call (Opd.f 26) [Opd.t 5]) none, EOper.mk (some 7) (EOp.mv (Opd.t
  6)) none, EOper.mk (some 8) (EOp.ld true 2 (Opd.t 3)) (some (7, true)), EOper.mk (some 9) (EOp.fa 0 (Opd.t 2)) (some (7, true)), EOper.mk (some 10) (EOp.fa 0 (Opd.t 9))
  (some (7, true)), EOper.mk (some 11) (EOp.ld false 1 (Opd.t 10)) (some (7, true)), EOper.mk (some 12) (EOp.call (Opd.f 27) [Opd.t 8, Opd.t 11]) (some (7, true)),
  EOper.mk (some 13) (EOp.pick (Opd.t 7) (Opd.t 12) (Opd.c (V.bool false))) none, EOper.mk (some 14) (EOp.mv (Opd.t 13)) none, EOper.mk (some 15) (EOp.ld true 2 (Opd.t 3))
  (some (14, true)), EOper.mk (some 16) (EOp.fa 0 (Opd.t 2)) (some (14, true)), EOper.mk (some 17) (EOp.fa 1 (Opd.t 16)) (some (14, true)), EOper.mk (some 18) (EOp.ld
  false 1 (Opd.t 17)) (some (14, true)), EOper.mk (some 19) (EOp.call (Opd.f 27) [Opd.t 15, Opd.t 18]) (some (14, true)), EOper.mk (some 20) (EOp.pick (Opd.t 14) (Opd.t
  19) (Opd.c (V.bool false))) none, EOper.mk (some 4) (EOp.mv (Opd.t 20)) none]
def m32_1 : List Bool := [false, false, false, false, true, true, true, true, true, true, true, true, true, true, true, true, true, true, true, true, true]
def b32_2 : EC := EC.ret
def m32_2 : List Bool := [false, false, false, false, false, false, false, false, false, false, false, false, false, false, false, false, false, false, false, false, false]
def r32_2 : EC := b32_2
def r32_1 : EC := EC.seq b32_1 r32_2
def r32_0 : EC := EC.seq b32_0 r32_1
def e32 : EFun := EFun.mk 21 [ERes.t 4] r32_0
theorem c32 : cFun Try.prog 0 (fun _ => false) Try.f32 = some e32 := by kernel_rfl
theorem x32 : Try.prog.funcs[32]? = some Try.f32 := by kernel_rfl
theorem n32 : (Try.f32.name == "runtime.NumGoroutine") = false := by kernel_rfl
/-! 33: slices.ContainsFunc:api.Reach -/
def b33_0 : EC := EC.ops false [EOper.mk (some 4) (EOp.mv (Opd.c (V.bool false))) none]
def m33_0 : List Bool := [false, false, false, false, true, false, false, false, false]
def b33_1 : EC := EC.ops false [EOper.mk (some 5) (EOp.mv (Opd.t 0)) none, EOper.mk (some 6) (EOp.mv (Opd.t 1)) none, EOper.mk (some 7) (EOp.call (Opd.f 37) [Opd.t 5,
  Opd.t 6]) none, EOper.mk (some 8) (EOp.bin .geq (Opd.t 7) (Opd.c (V.int .i64 (0)))) none, EOper.mk (some 4) (EOp.mv (Opd.t 8)) none]
def m33_1 : List Bool := [false, false, false, false, true, true, true, true, true]
def b33_2 : EC := EC.ret
def m33_2 : List Bool := [false, false, false, false, false, false, false, false, false]
def r33_2 : EC := b33_2
def r33_1 : EC := EC.seq b33_1 r33_2
def r33_0 : EC := EC.seq b33_0 r33_1
def e33 : EFun := EFun.mk 9 [ERes.t 4] r33_0
theorem c33 : cFun Try.prog 0 (fun _ => false) Try.f33 = some e33 := by kernel_rfl
theorem x33 : Try.prog.funcs[33]? = some Try.f33 := by kernel_rfl
theorem n33 : (Try.f33.name == "runtime.NumGoroutine") = false := by kernel_rfl
/-! 34: reach.Apart$1 -/
def b34_0 : EC := EC.ops false [EOper.mk (some 2) (EOp.box true 24 (Opd.t 0)) none, EOper.mk (some 3) (EOp.mv (Opd.c (V.bool false))) none]
def m34_0 : List Bool := [false, false, true, true, false, false, false]
def b34_1 : EC := EC.ops false [EOper.mk (some 4) (EOp.ld true 2 (Opd.t 2)) none, EOper.mk (some 5) (EOp.ld true 2 (Opd.t 1)) none, EOper.mk (some 6) (EOp.call (Opd.f 31)
  [Opd.t 4, Opd.t 5, Opd.f 35]) none, EOper.mk (some 3) (EOp.mv (Opd.t 6)) none]
def m34_1 : List Bool := [false, false, false, true, true, true, true]
def b34_2 : EC := EC.ret
def m34_2 : List Bool := [false, false, false, false, false, false, false]
def r34_2 : EC := b34_2
def r34_1 : EC := EC.seq b34_1 r34_2
def r34_0 : EC := EC.seq b34_0 r34_1
def e34 : EFun := EFun.mk 7 [ERes.t 3] r34_0
theorem c34 : cFun Try.prog 0 (fun _ => false) Try.f34 = some e34 := by kernel_rfl
theorem x34 : Try.prog.funcs[34]? = some Try.f34 := by kernel_rfl
theorem n34 : (Try.f34.name == "runtime.NumGoroutine") = false := by kernel_rfl
/-! 35: reach.ends.meets -/
def b35_0 : EC := EC.ops false [EOper.mk (some 2) (EOp.box true 44 (Opd.t 0)) none, EOper.mk (some 3) (EOp.box true 44 (Opd.t 1)) none, EOper.mk (some 4) (EOp.mv (Opd.c
  (V.bool false))) none]
def m35_0 : List Bool := [false, false, true, true, true, false, false, false, false, false, false, false, false, false, false, false, false]
def b35_1 : EC := EC.ops false [EOper.mk (some 5) (EOp.ld true 2 (Opd.t 2)) none, EOper.mk (some 6) (EOp.call (Opd.f 26) [Opd.t 5]) none, EOper.mk (some 7) (EOp.mv (Opd.t
  6)) none, EOper.mk (some 8) (EOp.ld true 2 (Opd.t 3)) (some (7, true)), EOper.mk (some 9) (EOp.call (Opd.f 26) [Opd.t 8]) (some (7, true)), EOper.mk (some 10) (EOp.pick
  (Opd.t 7) (Opd.t 9) (Opd.c (V.bool false))) none, EOper.mk (some 11) (EOp.mv (Opd.t 10)) none, EOper.mk (some 12) (EOp.ld true 2 (Opd.t 2)) (some (11, true)), EOper.mk
  (some 13) (EOp.ld true 2 (Opd.t 3)) (some (11, true)), EOper.mk (some 14) (EOp.call (Opd.f 36) [Opd.t 12, Opd.t 13]) (some (11, true)), EOper.mk (some 15) (EOp.call
  (Opd.f 26) [Opd.t 14]) (some (11, true)), EOper.mk (some 16) (EOp.pick (Opd.t 11) (Opd.t 15) (Opd.c (V.bool false))) none, EOper.mk (some 4) (EOp.mv (Opd.t 16)) none]
def m35_1 : List Bool := [false, false, false, false, true, true, true, true, true, true, true, true, true, true, true, true, true]
def b35_2 : EC := EC.ret
def m35_2 : List Bool := [false, false, false, false, false, false, false, false, false, false, false, false, false, false, false, false, false]
def r35_2 : EC := b35_2
def r35_1 : EC := EC.seq b35_1 r35_2
def r35_0 : EC := EC.seq b35_0 r35_1
def e35 : EFun := EFun.mk 17 [ERes.t 4] r35_0
theorem c35 : cFun Try.prog 0 (fun _ => false) Try.f35 = some e35 := by kernel_rfl
theorem x35 : Try.prog.funcs[35]? = some Try.f35 := by kernel_rfl
theorem n35 : (Try.f35.name == "runtime.NumGoroutine") = false := by kernel_rfl
/-! 36: reach.ends.both -/
def b36_0 : EC := EC.ops false [EOper.mk (some 2) (EOp.box true 44 (Opd.t 0)) none, EOper.mk (some 3) (EOp.box true 44 (Opd.t 1)) none, EOper.mk (some 4) (EOp.alloc true
  44 [V.int .u32 (0), V.int .u32 (0)]) none]
def m36_0 : List Bool := [false, false, true, true, true, false, false, false, false, false, false, false, false, false, false, false, false, false, false, false, false]
def b36_1 : EC := EC.ops false [EOper.mk (some 5) (EOp.fa 0 (Opd.t 2)) none, EOper.mk (some 6) (EOp.fa 0 (Opd.t 5)) none, EOper.mk (some 7) (EOp.ld false 1 (Opd.t 6))
  none, EOper.mk (some 8) (EOp.fa 0 (Opd.t 3)) none, EOper.mk (some 9) (EOp.fa 0 (Opd.t 8)) none, EOper.mk (some 10) (EOp.ld false 1 (Opd.t 9)) none, EOper.mk (some 11)
  (EOp.mm true (Opd.t 7) (Opd.t 10)) none, EOper.mk (some 12) (EOp.fa 0 (Opd.t 2)) none, EOper.mk (some 13) (EOp.fa 1 (Opd.t 12)) none, EOper.mk (some 14) (EOp.ld false 1
  (Opd.t 13)) none, EOper.mk (some 15) (EOp.fa 0 (Opd.t 3)) none, EOper.mk (some 16) (EOp.fa 1 (Opd.t 15)) none, EOper.mk (some 17) (EOp.ld false 1 (Opd.t 16)) none,
  EOper.mk (some 18) (EOp.mm false (Opd.t 14) (Opd.t 17)) none, EOper.mk (some 19) (EOp.build [V.int .u32 (0), V.int .u32 (0)] [(0, 1, Opd.t 11), (1, 1, Opd.t 18)]) none,
  EOper.mk (some 20) (EOp.build [V.int .u32 (0), V.int .u32 (0)] [(0, 2, Opd.t 19)]) none, EOper.mk none (EOp.st 2 (Opd.t 4) (Opd.t 20)) none]
def m36_1 : List Bool := [false, false, false, false, false, true, true, true, true, true, true, true, true, true, true, true, true, true, true, true, true]
def b36_2 : EC := EC.ret
def m36_2 : List Bool := [false, false, false, false, false, false, false, false, false, false, false, false, false, false, false, false, false, false, false, false, false]
def r36_2 : EC := b36_2
def r36_1 : EC := EC.seq b36_1 r36_2
def r36_0 : EC := EC.seq b36_0 r36_1
def e36 : EFun := EFun.mk 21 [ERes.c 4 2] r36_0
theorem c36 : cFun Try.prog 0 (fun _ => false) Try.f36 = some e36 := by kernel_rfl
theorem x36 : Try.prog.funcs[36]? = some Try.f36 := by kernel_rfl
theorem n36 : (Try.f36.name == "runtime.NumGoroutine") = false := by kernel_rfl
/-! 37: slices.IndexFunc:api.Reach -/
def l37_0p0 : EC := EC.ops false [EOper.mk (some 9) (EOp.bin .lss (Opd.t 8) (Opd.t 7)) none]
def l37_0m0 : List Bool := [false, false, false, false, false, false, false, false, false, true, false, false, false, false, false, false, false, false, false]
def l37_0p1 : EC := EC.cond (Opd.t 9) EC.skip (EC.exit 0)
def l37_0m1 : List Bool := [false, false, false, false, false, false, false, false, false, false, false, false, false, false, false, false, false, false, false]
def l37_0p2 : EC := EC.block 1 (EC.seq (EC.ops false [EOper.mk (some 10) (EOp.mv (Opd.t 8)) none, EOper.mk (some 5) (EOp.mv (Opd.t 10)) none]) (EC.seq (EC.ops false
  [EOper.mk (some 11) (EOp.mv (Opd.t 1)) none, EOper.mk (some 12) (EOp.mv (Opd.t 0)) none, EOper.mk (some 13) (EOp.mv (Opd.t 5)) none, EOper.mk (some 14) (EOp.ixs 2 (Opd.t
  12) (Opd.t 13)) none, EOper.mk (some 15) (EOp.ld true 2 (Opd.t 14)) none, EOper.mk (some 16) (EOp.call (Opd.t 11) [Opd.t 15]) none]) (EC.cond (Opd.t 16) (EC.seq (EC.ops
  false [EOper.mk (some 17) (EOp.mv (Opd.t 5)) none, EOper.mk (some 4) (EOp.mv (Opd.t 17)) none]) EC.ret) EC.skip)))
def l37_0m2 : List Bool := [false, false, false, false, true, true, false, false, false, false, true, true, true, true, true, true, true, true, false]
def l37_0p3 : EC := EC.ops false [EOper.mk (some 18) (EOp.bin .add (Opd.t 8) (Opd.c (V.int .i64 (1)))) none, EOper.mk (some 8) (EOp.mv (Opd.t 18)) none]
def l37_0m3 : List Bool := [false, false, false, false, false, false, false, false, true, false, false, false, false, false, false, false, false, false, true]
def l37_0r3 : EC := l37_0p3
def l37_0r2 : EC := EC.seq l37_0p2 l37_0r3
def l37_0r1 : EC := EC.seq l37_0p1 l37_0r2
def l37_0r0 : EC := EC.seq l37_0p0 l37_0r1
def l37_0 : EC := l37_0r0
def b37_0 : EC := EC.ops false [EOper.mk (some 4) (EOp.mv (Opd.c (V.int .i64 (0)))) none]
def m37_0 : List Bool := [false, false, false, false, true, false, false, false, false, false, false, false, false, false, false, false, false, false, false]
def b37_1 : EC := EC.seq (EC.ops false [EOper.mk (some 6) (EOp.mv (Opd.t 0)) none, EOper.mk (some 7) (EOp.len false (Opd.t 6)) none, EOper.mk (some 8) (EOp.mv (Opd.c
  (V.int .i64 (0)))) none]) (EC.block 0 (EC.loop l37_0))
def m37_1 : List Bool := [false, false, false, false, true, true, true, true, true, true, true, true, true, true, true, true, true, true, true]
def b37_2 : EC := EC.ops false [EOper.mk (some 4) (EOp.mv (Opd.c (V.int .i64 (-1)))) none]
def m37_2 : List Bool := [false, false, false, false, true, false, false, false, false, false, false, false, false, false, false, false, false, false, false]
def b37_3 : EC := EC.ret
def m37_3 : List Bool := [false, false, false, false, false, false, false, false, false, false, false, false, false, false, false, false, false, false, false]
def r37_3 : EC := b37_3
def r37_2 : EC := EC.seq b37_2 r37_3
def r37_1 : EC := EC.seq b37_1 r37_2
def r37_0 : EC := EC.seq b37_0 r37_1
def e37 : EFun := EFun.mk 19 [ERes.t 4] r37_0
theorem c37 : cFun Try.prog 0 (fun _ => false) Try.f37 = some e37 := by kernel_rfl
theorem x37 : Try.prog.funcs[37]? = some Try.f37 := by kernel_rfl
theorem n37 : (Try.f37.name == "runtime.NumGoroutine") = false := by kernel_rfl
end Go.Ev
