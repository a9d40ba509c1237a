/- dev: forms (printed by forms.py) -/
import Derived.Test.YtmdkhaoppklokaaDoorChecked
import Derived.Test.YtmdkhaoppklokaaDoorEvU
set_option linter.all false
namespace Go.Ev
open Go Go.Proofs
set_option maxRecDepth 1000000
/-! 3: septumlaw01.WordReads -/
def b3_0 : EC := EC.ops false [EOper.mk (some 4) (EOp.mv (Opd.c (V.bool false))) none]
def b3_1 : EC := EC.seq (EC.ops false [EOper.mk (some 5) (EOp.mv (Opd.t 0)) none, EOper.mk (some 6) (EOp.len true (Opd.t 5)) none, EOper.mk (some 7) (EOp.bin .gtr (Opd.t
  6) (Opd.c (V.int .i64 (1000)))) none]) (EC.cond (Opd.t 7) (EC.seq (EC.ops false [EOper.mk (some 8) (EOp.call (Opd.f 9) []) none, EOper.mk (some 4) (EOp.mv (Opd.t 8))
  none]) EC.ret) EC.skip)
def b3_2 : EC := EC.ops false [EOper.mk (some 9) (EOp.mv (Opd.t 0)) none, EOper.mk (some 10) (EOp.call (Opd.f 10) [Opd.t 9]) none, EOper.mk (some 11) (EOp.mv (Opd.t 10))
  none, EOper.mk (some 12) (EOp.mv (Opd.t 1)) (some (11, true)), EOper.mk (some 13) (EOp.call (Opd.f 11) [Opd.t 12]) (some (11, true)), EOper.mk (some 14) (EOp.mv (Opd.t
  1)) (some (11, true)), EOper.mk (some 15) (EOp.call (Opd.f 12) [Opd.t 14]) (some (11, true)), EOper.mk (some 16) (EOp.bin .eql (Opd.t 13) (Opd.t 15)) (some (11, true)),
  EOper.mk (some 17) (EOp.pick (Opd.t 11) (Opd.t 16) (Opd.c (V.bool false))) none, EOper.mk (some 18) (EOp.mv (Opd.t 17)) none, EOper.mk (some 19) (EOp.call (Opd.f 9) [])
  (some (18, true)), EOper.mk (some 20) (EOp.pick (Opd.t 18) (Opd.t 19) (Opd.c (V.bool false))) none, EOper.mk (some 4) (EOp.mv (Opd.t 20)) none]
def b3_3 : EC := EC.ret
def r3_3 : EC := b3_3
def r3_2 : EC := EC.seq b3_2 r3_3
def r3_1 : EC := EC.seq b3_1 r3_2
def r3_0 : EC := EC.seq b3_0 r3_1
def e3 : EFun := EFun.mk 21 [ERes.t 4] r3_0
theorem c3 : cFun Tryd.prog 2 (fun _ => false) Tryd.f3 = some e3 := by kernel_rfl
theorem x3 : Tryd.prog.funcs[3]? = some Tryd.f3 := by kernel_rfl
theorem n3 : (Tryd.f3.name == "runtime.NumGoroutine") = false := by kernel_rfl
/-! 4: septumlaw01.WordParts -/
def b4_0 : EC := EC.ops false [EOper.mk (some 6) (EOp.mv (Opd.c (V.bool false))) none]
def b4_1 : EC := EC.seq (EC.ops false [EOper.mk (some 8) (EOp.mv (Opd.t 2)) none, EOper.mk (some 9) (EOp.len false (Opd.t 8)) none, EOper.mk (some 10) (EOp.bin .gtr (Opd.t
  9) (Opd.c (V.int .i64 (1000)))) none]) (EC.cond (Opd.t 10) (EC.seq (EC.ops false [EOper.mk (some 11) (EOp.call (Opd.f 9) []) none, EOper.mk (some 6) (EOp.mv (Opd.t 11))
  none]) EC.ret) EC.skip)
def b4_2 : EC := EC.ops false [EOper.mk (some 12) (EOp.mv (Opd.t 2)) none, EOper.mk (some 13) (EOp.call (Opd.f 13) [Opd.t 12]) none, EOper.mk (some 7) (EOp.mv (Opd.t 13))
  none]
def b4_3 : EC := EC.ops false [EOper.mk (some 14) (EOp.mv (Opd.t 0)) none, EOper.mk (some 15) (EOp.mv (Opd.t 1)) none, EOper.mk (some 16) (EOp.mv (Opd.t 7)) none, EOper.mk
  (some 17) (EOp.call (Opd.f 14) [Opd.t 14, Opd.t 15, Opd.t 16]) none, EOper.mk (some 18) (EOp.mv (Opd.t 17)) none, EOper.mk (some 19) (EOp.mv (Opd.t 0)) (some (18,
  true)), EOper.mk (some 20) (EOp.mv (Opd.t 1)) (some (18, true)), EOper.mk (some 21) (EOp.call (Opd.f 15) [Opd.t 20, Opd.c (V.int .i64 (6))]) (some (18, true)), EOper.mk
  (some 22) (EOp.mv (Opd.t 7)) (some (18, true)), EOper.mk (some 23) (EOp.call (Opd.f 14) [Opd.t 19, Opd.t 21, Opd.t 22]) (some (18, true)), EOper.mk (some 24) (EOp.pick
  (Opd.t 18) (Opd.t 23) (Opd.c (V.bool false))) none, EOper.mk (some 25) (EOp.mv (Opd.t 24)) none, EOper.mk (some 26) (EOp.mv (Opd.t 7)) (some (25, true)), EOper.mk (some
  27) (EOp.mv (Opd.t 2)) (some (25, true)), EOper.mk (some 28) (EOp.call (Opd.f 16) [Opd.t 26, Opd.t 27]) (some (25, true)), EOper.mk (some 29) (EOp.pick (Opd.t 25) (Opd.t
  28) (Opd.c (V.bool false))) none, EOper.mk (some 30) (EOp.mv (Opd.t 29)) none, EOper.mk (some 31) (EOp.call (Opd.f 9) []) (some (30, true)), EOper.mk (some 32) (EOp.pick
  (Opd.t 30) (Opd.t 31) (Opd.c (V.bool false))) none, EOper.mk (some 6) (EOp.mv (Opd.t 32)) none]
def b4_4 : EC := EC.ret
def r4_4 : EC := b4_4
def r4_3 : EC := EC.seq b4_3 r4_4
def r4_2 : EC := EC.seq b4_2 r4_3
def r4_1 : EC := EC.seq b4_1 r4_2
def r4_0 : EC := EC.seq b4_0 r4_1
def e4 : EFun := EFun.mk 33 [ERes.t 6] r4_0
theorem c4 : cFun Tryd.prog 2 (fun _ => false) Tryd.f4 = some e4 := by kernel_rfl
theorem n4 : (Tryd.f4.name == "runtime.NumGoroutine") = false := by kernel_rfl
/-! 5: septumlaw01.WordWhole -/
def l5_0p0 : EC := EC.seq (EC.ops false [EOper.mk (some 20) (EOp.mv (Opd.t 5)) none, EOper.mk (some 21) (EOp.bin .lss (Opd.t 20) (Opd.c (V.int .i64 (5)))) none]) (EC.cond
  (Opd.t 21) EC.skip (EC.exit 0))
def l5_0p1 : EC := EC.block 1 (EC.seq (EC.ops false [EOper.mk (some 25) (EOp.mv (Opd.t 0)) none, EOper.mk (some 26) (EOp.mv (Opd.t 5)) none, EOper.mk (some 27) (EOp.call
  (Opd.f 17) [Opd.t 25, Opd.t 26]) none, EOper.mk (some 24) (EOp.mv (Opd.t 27)) none, EOper.mk (some 28) (EOp.ext (Opd.t 24) 0) none, EOper.mk (some 29) (EOp.ext (Opd.t
  24) 1) none, EOper.mk (some 6) (EOp.mv (Opd.t 28)) none, EOper.mk (some 7) (EOp.mv (Opd.t 29)) none]) (EC.seq (EC.ops false [EOper.mk (some 31) (EOp.mv (Opd.t 0)) none,
  EOper.mk (some 32) (EOp.mv (Opd.t 5)) none, EOper.mk (some 33) (EOp.call (Opd.f 19) [Opd.t 31, Opd.t 32]) none, EOper.mk (some 34) (EOp.call (Opd.f 18) [Opd.t 33]) none,
  EOper.mk (some 30) (EOp.mv (Opd.t 34)) none, EOper.mk (some 35) (EOp.ext (Opd.t 30) 0) none, EOper.mk (some 36) (EOp.ext (Opd.t 30) 1) none, EOper.mk (some 8) (EOp.mv
  (Opd.t 35)) none, EOper.mk (some 9) (EOp.mv (Opd.t 36)) none]) (EC.seq (EC.ops false [EOper.mk (some 37) (EOp.mv (Opd.t 7)) none, EOper.mk (some 38) (EOp.un .not (Opd.t
  37)) none, EOper.mk (some 39) (EOp.mv (Opd.t 38)) none, EOper.mk (some 40) (EOp.mv (Opd.t 9)) (some (39, false)), EOper.mk (some 41) (EOp.un .not (Opd.t 40)) (some (39,
  false)), EOper.mk (some 42) (EOp.pick (Opd.t 39) (Opd.c (V.bool true)) (Opd.t 41)) none, EOper.mk (some 43) (EOp.mv (Opd.t 42)) none, EOper.mk (some 44) (EOp.mv (Opd.t
  6)) (some (43, false)), EOper.mk (some 45) (EOp.mv (Opd.t 8)) (some (43, false)), EOper.mk (some 46) (EOp.bin .neq (Opd.t 44) (Opd.t 45)) (some (43, false)), EOper.mk
  (some 47) (EOp.pick (Opd.t 43) (Opd.c (V.bool true)) (Opd.t 46)) none, EOper.mk (some 48) (EOp.mv (Opd.t 47)) none, EOper.mk (some 49) (EOp.mv (Opd.t 5)) (some (48,
  false)), EOper.mk (some 50) (EOp.bin .eql (Opd.t 49) (Opd.c (V.int .i64 (4)))) (some (48, false)), EOper.mk (some 51) (EOp.mv (Opd.t 50)) (some (48, false)), EOper.mk
  (some 52) (EOp.mv (Opd.t 8)) (some (51, true)), EOper.mk (some 53) (EOp.mv (Opd.t 0)) (some (51, true)), EOper.mk (some 54) (EOp.bin .neq (Opd.t 52) (Opd.t 53)) (some
  (51, true)), EOper.mk (some 55) (EOp.pick (Opd.t 51) (Opd.t 54) (Opd.c (V.bool false))) (some (48, false)), EOper.mk (some 56) (EOp.pick (Opd.t 48) (Opd.c (V.bool true))
  (Opd.t 55)) none, EOper.mk (some 57) (EOp.mv (Opd.t 56)) none, EOper.mk (some 58) (EOp.mv (Opd.t 5)) (some (57, false)), EOper.mk (some 59) (EOp.bin .lss (Opd.t 58)
  (Opd.c (V.int .i64 (4)))) (some (57, false)), EOper.mk (some 60) (EOp.mv (Opd.t 59)) (some (57, false)), EOper.mk (some 61) (EOp.mv (Opd.t 6)) (some (60, true)),
  EOper.mk (some 62) (EOp.mv (Opd.t 5)) (some (60, true)), EOper.mk (some 63) (EOp.bin .mul (Opd.c (V.int .i64 (8))) (Opd.t 62)) (some (60, true)), EOper.mk (some 64)
  (EOp.bin .shl (Opd.c (V.int .u32 (1))) (Opd.t 63)) (some (60, true)), EOper.mk (some 65) (EOp.bin .geq (Opd.t 61) (Opd.t 64)) (some (60, true)), EOper.mk (some 66)
  (EOp.pick (Opd.t 60) (Opd.t 65) (Opd.c (V.bool false))) (some (57, false)), EOper.mk (some 67) (EOp.pick (Opd.t 57) (Opd.c (V.bool true)) (Opd.t 66)) none]) (EC.cond
  (Opd.t 67) (EC.seq (EC.ops false [EOper.mk (some 4) (EOp.mv (Opd.c (V.bool false))) none]) EC.ret) EC.skip))))
def l5_0p2 : EC := EC.ops false [EOper.mk (some 22) (EOp.mv (Opd.t 5)) none, EOper.mk (some 23) (EOp.bin .mul (Opd.t 22) (Opd.c (V.int .i64 (2)))) none, EOper.mk (some 5)
  (EOp.mv (Opd.t 23)) none]
def l5_0r2 : EC := l5_0p2
def l5_0r1 : EC := EC.seq l5_0p1 l5_0r2
def l5_0r0 : EC := EC.seq l5_0p0 l5_0r1
def l5_0 : EC := l5_0r0
def b5_0 : EC := EC.ops false [EOper.mk (some 4) (EOp.mv (Opd.c (V.bool false))) none]
def b5_1 : EC := EC.seq (EC.ops false [EOper.mk (some 15) (EOp.call (Opd.f 9) []) none, EOper.mk (some 16) (EOp.un .not (Opd.t 15)) none]) (EC.cond (Opd.t 16) (EC.seq
  (EC.ops false [EOper.mk (some 4) (EOp.mv (Opd.c (V.bool false))) none]) EC.ret) EC.skip)
def b5_2 : EC := EC.seq (EC.ops false [EOper.mk (some 17) (EOp.mv (Opd.t 1)) none, EOper.mk (some 18) (EOp.len false (Opd.t 17)) none, EOper.mk (some 19) (EOp.bin .gtr
  (Opd.t 18) (Opd.c (V.int .i64 (1000)))) none]) (EC.cond (Opd.t 19) (EC.seq (EC.ops false [EOper.mk (some 4) (EOp.mv (Opd.c (V.bool true))) none]) EC.ret) EC.skip)
def b5_3 : EC := EC.seq (EC.ops false [EOper.mk (some 5) (EOp.mv (Opd.c (V.int .i64 (1)))) none]) (EC.block 0 (EC.loop l5_0))
def b5_4 : EC := EC.ops false [EOper.mk (some 69) (EOp.mv (Opd.t 1)) none, EOper.mk (some 70) (EOp.call (Opd.f 18) [Opd.t 69]) none, EOper.mk (some 68) (EOp.mv (Opd.t 70))
  none, EOper.mk (some 71) (EOp.ext (Opd.t 68) 0) none, EOper.mk (some 72) (EOp.ext (Opd.t 68) 1) none, EOper.mk (some 10) (EOp.mv (Opd.t 71)) none, EOper.mk (some 11)
  (EOp.mv (Opd.t 72)) none]
def b5_5 : EC := EC.seq (EC.ops false [EOper.mk (some 73) (EOp.mv (Opd.t 11)) none, EOper.mk (some 74) (EOp.mv (Opd.t 73)) none, EOper.mk (some 75) (EOp.mv (Opd.t 10))
  (some (74, true)), EOper.mk (some 76) (EOp.mv (Opd.t 1)) (some (74, true)), EOper.mk (some 77) (EOp.len false (Opd.t 76)) (some (74, true)), EOper.mk (some 78) (EOp.call
  (Opd.f 19) [Opd.t 75, Opd.t 77]) (some (74, true)), EOper.mk (some 79) (EOp.mv (Opd.t 1)) (some (74, true)), EOper.mk (some 80) (EOp.call (Opd.f 20) [Opd.t 78, Opd.t
  79]) (some (74, true)), EOper.mk (some 81) (EOp.un .not (Opd.t 80)) (some (74, true)), EOper.mk (some 82) (EOp.pick (Opd.t 74) (Opd.t 81) (Opd.c (V.bool false))) none])
  (EC.cond (Opd.t 82) (EC.seq (EC.ops false [EOper.mk (some 4) (EOp.mv (Opd.c (V.bool false))) none]) EC.ret) EC.skip)
def b5_6 : EC := EC.ops false [EOper.mk (some 83) (EOp.mv (Opd.t 0)) none, EOper.mk (some 84) (EOp.call (Opd.f 11) [Opd.t 83]) none, EOper.mk (some 12) (EOp.mv (Opd.t 84))
  none]
def b5_7 : EC := EC.ops false [EOper.mk (some 86) (EOp.mv (Opd.t 12)) none, EOper.mk (some 87) (EOp.call (Opd.f 21) [Opd.t 86]) none, EOper.mk (some 85) (EOp.mv (Opd.t
  87)) none, EOper.mk (some 88) (EOp.ext (Opd.t 85) 0) none, EOper.mk (some 89) (EOp.ext (Opd.t 85) 1) none, EOper.mk (some 13) (EOp.mv (Opd.t 88)) none, EOper.mk (some
  14) (EOp.mv (Opd.t 89)) none]
def b5_8 : EC := EC.ops false [EOper.mk (some 90) (EOp.mv (Opd.t 12)) none, EOper.mk (some 91) (EOp.len true (Opd.t 90)) none, EOper.mk (some 92) (EOp.bin .eql (Opd.t 91)
  (Opd.c (V.int .i64 (10)))) none, EOper.mk (some 93) (EOp.mv (Opd.t 92)) none, EOper.mk (some 94) (EOp.mv (Opd.t 14)) (some (93, true)), EOper.mk (some 95) (EOp.pick
  (Opd.t 93) (Opd.t 94) (Opd.c (V.bool false))) none, EOper.mk (some 96) (EOp.mv (Opd.t 95)) none, EOper.mk (some 97) (EOp.mv (Opd.t 13)) (some (96, true)), EOper.mk (some
  98) (EOp.mv (Opd.t 0)) (some (96, true)), EOper.mk (some 99) (EOp.bin .eql (Opd.t 97) (Opd.t 98)) (some (96, true)), EOper.mk (some 100) (EOp.pick (Opd.t 96) (Opd.t 99)
  (Opd.c (V.bool false))) none, EOper.mk (some 4) (EOp.mv (Opd.t 100)) none]
def b5_9 : EC := EC.ret
def r5_9 : EC := b5_9
def r5_8 : EC := EC.seq b5_8 r5_9
def r5_7 : EC := EC.seq b5_7 r5_8
def r5_6 : EC := EC.seq b5_6 r5_7
def r5_5 : EC := EC.seq b5_5 r5_6
def r5_4 : EC := EC.seq b5_4 r5_5
def r5_3 : EC := EC.seq b5_3 r5_4
def r5_2 : EC := EC.seq b5_2 r5_3
def r5_1 : EC := EC.seq b5_1 r5_2
def r5_0 : EC := EC.seq b5_0 r5_1
def e5 : EFun := EFun.mk 101 [ERes.t 4] r5_0
/-! 6: septumlaw01.WordSums -/
def b6_0 : EC := EC.ops false [EOper.mk (some 4) (EOp.mv (Opd.c (V.bool false))) none]
def b6_1 : EC := EC.ops false [EOper.mk (some 20) (EOp.mv (Opd.t 0)) none, EOper.mk (some 21) (EOp.mv (Opd.t 1)) none, EOper.mk (some 22) (EOp.call (Opd.f 22) [Opd.t 20,
  Opd.t 21]) none, EOper.mk (some 19) (EOp.mv (Opd.t 22)) none, EOper.mk (some 23) (EOp.ext (Opd.t 19) 0) none, EOper.mk (some 24) (EOp.ext (Opd.t 19) 1) none, EOper.mk
  (some 5) (EOp.mv (Opd.t 23)) none, EOper.mk (some 6) (EOp.mv (Opd.t 24)) none]
def b6_2 : EC := EC.ops false [EOper.mk (some 26) (EOp.mv (Opd.t 0)) none, EOper.mk (some 27) (EOp.mv (Opd.t 1)) none, EOper.mk (some 28) (EOp.call (Opd.f 23) [Opd.t 26,
  Opd.t 27]) none, EOper.mk (some 25) (EOp.mv (Opd.t 28)) none, EOper.mk (some 29) (EOp.ext (Opd.t 25) 0) none, EOper.mk (some 30) (EOp.ext (Opd.t 25) 1) none, EOper.mk
  (some 7) (EOp.mv (Opd.t 29)) none, EOper.mk (some 8) (EOp.mv (Opd.t 30)) none]
def b6_3 : EC := EC.ops false [EOper.mk (some 32) (EOp.mv (Opd.t 0)) none, EOper.mk (some 33) (EOp.mv (Opd.t 1)) none, EOper.mk (some 34) (EOp.call (Opd.f 24) [Opd.t 32,
  Opd.t 33]) none, EOper.mk (some 31) (EOp.mv (Opd.t 34)) none, EOper.mk (some 35) (EOp.ext (Opd.t 31) 0) none, EOper.mk (some 36) (EOp.ext (Opd.t 31) 1) none, EOper.mk
  (some 9) (EOp.mv (Opd.t 35)) none, EOper.mk (some 10) (EOp.mv (Opd.t 36)) none]
def b6_4 : EC := EC.ops false [EOper.mk (some 38) (EOp.mv (Opd.t 0)) none, EOper.mk (some 39) (EOp.mv (Opd.t 1)) none, EOper.mk (some 40) (EOp.call (Opd.f 25) [Opd.t 38,
  Opd.t 39]) none, EOper.mk (some 37) (EOp.mv (Opd.t 40)) none, EOper.mk (some 41) (EOp.ext (Opd.t 37) 0) none, EOper.mk (some 42) (EOp.ext (Opd.t 37) 1) none, EOper.mk
  (some 11) (EOp.mv (Opd.t 41)) none, EOper.mk (some 12) (EOp.mv (Opd.t 42)) none]
def b6_5 : EC := EC.ops false [EOper.mk (some 44) (EOp.mv (Opd.t 0)) none, EOper.mk (some 45) (EOp.call (Opd.f 26) [Opd.t 44]) none, EOper.mk (some 43) (EOp.mv (Opd.t 45))
  none, EOper.mk (some 46) (EOp.ext (Opd.t 43) 0) none, EOper.mk (some 47) (EOp.ext (Opd.t 43) 1) none, EOper.mk (some 13) (EOp.mv (Opd.t 46)) none, EOper.mk (some 14)
  (EOp.mv (Opd.t 47)) none]
def b6_6 : EC := EC.ops false [EOper.mk (some 49) (EOp.mv (Opd.t 0)) none, EOper.mk (some 50) (EOp.call (Opd.f 27) [Opd.t 49]) none, EOper.mk (some 48) (EOp.mv (Opd.t 50))
  none, EOper.mk (some 51) (EOp.ext (Opd.t 48) 0) none, EOper.mk (some 52) (EOp.ext (Opd.t 48) 1) none, EOper.mk (some 15) (EOp.mv (Opd.t 51)) none, EOper.mk (some 16)
  (EOp.mv (Opd.t 52)) none]
def b6_7 : EC := EC.ops false [EOper.mk (some 53) (EOp.mv (Opd.t 0)) none, EOper.mk (some 54) (EOp.call (Opd.f 28) [Opd.t 53]) none, EOper.mk (some 55) (EOp.mv (Opd.t 0))
  none, EOper.mk (some 56) (EOp.call (Opd.f 28) [Opd.t 55]) none, EOper.mk (some 17) (EOp.mv (Opd.t 54)) none, EOper.mk (some 18) (EOp.mv (Opd.t 56)) none]
def b6_8 : EC := EC.ops false [EOper.mk (some 57) (EOp.mv (Opd.t 5)) none, EOper.mk (some 58) (EOp.mv (Opd.t 7)) none, EOper.mk (some 59) (EOp.bin .eql (Opd.t 57) (Opd.t
  58)) none, EOper.mk (some 60) (EOp.mv (Opd.t 59)) none, EOper.mk (some 61) (EOp.mv (Opd.t 6)) (some (60, true)), EOper.mk (some 62) (EOp.mv (Opd.t 8)) (some (60, true)),
  EOper.mk (some 63) (EOp.eqb false (Opd.t 61) (Opd.t 62)) (some (60, true)), EOper.mk (some 64) (EOp.pick (Opd.t 60) (Opd.t 63) (Opd.c (V.bool false))) none, EOper.mk
  (some 65) (EOp.mv (Opd.t 64)) none, EOper.mk (some 66) (EOp.mv (Opd.t 9)) (some (65, true)), EOper.mk (some 67) (EOp.mv (Opd.t 11)) (some (65, true)), EOper.mk (some 68)
  (EOp.bin .eql (Opd.t 66) (Opd.t 67)) (some (65, true)), EOper.mk (some 69) (EOp.pick (Opd.t 65) (Opd.t 68) (Opd.c (V.bool false))) none, EOper.mk (some 70) (EOp.mv
  (Opd.t 69)) none, EOper.mk (some 71) (EOp.mv (Opd.t 10)) (some (70, true)), EOper.mk (some 72) (EOp.mv (Opd.t 12)) (some (70, true)), EOper.mk (some 73) (EOp.eqb false
  (Opd.t 71) (Opd.t 72)) (some (70, true)), EOper.mk (some 74) (EOp.pick (Opd.t 70) (Opd.t 73) (Opd.c (V.bool false))) none, EOper.mk (some 75) (EOp.mv (Opd.t 74)) none,
  EOper.mk (some 76) (EOp.mv (Opd.t 13)) (some (75, true)), EOper.mk (some 77) (EOp.mv (Opd.t 15)) (some (75, true)), EOper.mk (some 78) (EOp.bin .eql (Opd.t 76) (Opd.t
  77)) (some (75, true)), EOper.mk (some 79) (EOp.pick (Opd.t 75) (Opd.t 78) (Opd.c (V.bool false))) none, EOper.mk (some 80) (EOp.mv (Opd.t 79)) none, EOper.mk (some 81)
  (EOp.mv (Opd.t 14)) (some (80, true)), EOper.mk (some 82) (EOp.mv (Opd.t 16)) (some (80, true)), EOper.mk (some 83) (EOp.eqb false (Opd.t 81) (Opd.t 82)) (some (80,
  true)), EOper.mk (some 84) (EOp.pick (Opd.t 80) (Opd.t 83) (Opd.c (V.bool false))) none, EOper.mk (some 85) (EOp.mv (Opd.t 84)) none, EOper.mk (some 86) (EOp.mv (Opd.t
  17)) (some (85, true)), EOper.mk (some 87) (EOp.mv (Opd.t 0)) (some (85, true)), EOper.mk (some 88) (EOp.call (Opd.f 30) [Opd.t 87]) (some (85, true)), EOper.mk (some
  89) (EOp.call (Opd.f 29) [Opd.t 86, Opd.t 88]) (some (85, true)), EOper.mk (some 90) (EOp.pick (Opd.t 85) (Opd.t 89) (Opd.c (V.bool false))) none, EOper.mk (some 91)
  (EOp.mv (Opd.t 90)) none, EOper.mk (some 92) (EOp.mv (Opd.t 17)) (some (91, true)), EOper.mk (some 93) (EOp.mv (Opd.t 18)) (some (91, true)), EOper.mk (some 94)
  (EOp.bslice 41 2 [V.sl none 0 0, V.sl none 0 0] [(0, 1, Opd.t 92), (1, 1, Opd.t 93)]) (some (91, true)), EOper.mk (some 95) (EOp.call (Opd.f 31) [Opd.t 94]) (some (91,
  true)), EOper.mk (some 96) (EOp.pick (Opd.t 91) (Opd.t 95) (Opd.c (V.bool false))) none, EOper.mk (some 97) (EOp.mv (Opd.t 96)) none, EOper.mk (some 98) (EOp.call (Opd.f
  9) []) (some (97, true)), EOper.mk (some 99) (EOp.pick (Opd.t 97) (Opd.t 98) (Opd.c (V.bool false))) none, EOper.mk (some 4) (EOp.mv (Opd.t 99)) none]
def b6_9 : EC := EC.ret
def r6_9 : EC := b6_9
def r6_8 : EC := EC.seq b6_8 r6_9
def r6_7 : EC := EC.seq b6_7 r6_8
def r6_6 : EC := EC.seq b6_6 r6_7
def r6_5 : EC := EC.seq b6_5 r6_6
def r6_4 : EC := EC.seq b6_4 r6_5
def r6_3 : EC := EC.seq b6_3 r6_4
def r6_2 : EC := EC.seq b6_2 r6_3
def r6_1 : EC := EC.seq b6_1 r6_2
def r6_0 : EC := EC.seq b6_0 r6_1
def e6 : EFun := EFun.mk 100 [ERes.t 4] r6_0
theorem c6 : cFun Tryd.prog 2 (fun _ => false) Tryd.f6 = some e6 := by kernel_rfl
theorem x6 : Tryd.prog.funcs[6]? = some Tryd.f6 := by kernel_rfl
theorem n6 : (Tryd.f6.name == "runtime.NumGoroutine") = false := by kernel_rfl
/-! 7: septumlaw01.WordBack -/
/-! 8: septumlaw01.WordEnds -/
theorem x8 : Tryd.prog.funcs[8]? = some Tryd.f8 := by kernel_rfl
theorem n8 : (Tryd.f8.name == "runtime.NumGoroutine") = false := by kernel_rfl
/-! 9: septumlaw01.awake -/
def b9_0 : EC := EC.ops false [EOper.mk (some 0) (EOp.mv (Opd.c (V.bool false))) none]
def b9_1 : EC := EC.ops false [EOper.mk (some 10) (EOp.call (Opd.f 22) [Opd.c (V.int .u32 (4294967295)), Opd.c (V.int .u32 (2))]) none, EOper.mk (some 9) (EOp.mv (Opd.t
  10)) none, EOper.mk (some 11) (EOp.ext (Opd.t 9) 0) none, EOper.mk (some 12) (EOp.ext (Opd.t 9) 1) none, EOper.mk (some 1) (EOp.mv (Opd.t 11)) none, EOper.mk (some 2)
  (EOp.mv (Opd.t 12)) none]
def b9_2 : EC := EC.ops false [EOper.mk (some 14) (EOp.call (Opd.f 17) [Opd.c (V.int .u32 (4660)), Opd.c (V.int .i64 (1))]) none, EOper.mk (some 13) (EOp.mv (Opd.t 14))
  none, EOper.mk (some 15) (EOp.ext (Opd.t 13) 0) none, EOper.mk (some 16) (EOp.ext (Opd.t 13) 1) none, EOper.mk (some 3) (EOp.mv (Opd.t 15)) none, EOper.mk (some 4)
  (EOp.mv (Opd.t 16)) none]
def b9_3 : EC := EC.ops false [EOper.mk (some 18) (EOp.call (Opd.f 21) [Opd.c (V.str (ByteArray.mk (Array.mk [UInt8.ofNat 48, UInt8.ofNat 120, UInt8.ofNat 48, UInt8.ofNat
  97])))]) none, EOper.mk (some 17) (EOp.mv (Opd.t 18)) none, EOper.mk (some 19) (EOp.ext (Opd.t 17) 0) none, EOper.mk (some 20) (EOp.ext (Opd.t 17) 1) none, EOper.mk
  (some 5) (EOp.mv (Opd.t 19)) none, EOper.mk (some 6) (EOp.mv (Opd.t 20)) none]
def b9_4 : EC := EC.ops false [EOper.mk (some 22) (EOp.call (Opd.f 21) [Opd.c (V.str (ByteArray.mk (Array.mk [UInt8.ofNat 48, UInt8.ofNat 49, UInt8.ofNat 48])))]) none,
  EOper.mk (some 21) (EOp.mv (Opd.t 22)) none, EOper.mk (some 23) (EOp.ext (Opd.t 21) 0) none, EOper.mk (some 24) (EOp.ext (Opd.t 21) 1) none, EOper.mk (some 7) (EOp.mv
  (Opd.t 23)) none, EOper.mk (some 8) (EOp.mv (Opd.t 24)) none]
def b9_5 : EC := EC.ops false [EOper.mk (some 25) (EOp.mv (Opd.t 1)) none, EOper.mk (some 26) (EOp.bin .eql (Opd.t 25) (Opd.c (V.int .u32 (1)))) none, EOper.mk (some 27)
  (EOp.mv (Opd.t 26)) none, EOper.mk (some 28) (EOp.mv (Opd.t 2)) (some (27, true)), EOper.mk (some 29) (EOp.pick (Opd.t 27) (Opd.t 28) (Opd.c (V.bool false))) none,
  EOper.mk (some 30) (EOp.mv (Opd.t 29)) none, EOper.mk (some 31) (EOp.mv (Opd.t 3)) (some (30, true)), EOper.mk (some 32) (EOp.bin .eql (Opd.t 31) (Opd.c (V.int .u32
  (52)))) (some (30, true)), EOper.mk (some 33) (EOp.pick (Opd.t 30) (Opd.t 32) (Opd.c (V.bool false))) none, EOper.mk (some 34) (EOp.mv (Opd.t 33)) none, EOper.mk (some
  35) (EOp.mv (Opd.t 4)) (some (34, true)), EOper.mk (some 36) (EOp.pick (Opd.t 34) (Opd.t 35) (Opd.c (V.bool false))) none, EOper.mk (some 37) (EOp.mv (Opd.t 36)) none,
  EOper.mk (some 38) (EOp.mv (Opd.t 5)) (some (37, true)), EOper.mk (some 39) (EOp.bin .eql (Opd.t 38) (Opd.c (V.int .u32 (10)))) (some (37, true)), EOper.mk (some 40)
  (EOp.pick (Opd.t 37) (Opd.t 39) (Opd.c (V.bool false))) none, EOper.mk (some 41) (EOp.mv (Opd.t 40)) none, EOper.mk (some 42) (EOp.mv (Opd.t 6)) (some (41, true)),
  EOper.mk (some 43) (EOp.pick (Opd.t 41) (Opd.t 42) (Opd.c (V.bool false))) none, EOper.mk (some 44) (EOp.mv (Opd.t 43)) none, EOper.mk (some 45) (EOp.mv (Opd.t 8)) (some
  (44, true)), EOper.mk (some 46) (EOp.un .not (Opd.t 45)) (some (44, true)), EOper.mk (some 47) (EOp.pick (Opd.t 44) (Opd.t 46) (Opd.c (V.bool false))) none, EOper.mk
  (some 48) (EOp.mv (Opd.t 47)) none, EOper.mk (some 49) (EOp.call (Opd.f 11) [Opd.c (V.int .u32 (10))]) (some (48, true)), EOper.mk (some 50) (EOp.bin .eql (Opd.t 49)
  (Opd.c (V.str (ByteArray.mk (Array.mk [UInt8.ofNat 48, UInt8.ofNat 120, UInt8.ofNat 48, UInt8.ofNat 48, UInt8.ofNat 48, UInt8.ofNat 48, UInt8.ofNat 48, UInt8.ofNat 48,
  UInt8.ofNat 48, UInt8.ofNat 97]))))) (some (48, true)), EOper.mk (some 51) (EOp.pick (Opd.t 48) (Opd.t 50) (Opd.c (V.bool false))) none, EOper.mk (some 52) (EOp.mv
  (Opd.t 51)) none, EOper.mk (some 53) (EOp.call (Opd.f 19) [Opd.c (V.int .u32 (4660)), Opd.c (V.int .i64 (4))]) (some (52, true)), EOper.mk (some 54) (EOp.bslice 5 4
  [V.int .u8 (0), V.int .u8 (0), V.int .u8 (0), V.int .u8 (0)] [(0, 1, Opd.c (V.int .u8 (52))), (1, 1, Opd.c (V.int .u8 (18))), (2, 1, Opd.c (V.int .u8 (0))), (3, 1, Opd.c
  (V.int .u8 (0)))]) (some (52, true)), EOper.mk (some 55) (EOp.call (Opd.f 20) [Opd.t 53, Opd.t 54]) (some (52, true)), EOper.mk (some 56) (EOp.pick (Opd.t 52) (Opd.t 55)
  (Opd.c (V.bool false))) none, EOper.mk (some 0) (EOp.mv (Opd.t 56)) none]
def b9_6 : EC := EC.ret
def r9_6 : EC := b9_6
def r9_5 : EC := EC.seq b9_5 r9_6
def r9_4 : EC := EC.seq b9_4 r9_5
def r9_3 : EC := EC.seq b9_3 r9_4
def r9_2 : EC := EC.seq b9_2 r9_3
def r9_1 : EC := EC.seq b9_1 r9_2
def r9_0 : EC := EC.seq b9_0 r9_1
def e9 : EFun := EFun.mk 57 [ERes.t 0] r9_0
theorem c9 : cFun Tryd.prog 2 (fun _ => false) Tryd.f9 = some e9 := by kernel_rfl
theorem x9 : Tryd.prog.funcs[9]? = some Tryd.f9 := by kernel_rfl
theorem n9 : (Tryd.f9.name == "runtime.NumGoroutine") = false := by kernel_rfl
/-! 10: septumlaw01.reads -/
def b10_0 : EC := EC.ops false [EOper.mk (some 2) (EOp.mv (Opd.c (V.bool false))) none]
def b10_1 : EC := EC.ops false [EOper.mk (some 8) (EOp.mv (Opd.t 0)) none, EOper.mk (some 9) (EOp.call (Opd.f 21) [Opd.t 8]) none, EOper.mk (some 7) (EOp.mv (Opd.t 9))
  none, EOper.mk (some 10) (EOp.ext (Opd.t 7) 0) none, EOper.mk (some 11) (EOp.ext (Opd.t 7) 1) none, EOper.mk (some 3) (EOp.mv (Opd.t 10)) none, EOper.mk (some 4) (EOp.mv
  (Opd.t 11)) none]
def b10_2 : EC := EC.ops false [EOper.mk (some 13) (EOp.mv (Opd.t 0)) none, EOper.mk (some 14) (EOp.call (Opd.f 32) [Opd.t 13]) none, EOper.mk (some 12) (EOp.mv (Opd.t
  14)) none, EOper.mk (some 15) (EOp.ext (Opd.t 12) 0) none, EOper.mk (some 16) (EOp.ext (Opd.t 12) 1) none, EOper.mk (some 5) (EOp.mv (Opd.t 15)) none, EOper.mk (some 6)
  (EOp.mv (Opd.t 16)) none]
def b10_3 : EC := EC.ops false [EOper.mk (some 17) (EOp.mv (Opd.t 3)) none, EOper.mk (some 18) (EOp.mv (Opd.t 5)) none, EOper.mk (some 19) (EOp.bin .eql (Opd.t 17) (Opd.t
  18)) none, EOper.mk (some 20) (EOp.mv (Opd.t 19)) none, EOper.mk (some 21) (EOp.mv (Opd.t 4)) (some (20, true)), EOper.mk (some 22) (EOp.mv (Opd.t 6)) (some (20, true)),
  EOper.mk (some 23) (EOp.eqb false (Opd.t 21) (Opd.t 22)) (some (20, true)), EOper.mk (some 24) (EOp.pick (Opd.t 20) (Opd.t 23) (Opd.c (V.bool false))) none, EOper.mk
  (some 2) (EOp.mv (Opd.t 24)) none]
def b10_4 : EC := EC.ret
def r10_4 : EC := b10_4
def r10_3 : EC := EC.seq b10_3 r10_4
def r10_2 : EC := EC.seq b10_2 r10_3
def r10_1 : EC := EC.seq b10_1 r10_2
def r10_0 : EC := EC.seq b10_0 r10_1
def e10 : EFun := EFun.mk 25 [ERes.t 2] r10_0
theorem c10 : cFun Tryd.prog 2 (fun _ => false) Tryd.f10 = some e10 := by kernel_rfl
theorem x10 : Tryd.prog.funcs[10]? = some Tryd.f10 := by kernel_rfl
theorem n10 : (Tryd.f10.name == "runtime.NumGoroutine") = false := by kernel_rfl
/-! 11: word.Show -/
/-! 12: septumref01.Show -/
def l12_0p0 : EC := EC.seq (EC.ops false [EOper.mk (some 5) (EOp.mv (Opd.t 4)) none, EOper.mk (some 6) (EOp.bin .lss (Opd.t 5) (Opd.c (V.int .i64 (8)))) none]) (EC.cond
  (Opd.t 6) EC.skip (EC.exit 0))
def l12_0p1 : EC := EC.block 1 (EC.seq (EC.ops false [EOper.mk (some 9) (EOp.mv (Opd.t 0)) none, EOper.mk (some 10) (EOp.bin .rem (Opd.t 9) (Opd.c (V.int .u32 (16))))
  none, EOper.mk (some 11) (EOp.mv (Opd.t 0)) none, EOper.mk (some 12) (EOp.bin .rem (Opd.t 11) (Opd.c (V.int .u32 (16)))) none, EOper.mk (some 13) (EOp.bin .add (Opd.t
  12) (Opd.c (V.int .u32 (1)))) none, EOper.mk (some 14) (EOp.slcs (Opd.c (V.str (ByteArray.mk (Array.mk [UInt8.ofNat 48, UInt8.ofNat 49, UInt8.ofNat 50, UInt8.ofNat 51,
  UInt8.ofNat 52, UInt8.ofNat 53, UInt8.ofNat 54, UInt8.ofNat 55, UInt8.ofNat 56, UInt8.ofNat 57, UInt8.ofNat 97, UInt8.ofNat 98, UInt8.ofNat 99, UInt8.ofNat 100,
  UInt8.ofNat 101, UInt8.ofNat 102])))) (some (Opd.t 10)) (some (Opd.t 13))) none, EOper.mk (some 15) (EOp.mv (Opd.t 3)) none, EOper.mk (some 16) (EOp.bin .add (Opd.t 14)
  (Opd.t 15)) none, EOper.mk (some 3) (EOp.mv (Opd.t 16)) none]) (EC.ops false [EOper.mk (some 17) (EOp.mv (Opd.t 0)) none, EOper.mk (some 18) (EOp.bin .quo (Opd.t 17)
  (Opd.c (V.int .u32 (16)))) none, EOper.mk (some 0) (EOp.mv (Opd.t 18)) none]))
def l12_0p2 : EC := EC.ops false [EOper.mk (some 7) (EOp.mv (Opd.t 4)) none, EOper.mk (some 8) (EOp.bin .add (Opd.t 7) (Opd.c (V.int .i64 (1)))) none, EOper.mk (some 4)
  (EOp.mv (Opd.t 8)) none]
def l12_0r2 : EC := l12_0p2
def l12_0r1 : EC := EC.seq l12_0p1 l12_0r2
def l12_0r0 : EC := EC.seq l12_0p0 l12_0r1
def l12_0 : EC := l12_0r0
def b12_0 : EC := EC.ops false [EOper.mk (some 2) (EOp.mv (Opd.c (V.str (ByteArray.mk (Array.mk []))))) none]
def b12_1 : EC := EC.ops false [EOper.mk (some 3) (EOp.mv (Opd.c (V.str (ByteArray.mk (Array.mk []))))) none]
def b12_2 : EC := EC.seq (EC.ops false [EOper.mk (some 4) (EOp.mv (Opd.c (V.int .i64 (0)))) none]) (EC.block 0 (EC.loop l12_0))
def b12_3 : EC := EC.ops false [EOper.mk (some 19) (EOp.mv (Opd.t 3)) none, EOper.mk (some 20) (EOp.bin .add (Opd.c (V.str (ByteArray.mk (Array.mk [UInt8.ofNat 48,
  UInt8.ofNat 120])))) (Opd.t 19)) none, EOper.mk (some 2) (EOp.mv (Opd.t 20)) none]
def b12_4 : EC := EC.ret
def r12_4 : EC := b12_4
def r12_3 : EC := EC.seq b12_3 r12_4
def r12_2 : EC := EC.seq b12_2 r12_3
def r12_1 : EC := EC.seq b12_1 r12_2
def r12_0 : EC := EC.seq b12_0 r12_1
def e12 : EFun := EFun.mk 21 [ERes.t 2] r12_0
theorem c12 : cFun Tryd.prog 2 (fun _ => false) Tryd.f12 = some e12 := by kernel_rfl
theorem x12 : Tryd.prog.funcs[12]? = some Tryd.f12 := by kernel_rfl
theorem n12 : (Tryd.f12.name == "runtime.NumGoroutine") = false := by kernel_rfl
/-! 13: septumkit.LentBytes -/
/-! 14: septumlaw01.parts -/
def b14_0 : EC := EC.ops false [EOper.mk (some 6) (EOp.mv (Opd.c (V.bool false))) none]
def b14_1 : EC := EC.ops false [EOper.mk (some 18) (EOp.mv (Opd.t 0)) none, EOper.mk (some 19) (EOp.mv (Opd.t 1)) none, EOper.mk (some 20) (EOp.call (Opd.f 17) [Opd.t 18,
  Opd.t 19]) none, EOper.mk (some 17) (EOp.mv (Opd.t 20)) none, EOper.mk (some 21) (EOp.ext (Opd.t 17) 0) none, EOper.mk (some 22) (EOp.ext (Opd.t 17) 1) none, EOper.mk
  (some 7) (EOp.mv (Opd.t 21)) none, EOper.mk (some 8) (EOp.mv (Opd.t 22)) none]
def b14_2 : EC := EC.ops false [EOper.mk (some 24) (EOp.mv (Opd.t 0)) none, EOper.mk (some 25) (EOp.mv (Opd.t 1)) none, EOper.mk (some 26) (EOp.call (Opd.f 34) [Opd.t 24,
  Opd.t 25]) none, EOper.mk (some 23) (EOp.mv (Opd.t 26)) none, EOper.mk (some 27) (EOp.ext (Opd.t 23) 0) none, EOper.mk (some 28) (EOp.ext (Opd.t 23) 1) none, EOper.mk
  (some 9) (EOp.mv (Opd.t 27)) none, EOper.mk (some 10) (EOp.mv (Opd.t 28)) none]
def b14_3 : EC := EC.ops false [EOper.mk (some 30) (EOp.mv (Opd.t 2)) none, EOper.mk (some 31) (EOp.call (Opd.f 18) [Opd.t 30]) none, EOper.mk (some 29) (EOp.mv (Opd.t
  31)) none, EOper.mk (some 32) (EOp.ext (Opd.t 29) 0) none, EOper.mk (some 33) (EOp.ext (Opd.t 29) 1) none, EOper.mk (some 11) (EOp.mv (Opd.t 32)) none, EOper.mk (some
  12) (EOp.mv (Opd.t 33)) none]
def b14_4 : EC := EC.ops false [EOper.mk (some 35) (EOp.mv (Opd.t 2)) none, EOper.mk (some 36) (EOp.call (Opd.f 35) [Opd.t 35]) none, EOper.mk (some 34) (EOp.mv (Opd.t
  36)) none, EOper.mk (some 37) (EOp.ext (Opd.t 34) 0) none, EOper.mk (some 38) (EOp.ext (Opd.t 34) 1) none, EOper.mk (some 13) (EOp.mv (Opd.t 37)) none, EOper.mk (some
  14) (EOp.mv (Opd.t 38)) none]
def b14_5 : EC := EC.ops false [EOper.mk (some 39) (EOp.mv (Opd.t 0)) none, EOper.mk (some 40) (EOp.mv (Opd.t 1)) none, EOper.mk (some 41) (EOp.call (Opd.f 19) [Opd.t 39,
  Opd.t 40]) none, EOper.mk (some 42) (EOp.mv (Opd.t 0)) none, EOper.mk (some 43) (EOp.mv (Opd.t 1)) none, EOper.mk (some 44) (EOp.call (Opd.f 19) [Opd.t 42, Opd.t 43])
  none, EOper.mk (some 15) (EOp.mv (Opd.t 41)) none, EOper.mk (some 16) (EOp.mv (Opd.t 44)) none]
def b14_6 : EC := EC.seq (EC.ops false [EOper.mk (some 45) (EOp.mv (Opd.t 1)) none, EOper.mk (some 46) (EOp.call (Opd.f 36) [Opd.t 45]) none, EOper.mk (some 47) (EOp.mv
  (Opd.t 1)) none, EOper.mk (some 48) (EOp.call (Opd.f 37) [Opd.t 47]) none, EOper.mk (some 49) (EOp.eqb true (Opd.t 46) (Opd.t 48)) none, EOper.mk (some 50) (EOp.mv
  (Opd.t 49)) none, EOper.mk (some 51) (EOp.mv (Opd.t 7)) (some (50, false)), EOper.mk (some 52) (EOp.mv (Opd.t 9)) (some (50, false)), EOper.mk (some 53) (EOp.bin .neq
  (Opd.t 51) (Opd.t 52)) (some (50, false)), EOper.mk (some 54) (EOp.pick (Opd.t 50) (Opd.c (V.bool true)) (Opd.t 53)) none, EOper.mk (some 55) (EOp.mv (Opd.t 54)) none,
  EOper.mk (some 56) (EOp.mv (Opd.t 8)) (some (55, false)), EOper.mk (some 57) (EOp.mv (Opd.t 10)) (some (55, false)), EOper.mk (some 58) (EOp.eqb true (Opd.t 56) (Opd.t
  57)) (some (55, false)), EOper.mk (some 59) (EOp.pick (Opd.t 55) (Opd.c (V.bool true)) (Opd.t 58)) none, EOper.mk (some 60) (EOp.mv (Opd.t 59)) none, EOper.mk (some 61)
  (EOp.mv (Opd.t 11)) (some (60, false)), EOper.mk (some 62) (EOp.mv (Opd.t 13)) (some (60, false)), EOper.mk (some 63) (EOp.bin .neq (Opd.t 61) (Opd.t 62)) (some (60,
  false)), EOper.mk (some 64) (EOp.pick (Opd.t 60) (Opd.c (V.bool true)) (Opd.t 63)) none, EOper.mk (some 65) (EOp.mv (Opd.t 64)) none, EOper.mk (some 66) (EOp.mv (Opd.t
  12)) (some (65, false)), EOper.mk (some 67) (EOp.mv (Opd.t 14)) (some (65, false)), EOper.mk (some 68) (EOp.eqb true (Opd.t 66) (Opd.t 67)) (some (65, false)), EOper.mk
  (some 69) (EOp.pick (Opd.t 65) (Opd.c (V.bool true)) (Opd.t 68)) none, EOper.mk (some 70) (EOp.mv (Opd.t 69)) none, EOper.mk (some 71) (EOp.mv (Opd.t 15)) (some (70,
  false)), EOper.mk (some 72) (EOp.mv (Opd.t 0)) (some (70, false)), EOper.mk (some 73) (EOp.mv (Opd.t 1)) (some (70, false)), EOper.mk (some 74) (EOp.call (Opd.f 38)
  [Opd.t 72, Opd.t 73]) (some (70, false)), EOper.mk (some 75) (EOp.call (Opd.f 20) [Opd.t 71, Opd.t 74]) (some (70, false)), EOper.mk (some 76) (EOp.un .not (Opd.t 75))
  (some (70, false)), EOper.mk (some 77) (EOp.pick (Opd.t 70) (Opd.c (V.bool true)) (Opd.t 76)) none]) (EC.cond (Opd.t 77) (EC.seq (EC.ops false [EOper.mk (some 6) (EOp.mv
  (Opd.c (V.bool false))) none]) EC.ret) EC.skip)
def b14_7 : EC := EC.ops false [EOper.mk (some 78) (EOp.mv (Opd.t 15)) none, EOper.mk (some 79) (EOp.mv (Opd.t 16)) none, EOper.mk (some 80) (EOp.bslice 27 2 [V.sl none 0
  0, V.sl none 0 0] [(0, 1, Opd.t 78), (1, 1, Opd.t 79)]) none, EOper.mk (some 81) (EOp.call (Opd.f 39) [Opd.t 80]) none, EOper.mk (some 6) (EOp.mv (Opd.t 81)) none]
def b14_8 : EC := EC.ret
def r14_8 : EC := b14_8
def r14_7 : EC := EC.seq b14_7 r14_8
def r14_6 : EC := EC.seq b14_6 r14_7
def r14_5 : EC := EC.seq b14_5 r14_6
def r14_4 : EC := EC.seq b14_4 r14_5
def r14_3 : EC := EC.seq b14_3 r14_4
def r14_2 : EC := EC.seq b14_2 r14_3
def r14_1 : EC := EC.seq b14_1 r14_2
def r14_0 : EC := EC.seq b14_0 r14_1
def e14 : EFun := EFun.mk 82 [ERes.t 6] r14_0
theorem c14 : cFun Tryd.prog 2 (fun _ => false) Tryd.f14 = some e14 := by kernel_rfl
theorem x14 : Tryd.prog.funcs[14]? = some Tryd.f14 := by kernel_rfl
theorem n14 : (Tryd.f14.name == "runtime.NumGoroutine") = false := by kernel_rfl
/-! 15: septumkit.Pick -/
/-! 16: septumkit.KeptBytes -/
/-! 17: word.Low -/
def b17_0 : EC := EC.ops false [EOper.mk (some 4) (EOp.mv (Opd.c (V.int .u32 (0)))) none, EOper.mk (some 5) (EOp.mv (Opd.c (V.bool false))) none]
def b17_1 : EC := EC.seq (EC.ops false [EOper.mk (some 6) (EOp.mv (Opd.t 1)) none, EOper.mk (some 7) (EOp.call (Opd.f 36) [Opd.t 6]) none, EOper.mk (some 8) (EOp.un .not
  (Opd.t 7)) none]) (EC.cond (Opd.t 8) (EC.seq (EC.ops false [EOper.mk (some 4) (EOp.mv (Opd.c (V.int .u32 (0)))) none, EOper.mk (some 5) (EOp.mv (Opd.c (V.bool false)))
  none]) EC.ret) EC.skip)
def b17_2 : EC := EC.ops false [EOper.mk (some 9) (EOp.mv (Opd.t 0)) none, EOper.mk (some 10) (EOp.mv (Opd.t 1)) none, EOper.mk (some 11) (EOp.bin .mul (Opd.c (V.int .i64
  (8))) (Opd.t 10)) none, EOper.mk (some 12) (EOp.bin .shl (Opd.c (V.int .u32 (1))) (Opd.t 11)) none, EOper.mk (some 13) (EOp.bin .sub (Opd.t 12) (Opd.c (V.int .u32 (1))))
  none, EOper.mk (some 14) (EOp.bin .and (Opd.t 9) (Opd.t 13)) none, EOper.mk (some 4) (EOp.mv (Opd.t 14)) none, EOper.mk (some 5) (EOp.mv (Opd.c (V.bool true))) none]
def b17_3 : EC := EC.ret
def r17_3 : EC := b17_3
def r17_2 : EC := EC.seq b17_2 r17_3
def r17_1 : EC := EC.seq b17_1 r17_2
def r17_0 : EC := EC.seq b17_0 r17_1
def e17 : EFun := EFun.mk 15 [ERes.t 4, ERes.t 5] r17_0
theorem c17 : cFun Tryd.prog 2 (fun _ => false) Tryd.f17 = some e17 := by kernel_rfl
theorem x17 : Tryd.prog.funcs[17]? = some Tryd.f17 := by kernel_rfl
theorem n17 : (Tryd.f17.name == "runtime.NumGoroutine") = false := by kernel_rfl
/-! 19: word.Bytes -/
def l19_0p0 : EC := EC.ops false [EOper.mk (some 11) (EOp.bin .lss (Opd.t 10) (Opd.t 9)) none]
def l19_0p1 : EC := EC.cond (Opd.t 11) EC.skip (EC.exit 0)
def l19_0p2 : EC := EC.block 1 (EC.seq (EC.ops false [EOper.mk (some 12) (EOp.mv (Opd.t 10)) none, EOper.mk (some 5) (EOp.mv (Opd.t 12)) none]) (EC.ops false [EOper.mk
  (some 13) (EOp.mv (Opd.t 4)) none, EOper.mk (some 14) (EOp.mv (Opd.t 0)) none, EOper.mk (some 15) (EOp.mv (Opd.t 5)) none, EOper.mk (some 16) (EOp.bin .mul (Opd.c (V.int
  .i64 (8))) (Opd.t 15)) none, EOper.mk (some 17) (EOp.bin .shr (Opd.t 14) (Opd.t 16)) none, EOper.mk (some 18) (EOp.conv .u8 (Opd.t 17)) none, EOper.mk (some 19)
  (EOp.bslice 5 1 [V.int .u8 (0)] [(0, 1, Opd.t 18)]) none, EOper.mk (some 20) (EOp.app 5 1 1 [V.int .u8 (0)] (Opd.t 13) (Opd.t 19)) none, EOper.mk (some 4) (EOp.mv (Opd.t
  20)) none]))
def l19_0p3 : EC := EC.ops false [EOper.mk (some 21) (EOp.bin .add (Opd.t 10) (Opd.c (V.int .i64 (1)))) none, EOper.mk (some 10) (EOp.mv (Opd.t 21)) none]
def l19_0r3 : EC := l19_0p3
def l19_0r2 : EC := EC.seq l19_0p2 l19_0r3
def l19_0r1 : EC := EC.seq l19_0p1 l19_0r2
def l19_0r0 : EC := EC.seq l19_0p0 l19_0r1
def l19_0 : EC := l19_0r0
def b19_0 : EC := EC.ops false [EOper.mk (some 4) (EOp.mv (Opd.c (V.sl none 0 0))) none]
def b19_1 : EC := EC.seq (EC.ops false [EOper.mk (some 6) (EOp.mv (Opd.t 1)) none, EOper.mk (some 7) (EOp.call (Opd.f 36) [Opd.t 6]) none, EOper.mk (some 8) (EOp.un .not
  (Opd.t 7)) none]) (EC.cond (Opd.t 8) (EC.seq (EC.ops false [EOper.mk (some 4) (EOp.mv (Opd.c (V.sl none 0 0))) none]) EC.ret) EC.skip)
def b19_2 : EC := EC.seq (EC.ops false [EOper.mk (some 9) (EOp.mv (Opd.t 1)) none, EOper.mk (some 10) (EOp.mv (Opd.c (V.int .i64 (0)))) none]) (EC.block 0 (EC.loop l19_0))
def b19_3 : EC := EC.ops false [EOper.mk (some 22) (EOp.mv (Opd.t 4)) none, EOper.mk (some 4) (EOp.mv (Opd.t 22)) none]
def b19_4 : EC := EC.ret
def r19_4 : EC := b19_4
def r19_3 : EC := EC.seq b19_3 r19_4
def r19_2 : EC := EC.seq b19_2 r19_3
def r19_1 : EC := EC.seq b19_1 r19_2
def r19_0 : EC := EC.seq b19_0 r19_1
def e19 : EFun := EFun.mk 23 [ERes.t 4] r19_0
theorem c19 : cFun Tryd.prog 2 (fun _ => false) Tryd.f19 = some e19 := by kernel_rfl
theorem x19 : Tryd.prog.funcs[19]? = some Tryd.f19 := by kernel_rfl
theorem n19 : (Tryd.f19.name == "runtime.NumGoroutine") = false := by kernel_rfl
/-! 20: septumkit.SameBytes -/
def l20_0p0 : EC := EC.seq (EC.ops false [EOper.mk (some 11) (EOp.mv (Opd.t 5)) none, EOper.mk (some 12) (EOp.mv (Opd.t 0)) none, EOper.mk (some 13) (EOp.len false (Opd.t
  12)) none, EOper.mk (some 14) (EOp.bin .lss (Opd.t 11) (Opd.t 13)) none]) (EC.cond (Opd.t 14) EC.skip (EC.exit 0))
def l20_0p1 : EC := EC.block 1 (EC.seq (EC.ops true [EOper.mk (some 17) (EOp.mv (Opd.t 0)) none, EOper.mk (some 18) (EOp.mv (Opd.t 5)) none, EOper.mk (some 19) (EOp.ixs 1
  (Opd.t 17) (Opd.t 18)) none, EOper.mk (some 20) (EOp.ld false 1 (Opd.t 19)) none, EOper.mk (some 21) (EOp.mv (Opd.t 1)) none, EOper.mk (some 22) (EOp.mv (Opd.t 5)) none,
  EOper.mk (some 23) (EOp.ixs 1 (Opd.t 21) (Opd.t 22)) none, EOper.mk (some 24) (EOp.ld false 1 (Opd.t 23)) none, EOper.mk (some 25) (EOp.bin .neq (Opd.t 20) (Opd.t 24))
  none]) (EC.cond (Opd.t 25) (EC.seq (EC.ops false [EOper.mk (some 4) (EOp.mv (Opd.c (V.bool false))) none]) EC.ret) EC.skip))
def l20_0p2 : EC := EC.ops false [EOper.mk (some 15) (EOp.mv (Opd.t 5)) none, EOper.mk (some 16) (EOp.bin .add (Opd.t 15) (Opd.c (V.int .i64 (1)))) none, EOper.mk (some 5)
  (EOp.mv (Opd.t 16)) none]
def l20_0r2 : EC := l20_0p2
def l20_0r1 : EC := EC.seq l20_0p1 l20_0r2
def l20_0r0 : EC := EC.seq l20_0p0 l20_0r1
def l20_0 : EC := l20_0r0
def b20_0 : EC := EC.ops false [EOper.mk (some 4) (EOp.mv (Opd.c (V.bool false))) none]
def b20_1 : EC := EC.seq (EC.ops false [EOper.mk (some 6) (EOp.mv (Opd.t 0)) none, EOper.mk (some 7) (EOp.len false (Opd.t 6)) none, EOper.mk (some 8) (EOp.mv (Opd.t 1))
  none, EOper.mk (some 9) (EOp.len false (Opd.t 8)) none, EOper.mk (some 10) (EOp.bin .neq (Opd.t 7) (Opd.t 9)) none]) (EC.cond (Opd.t 10) (EC.seq (EC.ops false [EOper.mk
  (some 4) (EOp.mv (Opd.c (V.bool false))) none]) EC.ret) EC.skip)
def b20_2 : EC := EC.seq (EC.ops false [EOper.mk (some 5) (EOp.mv (Opd.c (V.int .i64 (0)))) none]) (EC.block 0 (EC.loop l20_0))
def b20_3 : EC := EC.ops false [EOper.mk (some 4) (EOp.mv (Opd.c (V.bool true))) none]
def b20_4 : EC := EC.ret
def r20_4 : EC := b20_4
def r20_3 : EC := EC.seq b20_3 r20_4
def r20_2 : EC := EC.seq b20_2 r20_3
def r20_1 : EC := EC.seq b20_1 r20_2
def r20_0 : EC := EC.seq b20_0 r20_1
def e20 : EFun := EFun.mk 26 [ERes.t 4] r20_0
theorem c20 : cFun Tryd.prog 2 (fun _ => false) Tryd.f20 = some e20 := by kernel_rfl
theorem x20 : Tryd.prog.funcs[20]? = some Tryd.f20 := by kernel_rfl
theorem n20 : (Tryd.f20.name == "runtime.NumGoroutine") = false := by kernel_rfl
/-! 21: word.Parse -/
def l21_0p0 : EC := EC.ops false [EOper.mk (some 41) (EOp.bin .lss (Opd.t 40) (Opd.t 39)) none]
def l21_0p1 : EC := EC.cond (Opd.t 41) EC.skip (EC.exit 0)
def l21_0p2 : EC := EC.block 1 (EC.seq (EC.ops false [EOper.mk (some 42) (EOp.mv (Opd.t 40)) none, EOper.mk (some 10) (EOp.mv (Opd.t 42)) none]) (EC.seq (EC.ops false
  [EOper.mk (some 44) (EOp.mv (Opd.t 8)) none, EOper.mk (some 45) (EOp.mv (Opd.t 0)) none, EOper.mk (some 46) (EOp.mv (Opd.t 10)) none, EOper.mk (some 47) (EOp.ixstr
  (Opd.t 45) (Opd.t 46)) none, EOper.mk (some 48) (EOp.call (Opd.t 44) [Opd.t 47]) none, EOper.mk (some 43) (EOp.mv (Opd.t 48)) none, EOper.mk (some 49) (EOp.ext (Opd.t
  43) 0) none, EOper.mk (some 50) (EOp.ext (Opd.t 43) 1) none, EOper.mk (some 11) (EOp.mv (Opd.t 49)) none, EOper.mk (some 12) (EOp.mv (Opd.t 50)) none]) (EC.seq (EC.seq
  (EC.ops false [EOper.mk (some 51) (EOp.mv (Opd.t 12)) none, EOper.mk (some 52) (EOp.un .not (Opd.t 51)) none]) (EC.cond (Opd.t 52) (EC.seq (EC.ops false [EOper.mk (some
  2) (EOp.mv (Opd.c (V.int .u32 (0)))) none, EOper.mk (some 3) (EOp.mv (Opd.c (V.bool false))) none]) EC.ret) EC.skip)) (EC.ops false [EOper.mk (some 53) (EOp.mv (Opd.t
  9)) none, EOper.mk (some 54) (EOp.mv (Opd.t 4)) none, EOper.mk (some 55) (EOp.bin .mul (Opd.t 53) (Opd.t 54)) none, EOper.mk (some 56) (EOp.mv (Opd.t 11)) none, EOper.mk
  (some 57) (EOp.bin .add (Opd.t 55) (Opd.t 56)) none, EOper.mk (some 9) (EOp.mv (Opd.t 57)) none]))))
def l21_0p3 : EC := EC.ops false [EOper.mk (some 58) (EOp.bin .add (Opd.t 40) (Opd.c (V.int .i64 (1)))) none, EOper.mk (some 40) (EOp.mv (Opd.t 58)) none]
def l21_0r3 : EC := l21_0p3
def l21_0r2 : EC := EC.seq l21_0p2 l21_0r3
def l21_0r1 : EC := EC.seq l21_0p1 l21_0r2
def l21_0r0 : EC := EC.seq l21_0p0 l21_0r1
def l21_0 : EC := l21_0r0
def b21_0 : EC := EC.ops false [EOper.mk (some 2) (EOp.mv (Opd.c (V.int .u32 (0)))) none, EOper.mk (some 3) (EOp.mv (Opd.c (V.bool false))) none]
def b21_1 : EC := EC.ops false [EOper.mk (some 4) (EOp.mv (Opd.c (V.int .i64 (10)))) none, EOper.mk (some 5) (EOp.mv (Opd.c (V.int .i64 (10)))) none]
def b21_2 : EC := EC.seq (EC.ops false [EOper.mk (some 14) (EOp.mv (Opd.t 0)) none, EOper.mk (some 15) (EOp.call (Opd.f 41) [Opd.t 14, Opd.c (V.str (ByteArray.mk (Array.mk
  [UInt8.ofNat 48, UInt8.ofNat 120])))]) none, EOper.mk (some 13) (EOp.mv (Opd.t 15)) none, EOper.mk (some 16) (EOp.ext (Opd.t 13) 0) none, EOper.mk (some 17) (EOp.ext
  (Opd.t 13) 1) none, EOper.mk (some 6) (EOp.mv (Opd.t 16)) none, EOper.mk (some 7) (EOp.mv (Opd.t 17)) none]) (EC.seq (EC.ops false [EOper.mk (some 18) (EOp.mv (Opd.t 7))
  none]) (EC.cond (Opd.t 18) (EC.ops false [EOper.mk (some 19) (EOp.mv (Opd.t 6)) none, EOper.mk (some 0) (EOp.mv (Opd.t 19)) none, EOper.mk (some 4) (EOp.mv (Opd.c (V.int
  .i64 (16)))) none, EOper.mk (some 5) (EOp.mv (Opd.c (V.int .i64 (8)))) none]) (EC.seq (EC.ops false [EOper.mk (some 20) (EOp.mv (Opd.t 0)) none, EOper.mk (some 21)
  (EOp.len true (Opd.t 20)) none, EOper.mk (some 22) (EOp.bin .gtr (Opd.t 21) (Opd.c (V.int .i64 (1)))) none, EOper.mk (some 23) (EOp.mv (Opd.t 22)) none, EOper.mk (some
  24) (EOp.mv (Opd.t 0)) (some (23, true)), EOper.mk (some 25) (EOp.ixstr (Opd.t 24) (Opd.c (V.int .i64 (0)))) (some (23, true)), EOper.mk (some 26) (EOp.bin .eql (Opd.t
  25) (Opd.c (V.int .u8 (48)))) (some (23, true)), EOper.mk (some 27) (EOp.pick (Opd.t 23) (Opd.t 26) (Opd.c (V.bool false))) none]) (EC.cond (Opd.t 27) (EC.seq (EC.ops
  false [EOper.mk (some 2) (EOp.mv (Opd.c (V.int .u32 (0)))) none, EOper.mk (some 3) (EOp.mv (Opd.c (V.bool false))) none]) EC.ret) EC.skip))))
def b21_3 : EC := EC.seq (EC.ops false [EOper.mk (some 28) (EOp.mv (Opd.t 0)) none, EOper.mk (some 29) (EOp.bin .eql (Opd.t 28) (Opd.c (V.str (ByteArray.mk (Array.mk
  []))))) none, EOper.mk (some 30) (EOp.mv (Opd.t 29)) none, EOper.mk (some 31) (EOp.mv (Opd.t 0)) (some (30, false)), EOper.mk (some 32) (EOp.len true (Opd.t 31)) (some
  (30, false)), EOper.mk (some 33) (EOp.mv (Opd.t 5)) (some (30, false)), EOper.mk (some 34) (EOp.bin .gtr (Opd.t 32) (Opd.t 33)) (some (30, false)), EOper.mk (some 35)
  (EOp.pick (Opd.t 30) (Opd.c (V.bool true)) (Opd.t 34)) none]) (EC.cond (Opd.t 35) (EC.seq (EC.ops false [EOper.mk (some 2) (EOp.mv (Opd.c (V.int .u32 (0)))) none,
  EOper.mk (some 3) (EOp.mv (Opd.c (V.bool false))) none]) EC.ret) EC.skip)
def b21_4 : EC := EC.ops false [EOper.mk (some 36) (EOp.mv (Opd.t 4)) none, EOper.mk (some 37) (EOp.call (Opd.f 42) [Opd.t 36]) none, EOper.mk (some 8) (EOp.mv (Opd.t 37))
  none, EOper.mk (some 9) (EOp.mv (Opd.c (V.int .i64 (0)))) none]
def b21_5 : EC := EC.seq (EC.ops false [EOper.mk (some 38) (EOp.mv (Opd.t 0)) none, EOper.mk (some 39) (EOp.len true (Opd.t 38)) none, EOper.mk (some 40) (EOp.mv (Opd.c
  (V.int .i64 (0)))) none]) (EC.block 0 (EC.loop l21_0))
def b21_6 : EC := EC.seq (EC.ops false [EOper.mk (some 59) (EOp.mv (Opd.t 9)) none, EOper.mk (some 60) (EOp.bin .geq (Opd.t 59) (Opd.c (V.int .i64 (4294967296)))) none])
  (EC.cond (Opd.t 60) (EC.seq (EC.ops false [EOper.mk (some 2) (EOp.mv (Opd.c (V.int .u32 (0)))) none, EOper.mk (some 3) (EOp.mv (Opd.c (V.bool false))) none]) EC.ret)
  EC.skip)
def b21_7 : EC := EC.ops false [EOper.mk (some 61) (EOp.mv (Opd.t 9)) none, EOper.mk (some 62) (EOp.conv .u32 (Opd.t 61)) none, EOper.mk (some 2) (EOp.mv (Opd.t 62)) none,
  EOper.mk (some 3) (EOp.mv (Opd.c (V.bool true))) none]
def b21_8 : EC := EC.ret
def r21_8 : EC := b21_8
def r21_7 : EC := EC.seq b21_7 r21_8
def r21_6 : EC := EC.seq b21_6 r21_7
def r21_5 : EC := EC.seq b21_5 r21_6
def r21_4 : EC := EC.seq b21_4 r21_5
def r21_3 : EC := EC.seq b21_3 r21_4
def r21_2 : EC := EC.seq b21_2 r21_3
def r21_1 : EC := EC.seq b21_1 r21_2
def r21_0 : EC := EC.seq b21_0 r21_1
def e21 : EFun := EFun.mk 63 [ERes.t 2, ERes.t 3] r21_0
theorem c21 : cFun Tryd.prog 2 (fun _ => false) Tryd.f21 = some e21 := by kernel_rfl
theorem x21 : Tryd.prog.funcs[21]? = some Tryd.f21 := by kernel_rfl
theorem n21 : (Tryd.f21.name == "runtime.NumGoroutine") = false := by kernel_rfl
/-! 22: word.Add -/
def b22_0 : EC := EC.ops false [EOper.mk (some 4) (EOp.mv (Opd.c (V.int .u32 (0)))) none, EOper.mk (some 5) (EOp.mv (Opd.c (V.bool false))) none]
def b22_1 : EC := EC.ops false [EOper.mk (some 6) (EOp.mv (Opd.t 0)) none, EOper.mk (some 7) (EOp.mv (Opd.t 1)) none, EOper.mk (some 8) (EOp.bin .add (Opd.t 6) (Opd.t 7))
  none, EOper.mk (some 4) (EOp.mv (Opd.t 8)) none]
def b22_2 : EC := EC.ops false [EOper.mk (some 9) (EOp.mv (Opd.t 4)) none, EOper.mk (some 10) (EOp.mv (Opd.t 0)) none, EOper.mk (some 11) (EOp.bin .lss (Opd.t 9) (Opd.t
  10)) none, EOper.mk (some 5) (EOp.mv (Opd.t 11)) none]
def b22_3 : EC := EC.ret
def r22_3 : EC := b22_3
def r22_2 : EC := EC.seq b22_2 r22_3
def r22_1 : EC := EC.seq b22_1 r22_2
def r22_0 : EC := EC.seq b22_0 r22_1
def e22 : EFun := EFun.mk 12 [ERes.t 4, ERes.t 5] r22_0
theorem c22 : cFun Tryd.prog 2 (fun _ => false) Tryd.f22 = some e22 := by kernel_rfl
theorem x22 : Tryd.prog.funcs[22]? = some Tryd.f22 := by kernel_rfl
theorem n22 : (Tryd.f22.name == "runtime.NumGoroutine") = false := by kernel_rfl
/-! 23: septumref01.Add -/
def b23_0 : EC := EC.ops false [EOper.mk (some 4) (EOp.mv (Opd.c (V.int .u32 (0)))) none, EOper.mk (some 5) (EOp.mv (Opd.c (V.bool false))) none]
def b23_1 : EC := EC.ops false [EOper.mk (some 7) (EOp.mv (Opd.t 0)) none, EOper.mk (some 8) (EOp.conv .u64 (Opd.t 7)) none, EOper.mk (some 9) (EOp.mv (Opd.t 1)) none,
  EOper.mk (some 10) (EOp.conv .u64 (Opd.t 9)) none, EOper.mk (some 11) (EOp.bin .add (Opd.t 8) (Opd.t 10)) none, EOper.mk (some 6) (EOp.mv (Opd.t 11)) none]
def b23_2 : EC := EC.ops false [EOper.mk (some 12) (EOp.mv (Opd.t 6)) none, EOper.mk (some 13) (EOp.bin .rem (Opd.t 12) (Opd.c (V.int .u64 (4294967296)))) none, EOper.mk
  (some 14) (EOp.conv .u32 (Opd.t 13)) none, EOper.mk (some 15) (EOp.mv (Opd.t 6)) none, EOper.mk (some 16) (EOp.bin .geq (Opd.t 15) (Opd.c (V.int .u64 (4294967296))))
  none, EOper.mk (some 4) (EOp.mv (Opd.t 14)) none, EOper.mk (some 5) (EOp.mv (Opd.t 16)) none]
def b23_3 : EC := EC.ret
def r23_3 : EC := b23_3
def r23_2 : EC := EC.seq b23_2 r23_3
def r23_1 : EC := EC.seq b23_1 r23_2
def r23_0 : EC := EC.seq b23_0 r23_1
def e23 : EFun := EFun.mk 17 [ERes.t 4, ERes.t 5] r23_0
theorem c23 : cFun Tryd.prog 2 (fun _ => false) Tryd.f23 = some e23 := by kernel_rfl
theorem x23 : Tryd.prog.funcs[23]? = some Tryd.f23 := by kernel_rfl
theorem n23 : (Tryd.f23.name == "runtime.NumGoroutine") = false := by kernel_rfl
/-! 24: word.Sub -/
def b24_0 : EC := EC.ops false [EOper.mk (some 4) (EOp.mv (Opd.c (V.int .u32 (0)))) none, EOper.mk (some 5) (EOp.mv (Opd.c (V.bool false))) none]
def b24_1 : EC := EC.ops false [EOper.mk (some 6) (EOp.mv (Opd.t 0)) none, EOper.mk (some 7) (EOp.mv (Opd.t 1)) none, EOper.mk (some 8) (EOp.bin .sub (Opd.t 6) (Opd.t 7))
  none, EOper.mk (some 9) (EOp.mv (Opd.t 0)) none, EOper.mk (some 10) (EOp.mv (Opd.t 1)) none, EOper.mk (some 11) (EOp.bin .lss (Opd.t 9) (Opd.t 10)) none, EOper.mk (some
  4) (EOp.mv (Opd.t 8)) none, EOper.mk (some 5) (EOp.mv (Opd.t 11)) none]
def b24_2 : EC := EC.ret
def r24_2 : EC := b24_2
def r24_1 : EC := EC.seq b24_1 r24_2
def r24_0 : EC := EC.seq b24_0 r24_1
def e24 : EFun := EFun.mk 12 [ERes.t 4, ERes.t 5] r24_0
theorem c24 : cFun Tryd.prog 2 (fun _ => false) Tryd.f24 = some e24 := by kernel_rfl
theorem x24 : Tryd.prog.funcs[24]? = some Tryd.f24 := by kernel_rfl
theorem n24 : (Tryd.f24.name == "runtime.NumGoroutine") = false := by kernel_rfl
/-! 25: septumref01.Sub -/
def b25_0 : EC := EC.ops false [EOper.mk (some 4) (EOp.mv (Opd.c (V.int .u32 (0)))) none, EOper.mk (some 5) (EOp.mv (Opd.c (V.bool false))) none]
def b25_1 : EC := EC.ops false [EOper.mk (some 7) (EOp.mv (Opd.t 0)) none, EOper.mk (some 8) (EOp.conv .u64 (Opd.t 7)) none, EOper.mk (some 9) (EOp.bin .add (Opd.t 8)
  (Opd.c (V.int .u64 (4294967296)))) none, EOper.mk (some 10) (EOp.mv (Opd.t 1)) none, EOper.mk (some 11) (EOp.conv .u64 (Opd.t 10)) none, EOper.mk (some 12) (EOp.bin .sub
  (Opd.t 9) (Opd.t 11)) none, EOper.mk (some 6) (EOp.mv (Opd.t 12)) none]
def b25_2 : EC := EC.ops false [EOper.mk (some 13) (EOp.mv (Opd.t 6)) none, EOper.mk (some 14) (EOp.bin .rem (Opd.t 13) (Opd.c (V.int .u64 (4294967296)))) none, EOper.mk
  (some 15) (EOp.conv .u32 (Opd.t 14)) none, EOper.mk (some 16) (EOp.mv (Opd.t 0)) none, EOper.mk (some 17) (EOp.mv (Opd.t 1)) none, EOper.mk (some 18) (EOp.bin .lss
  (Opd.t 16) (Opd.t 17)) none, EOper.mk (some 4) (EOp.mv (Opd.t 15)) none, EOper.mk (some 5) (EOp.mv (Opd.t 18)) none]
def b25_3 : EC := EC.ret
def r25_3 : EC := b25_3
def r25_2 : EC := EC.seq b25_2 r25_3
def r25_1 : EC := EC.seq b25_1 r25_2
def r25_0 : EC := EC.seq b25_0 r25_1
def e25 : EFun := EFun.mk 19 [ERes.t 4, ERes.t 5] r25_0
theorem c25 : cFun Tryd.prog 2 (fun _ => false) Tryd.f25 = some e25 := by kernel_rfl
theorem x25 : Tryd.prog.funcs[25]? = some Tryd.f25 := by kernel_rfl
theorem n25 : (Tryd.f25.name == "runtime.NumGoroutine") = false := by kernel_rfl
/-! 27: septumref01.First -/
def b27_0 : EC := EC.ops false [EOper.mk (some 2) (EOp.mv (Opd.c (V.int .i64 (0)))) none, EOper.mk (some 3) (EOp.mv (Opd.c (V.bool false))) none]
def b27_1 : EC := EC.ops false [EOper.mk (some 5) (EOp.mv (Opd.t 0)) none, EOper.mk (some 6) (EOp.call (Opd.f 30) [Opd.t 5]) none, EOper.mk (some 4) (EOp.mv (Opd.t 6))
  none]
def b27_2 : EC := EC.seq (EC.ops false [EOper.mk (some 7) (EOp.mv (Opd.t 4)) none, EOper.mk (some 8) (EOp.len false (Opd.t 7)) none, EOper.mk (some 9) (EOp.bin .eql (Opd.t
  8) (Opd.c (V.int .i64 (0)))) none]) (EC.cond (Opd.t 9) (EC.seq (EC.ops false [EOper.mk (some 2) (EOp.mv (Opd.c (V.int .i64 (0)))) none, EOper.mk (some 3) (EOp.mv (Opd.c
  (V.bool false))) none]) EC.ret) EC.skip)
def b27_3 : EC := EC.ops false [EOper.mk (some 10) (EOp.mv (Opd.t 4)) none, EOper.mk (some 11) (EOp.ixs 1 (Opd.t 10) (Opd.c (V.int .i64 (0)))) none, EOper.mk (some 12)
  (EOp.ld false 1 (Opd.t 11)) none, EOper.mk (some 2) (EOp.mv (Opd.t 12)) none, EOper.mk (some 3) (EOp.mv (Opd.c (V.bool true))) none]
def b27_4 : EC := EC.ret
def r27_4 : EC := b27_4
def r27_3 : EC := EC.seq b27_3 r27_4
def r27_2 : EC := EC.seq b27_2 r27_3
def r27_1 : EC := EC.seq b27_1 r27_2
def r27_0 : EC := EC.seq b27_0 r27_1
def e27 : EFun := EFun.mk 13 [ERes.t 2, ERes.t 3] r27_0
theorem c27 : cFun Tryd.prog 2 (fun _ => false) Tryd.f27 = some e27 := by kernel_rfl
theorem x27 : Tryd.prog.funcs[27]? = some Tryd.f27 := by kernel_rfl
theorem n27 : (Tryd.f27.name == "runtime.NumGoroutine") = false := by kernel_rfl
/-! 28: word.Ones -/
theorem x28 : Tryd.prog.funcs[28]? = some Tryd.f28 := by kernel_rfl
/-! 29: septumkit.SameInts -/
def l29_0p0 : EC := EC.seq (EC.ops false [EOper.mk (some 11) (EOp.mv (Opd.t 5)) none, EOper.mk (some 12) (EOp.mv (Opd.t 0)) none, EOper.mk (some 13) (EOp.len false (Opd.t
  12)) none, EOper.mk (some 14) (EOp.bin .lss (Opd.t 11) (Opd.t 13)) none]) (EC.cond (Opd.t 14) EC.skip (EC.exit 0))
def l29_0p1 : EC := EC.block 1 (EC.seq (EC.ops true [EOper.mk (some 17) (EOp.mv (Opd.t 0)) none, EOper.mk (some 18) (EOp.mv (Opd.t 5)) none, EOper.mk (some 19) (EOp.ixs 1
  (Opd.t 17) (Opd.t 18)) none, EOper.mk (some 20) (EOp.ld false 1 (Opd.t 19)) none, EOper.mk (some 21) (EOp.mv (Opd.t 1)) none, EOper.mk (some 22) (EOp.mv (Opd.t 5)) none,
  EOper.mk (some 23) (EOp.ixs 1 (Opd.t 21) (Opd.t 22)) none, EOper.mk (some 24) (EOp.ld false 1 (Opd.t 23)) none, EOper.mk (some 25) (EOp.bin .neq (Opd.t 20) (Opd.t 24))
  none]) (EC.cond (Opd.t 25) (EC.seq (EC.ops false [EOper.mk (some 4) (EOp.mv (Opd.c (V.bool false))) none]) EC.ret) EC.skip))
def l29_0p2 : EC := EC.ops false [EOper.mk (some 15) (EOp.mv (Opd.t 5)) none, EOper.mk (some 16) (EOp.bin .add (Opd.t 15) (Opd.c (V.int .i64 (1)))) none, EOper.mk (some 5)
  (EOp.mv (Opd.t 16)) none]
def l29_0r2 : EC := l29_0p2
def l29_0r1 : EC := EC.seq l29_0p1 l29_0r2
def l29_0r0 : EC := EC.seq l29_0p0 l29_0r1
def l29_0 : EC := l29_0r0
def b29_0 : EC := EC.ops false [EOper.mk (some 4) (EOp.mv (Opd.c (V.bool false))) none]
def b29_1 : EC := EC.seq (EC.ops false [EOper.mk (some 6) (EOp.mv (Opd.t 0)) none, EOper.mk (some 7) (EOp.len false (Opd.t 6)) none, EOper.mk (some 8) (EOp.mv (Opd.t 1))
  none, EOper.mk (some 9) (EOp.len false (Opd.t 8)) none, EOper.mk (some 10) (EOp.bin .neq (Opd.t 7) (Opd.t 9)) none]) (EC.cond (Opd.t 10) (EC.seq (EC.ops false [EOper.mk
  (some 4) (EOp.mv (Opd.c (V.bool false))) none]) EC.ret) EC.skip)
def b29_2 : EC := EC.seq (EC.ops false [EOper.mk (some 5) (EOp.mv (Opd.c (V.int .i64 (0)))) none]) (EC.block 0 (EC.loop l29_0))
def b29_3 : EC := EC.ops false [EOper.mk (some 4) (EOp.mv (Opd.c (V.bool true))) none]
def b29_4 : EC := EC.ret
def r29_4 : EC := b29_4
def r29_3 : EC := EC.seq b29_3 r29_4
def r29_2 : EC := EC.seq b29_2 r29_3
def r29_1 : EC := EC.seq b29_1 r29_2
def r29_0 : EC := EC.seq b29_0 r29_1
def e29 : EFun := EFun.mk 26 [ERes.t 4] r29_0
theorem c29 : cFun Tryd.prog 2 (fun _ => false) Tryd.f29 = some e29 := by kernel_rfl
theorem x29 : Tryd.prog.funcs[29]? = some Tryd.f29 := by kernel_rfl
theorem n29 : (Tryd.f29.name == "runtime.NumGoroutine") = false := by kernel_rfl
/-! 30: septumref01.Ones -/
def l30_0p0 : EC := EC.seq (EC.ops false [EOper.mk (some 5) (EOp.mv (Opd.t 4)) none, EOper.mk (some 6) (EOp.bin .lss (Opd.t 5) (Opd.c (V.int .i64 (32)))) none]) (EC.cond
  (Opd.t 6) EC.skip (EC.exit 0))
def l30_0p1 : EC := EC.block 1 (EC.seq (EC.seq (EC.ops false [EOper.mk (some 9) (EOp.mv (Opd.t 0)) none, EOper.mk (some 10) (EOp.bin .rem (Opd.t 9) (Opd.c (V.int .u32
  (2)))) none, EOper.mk (some 11) (EOp.bin .eql (Opd.t 10) (Opd.c (V.int .u32 (1)))) none]) (EC.cond (Opd.t 11) (EC.ops false [EOper.mk (some 12) (EOp.mv (Opd.t 3)) none,
  EOper.mk (some 13) (EOp.mv (Opd.t 4)) none, EOper.mk (some 14) (EOp.bslice 3 1 [V.int .i64 (0)] [(0, 1, Opd.t 13)]) none, EOper.mk (some 15) (EOp.app 3 1 8 [V.int .i64
  (0)] (Opd.t 12) (Opd.t 14)) none, EOper.mk (some 3) (EOp.mv (Opd.t 15)) none]) EC.skip)) (EC.ops false [EOper.mk (some 16) (EOp.mv (Opd.t 0)) none, EOper.mk (some 17)
  (EOp.bin .quo (Opd.t 16) (Opd.c (V.int .u32 (2)))) none, EOper.mk (some 0) (EOp.mv (Opd.t 17)) none]))
def l30_0p2 : EC := EC.ops false [EOper.mk (some 7) (EOp.mv (Opd.t 4)) none, EOper.mk (some 8) (EOp.bin .add (Opd.t 7) (Opd.c (V.int .i64 (1)))) none, EOper.mk (some 4)
  (EOp.mv (Opd.t 8)) none]
def l30_0r2 : EC := l30_0p2
def l30_0r1 : EC := EC.seq l30_0p1 l30_0r2
def l30_0r0 : EC := EC.seq l30_0p0 l30_0r1
def l30_0 : EC := l30_0r0
def b30_0 : EC := EC.ops false [EOper.mk (some 2) (EOp.mv (Opd.c (V.sl none 0 0))) none]
def b30_1 : EC := EC.ops false [EOper.mk (some 3) (EOp.mv (Opd.c (V.sl none 0 0))) none]
def b30_2 : EC := EC.seq (EC.ops false [EOper.mk (some 4) (EOp.mv (Opd.c (V.int .i64 (0)))) none]) (EC.block 0 (EC.loop l30_0))
def b30_3 : EC := EC.ops false [EOper.mk (some 18) (EOp.mv (Opd.t 3)) none, EOper.mk (some 2) (EOp.mv (Opd.t 18)) none]
def b30_4 : EC := EC.ret
def r30_4 : EC := b30_4
def r30_3 : EC := EC.seq b30_3 r30_4
def r30_2 : EC := EC.seq b30_2 r30_3
def r30_1 : EC := EC.seq b30_1 r30_2
def r30_0 : EC := EC.seq b30_0 r30_1
def e30 : EFun := EFun.mk 19 [ERes.t 2] r30_0
theorem c30 : cFun Tryd.prog 2 (fun _ => false) Tryd.f30 = some e30 := by kernel_rfl
theorem x30 : Tryd.prog.funcs[30]? = some Tryd.f30 := by kernel_rfl
theorem n30 : (Tryd.f30.name == "runtime.NumGoroutine") = false := by kernel_rfl
/-! 32: septumref01.Parse -/
def b32_0 : EC := EC.ops false [EOper.mk (some 2) (EOp.mv (Opd.c (V.int .u32 (0)))) none, EOper.mk (some 3) (EOp.mv (Opd.c (V.bool false))) none]
def b32_1 : EC := EC.seq (EC.ops false [EOper.mk (some 4) (EOp.mv (Opd.t 0)) none, EOper.mk (some 5) (EOp.len true (Opd.t 4)) none, EOper.mk (some 6) (EOp.bin .gtr (Opd.t
  5) (Opd.c (V.int .i64 (2)))) none, EOper.mk (some 7) (EOp.mv (Opd.t 6)) none, EOper.mk (some 8) (EOp.mv (Opd.t 0)) (some (7, true)), EOper.mk (some 9) (EOp.ixstr (Opd.t
  8) (Opd.c (V.int .i64 (0)))) (some (7, true)), EOper.mk (some 10) (EOp.bin .eql (Opd.t 9) (Opd.c (V.int .u8 (48)))) (some (7, true)), EOper.mk (some 11) (EOp.pick (Opd.t
  7) (Opd.t 10) (Opd.c (V.bool false))) none, EOper.mk (some 12) (EOp.mv (Opd.t 11)) none, EOper.mk (some 13) (EOp.mv (Opd.t 0)) (some (12, true)), EOper.mk (some 14)
  (EOp.ixstr (Opd.t 13) (Opd.c (V.int .i64 (1)))) (some (12, true)), EOper.mk (some 15) (EOp.bin .eql (Opd.t 14) (Opd.c (V.int .u8 (120)))) (some (12, true)), EOper.mk
  (some 16) (EOp.pick (Opd.t 12) (Opd.t 15) (Opd.c (V.bool false))) none]) (EC.cond (Opd.t 16) (EC.seq (EC.seq (EC.ops false [EOper.mk (some 17) (EOp.mv (Opd.t 0)) none,
  EOper.mk (some 18) (EOp.len true (Opd.t 17)) none, EOper.mk (some 19) (EOp.bin .gtr (Opd.t 18) (Opd.c (V.int .i64 (10)))) none]) (EC.cond (Opd.t 19) (EC.seq (EC.ops
  false [EOper.mk (some 2) (EOp.mv (Opd.c (V.int .u32 (0)))) none, EOper.mk (some 3) (EOp.mv (Opd.c (V.bool false))) none]) EC.ret) EC.skip)) (EC.seq (EC.ops false
  [EOper.mk (some 20) (EOp.mv (Opd.t 0)) none, EOper.mk (some 21) (EOp.slcs (Opd.t 20) (some (Opd.c (V.int .i64 (2)))) none) none, EOper.mk (some 22) (EOp.call (Opd.f 47)
  [Opd.t 21, Opd.c (V.int .i64 (16))]) none, EOper.mk (some 23) (EOp.ext (Opd.t 22) 0) none, EOper.mk (some 24) (EOp.ext (Opd.t 22) 1) none, EOper.mk (some 2) (EOp.mv
  (Opd.t 23)) none, EOper.mk (some 3) (EOp.mv (Opd.t 24)) none]) EC.ret)) EC.skip)
def b32_2 : EC := EC.seq (EC.ops false [EOper.mk (some 25) (EOp.mv (Opd.t 0)) none, EOper.mk (some 26) (EOp.len true (Opd.t 25)) none, EOper.mk (some 27) (EOp.bin .gtr
  (Opd.t 26) (Opd.c (V.int .i64 (1)))) none, EOper.mk (some 28) (EOp.mv (Opd.t 27)) none, EOper.mk (some 29) (EOp.mv (Opd.t 0)) (some (28, true)), EOper.mk (some 30)
  (EOp.ixstr (Opd.t 29) (Opd.c (V.int .i64 (0)))) (some (28, true)), EOper.mk (some 31) (EOp.bin .eql (Opd.t 30) (Opd.c (V.int .u8 (48)))) (some (28, true)), EOper.mk
  (some 32) (EOp.pick (Opd.t 28) (Opd.t 31) (Opd.c (V.bool false))) none]) (EC.cond (Opd.t 32) (EC.seq (EC.ops false [EOper.mk (some 2) (EOp.mv (Opd.c (V.int .u32 (0))))
  none, EOper.mk (some 3) (EOp.mv (Opd.c (V.bool false))) none]) EC.ret) EC.skip)
def b32_3 : EC := EC.ops false [EOper.mk (some 33) (EOp.mv (Opd.t 0)) none, EOper.mk (some 34) (EOp.call (Opd.f 47) [Opd.t 33, Opd.c (V.int .i64 (10))]) none, EOper.mk
  (some 35) (EOp.ext (Opd.t 34) 0) none, EOper.mk (some 36) (EOp.ext (Opd.t 34) 1) none, EOper.mk (some 2) (EOp.mv (Opd.t 35)) none, EOper.mk (some 3) (EOp.mv (Opd.t 36))
  none]
def b32_4 : EC := EC.ret
def r32_4 : EC := b32_4
def r32_3 : EC := EC.seq b32_3 r32_4
def r32_2 : EC := EC.seq b32_2 r32_3
def r32_1 : EC := EC.seq b32_1 r32_2
def r32_0 : EC := EC.seq b32_0 r32_1
def e32 : EFun := EFun.mk 37 [ERes.t 2, ERes.t 3] r32_0
theorem c32 : cFun Tryd.prog 2 (fun _ => false) Tryd.f32 = some e32 := by kernel_rfl
theorem x32 : Tryd.prog.funcs[32]? = some Tryd.f32 := by kernel_rfl
theorem n32 : (Tryd.f32.name == "runtime.NumGoroutine") = false := by kernel_rfl
/-! 33: septumkit.markByte -/
def b33_0 : EC := EC.ops false [EOper.mk (some 4) (EOp.mv (Opd.c (V.int .u8 (0)))) none]
def b33_1 : EC := EC.ops false [EOper.mk (some 5) (EOp.mv (Opd.t 0)) none, EOper.mk (some 6) (EOp.mv (Opd.t 1)) none, EOper.mk (some 7) (EOp.call (Opd.f 48) [Opd.t 5,
  Opd.t 6]) none, EOper.mk (some 8) (EOp.conv .u64 (Opd.t 7)) none, EOper.mk (some 9) (EOp.bin .mul (Opd.t 8) (Opd.c (V.int .u64 (11400714819323198485)))) none, EOper.mk
  (some 10) (EOp.bin .shr (Opd.t 9) (Opd.c (V.int .u64 (56)))) none, EOper.mk (some 11) (EOp.conv .u8 (Opd.t 10)) none, EOper.mk (some 4) (EOp.mv (Opd.t 11)) none]
def b33_2 : EC := EC.ret
def r33_2 : EC := b33_2
def r33_1 : EC := EC.seq b33_1 r33_2
def r33_0 : EC := EC.seq b33_0 r33_1
def e33 : EFun := EFun.mk 12 [ERes.t 4] r33_0
theorem c33 : cFun Tryd.prog 2 (fun _ => false) Tryd.f33 = some e33 := by kernel_rfl
theorem x33 : Tryd.prog.funcs[33]? = some Tryd.f33 := by kernel_rfl
theorem n33 : (Tryd.f33.name == "runtime.NumGoroutine") = false := by kernel_rfl
/-! 34: septumref01.Low -/
def b34_0 : EC := EC.ops false [EOper.mk (some 4) (EOp.mv (Opd.c (V.int .u32 (0)))) none, EOper.mk (some 5) (EOp.mv (Opd.c (V.bool false))) none]
def b34_1 : EC := EC.seq (EC.ops false [EOper.mk (some 8) (EOp.mv (Opd.t 1)) none, EOper.mk (some 9) (EOp.call (Opd.f 37) [Opd.t 8]) none, EOper.mk (some 10) (EOp.un .not
  (Opd.t 9)) none]) (EC.cond (Opd.t 10) (EC.seq (EC.ops false [EOper.mk (some 4) (EOp.mv (Opd.c (V.int .u32 (0)))) none, EOper.mk (some 5) (EOp.mv (Opd.c (V.bool false)))
  none]) EC.ret) EC.skip)
def b34_2 : EC := EC.ops false [EOper.mk (some 12) (EOp.mv (Opd.t 0)) none, EOper.mk (some 13) (EOp.mv (Opd.t 1)) none, EOper.mk (some 14) (EOp.call (Opd.f 38) [Opd.t 12,
  Opd.t 13]) none, EOper.mk (some 15) (EOp.call (Opd.f 35) [Opd.t 14]) none, EOper.mk (some 11) (EOp.mv (Opd.t 15)) none, EOper.mk (some 16) (EOp.ext (Opd.t 11) 0) none,
  EOper.mk (some 17) (EOp.ext (Opd.t 11) 1) none, EOper.mk (some 6) (EOp.mv (Opd.t 16)) none, EOper.mk (some 7) (EOp.mv (Opd.t 17)) none]
def b34_3 : EC := EC.ops false [EOper.mk (some 18) (EOp.mv (Opd.t 6)) none, EOper.mk (some 4) (EOp.mv (Opd.t 18)) none, EOper.mk (some 5) (EOp.mv (Opd.c (V.bool true)))
  none]
def b34_4 : EC := EC.ret
def r34_4 : EC := b34_4
def r34_3 : EC := EC.seq b34_3 r34_4
def r34_2 : EC := EC.seq b34_2 r34_3
def r34_1 : EC := EC.seq b34_1 r34_2
def r34_0 : EC := EC.seq b34_0 r34_1
def e34 : EFun := EFun.mk 19 [ERes.t 4, ERes.t 5] r34_0
theorem c34 : cFun Tryd.prog 2 (fun _ => false) Tryd.f34 = some e34 := by kernel_rfl
theorem x34 : Tryd.prog.funcs[34]? = some Tryd.f34 := by kernel_rfl
theorem n34 : (Tryd.f34.name == "runtime.NumGoroutine") = false := by kernel_rfl
/-! 35: septumref01.Of -/
def l35_0p0 : EC := EC.seq (EC.ops false [EOper.mk (some 13) (EOp.mv (Opd.t 5)) none, EOper.mk (some 14) (EOp.bin .geq (Opd.t 13) (Opd.c (V.int .i64 (0)))) none]) (EC.cond
  (Opd.t 14) EC.skip (EC.exit 0))
def l35_0p1 : EC := EC.block 1 (EC.ops false [EOper.mk (some 17) (EOp.mv (Opd.t 4)) none, EOper.mk (some 18) (EOp.bin .mul (Opd.c (V.int .u32 (256))) (Opd.t 17)) none,
  EOper.mk (some 19) (EOp.mv (Opd.t 0)) none, EOper.mk (some 20) (EOp.mv (Opd.t 5)) none, EOper.mk (some 21) (EOp.ixs 1 (Opd.t 19) (Opd.t 20)) none, EOper.mk (some 22)
  (EOp.ld false 1 (Opd.t 21)) none, EOper.mk (some 23) (EOp.conv .u32 (Opd.t 22)) none, EOper.mk (some 24) (EOp.bin .add (Opd.t 18) (Opd.t 23)) none, EOper.mk (some 4)
  (EOp.mv (Opd.t 24)) none])
def l35_0p2 : EC := EC.ops false [EOper.mk (some 15) (EOp.mv (Opd.t 5)) none, EOper.mk (some 16) (EOp.bin .sub (Opd.t 15) (Opd.c (V.int .i64 (1)))) none, EOper.mk (some 5)
  (EOp.mv (Opd.t 16)) none]
def l35_0r2 : EC := l35_0p2
def l35_0r1 : EC := EC.seq l35_0p1 l35_0r2
def l35_0r0 : EC := EC.seq l35_0p0 l35_0r1
def l35_0 : EC := l35_0r0
def b35_0 : EC := EC.ops false [EOper.mk (some 2) (EOp.mv (Opd.c (V.int .u32 (0)))) none, EOper.mk (some 3) (EOp.mv (Opd.c (V.bool false))) none]
def b35_1 : EC := EC.seq (EC.ops false [EOper.mk (some 6) (EOp.mv (Opd.t 0)) none, EOper.mk (some 7) (EOp.len false (Opd.t 6)) none, EOper.mk (some 8) (EOp.call (Opd.f 37)
  [Opd.t 7]) none, EOper.mk (some 9) (EOp.un .not (Opd.t 8)) none]) (EC.cond (Opd.t 9) (EC.seq (EC.ops false [EOper.mk (some 2) (EOp.mv (Opd.c (V.int .u32 (0)))) none,
  EOper.mk (some 3) (EOp.mv (Opd.c (V.bool false))) none]) EC.ret) EC.skip)
def b35_2 : EC := EC.ops false [EOper.mk (some 4) (EOp.mv (Opd.c (V.int .u32 (0)))) none]
def b35_3 : EC := EC.seq (EC.ops false [EOper.mk (some 10) (EOp.mv (Opd.t 0)) none, EOper.mk (some 11) (EOp.len false (Opd.t 10)) none, EOper.mk (some 12) (EOp.bin .sub
  (Opd.t 11) (Opd.c (V.int .i64 (1)))) none, EOper.mk (some 5) (EOp.mv (Opd.t 12)) none]) (EC.block 0 (EC.loop l35_0))
def b35_4 : EC := EC.ops false [EOper.mk (some 25) (EOp.mv (Opd.t 4)) none, EOper.mk (some 2) (EOp.mv (Opd.t 25)) none, EOper.mk (some 3) (EOp.mv (Opd.c (V.bool true)))
  none]
def b35_5 : EC := EC.ret
def r35_5 : EC := b35_5
def r35_4 : EC := EC.seq b35_4 r35_5
def r35_3 : EC := EC.seq b35_3 r35_4
def r35_2 : EC := EC.seq b35_2 r35_3
def r35_1 : EC := EC.seq b35_1 r35_2
def r35_0 : EC := EC.seq b35_0 r35_1
def e35 : EFun := EFun.mk 26 [ERes.t 2, ERes.t 3] r35_0
theorem c35 : cFun Tryd.prog 2 (fun _ => false) Tryd.f35 = some e35 := by kernel_rfl
theorem x35 : Tryd.prog.funcs[35]? = some Tryd.f35 := by kernel_rfl
theorem n35 : (Tryd.f35.name == "runtime.NumGoroutine") = false := by kernel_rfl
/-! 36: word.Size -/
def b36_0 : EC := EC.ops false [EOper.mk (some 2) (EOp.mv (Opd.c (V.bool false))) none]
def b36_1 : EC := EC.ops false [EOper.mk (some 3) (EOp.slca 3 1 (Opd.g 1) none none) none, EOper.mk (some 4) (EOp.mv (Opd.t 0)) none, EOper.mk (some 5) (EOp.call (Opd.f
  49) [Opd.t 3, Opd.t 4]) none, EOper.mk (some 2) (EOp.mv (Opd.t 5)) none]
def b36_2 : EC := EC.ret
def r36_2 : EC := b36_2
def r36_1 : EC := EC.seq b36_1 r36_2
def r36_0 : EC := EC.seq b36_0 r36_1
def e36 : EFun := EFun.mk 6 [ERes.t 2] r36_0
theorem c36 : cFun Tryd.prog 2 (fun _ => false) Tryd.f36 = some e36 := by kernel_rfl
theorem x36 : Tryd.prog.funcs[36]? = some Tryd.f36 := by kernel_rfl
theorem n36 : (Tryd.f36.name == "runtime.NumGoroutine") = false := by kernel_rfl
/-! 37: septumref01.Size -/
def b37_0 : EC := EC.ops false [EOper.mk (some 2) (EOp.mv (Opd.c (V.bool false))) none]
def b37_1 : EC := EC.ops false [EOper.mk (some 3) (EOp.mv (Opd.t 0)) none, EOper.mk (some 4) (EOp.bin .eql (Opd.t 3) (Opd.c (V.int .i64 (1)))) none, EOper.mk (some 5)
  (EOp.mv (Opd.t 4)) none, EOper.mk (some 6) (EOp.mv (Opd.t 0)) (some (5, false)), EOper.mk (some 7) (EOp.bin .eql (Opd.t 6) (Opd.c (V.int .i64 (2)))) (some (5, false)),
  EOper.mk (some 8) (EOp.pick (Opd.t 5) (Opd.c (V.bool true)) (Opd.t 7)) none, EOper.mk (some 9) (EOp.mv (Opd.t 8)) none, EOper.mk (some 10) (EOp.mv (Opd.t 0)) (some (9,
  false)), EOper.mk (some 11) (EOp.bin .eql (Opd.t 10) (Opd.c (V.int .i64 (4)))) (some (9, false)), EOper.mk (some 12) (EOp.pick (Opd.t 9) (Opd.c (V.bool true)) (Opd.t
  11)) none, EOper.mk (some 2) (EOp.mv (Opd.t 12)) none]
def b37_2 : EC := EC.ret
def r37_2 : EC := b37_2
def r37_1 : EC := EC.seq b37_1 r37_2
def r37_0 : EC := EC.seq b37_0 r37_1
def e37 : EFun := EFun.mk 13 [ERes.t 2] r37_0
theorem c37 : cFun Tryd.prog 2 (fun _ => false) Tryd.f37 = some e37 := by kernel_rfl
theorem x37 : Tryd.prog.funcs[37]? = some Tryd.f37 := by kernel_rfl
theorem n37 : (Tryd.f37.name == "runtime.NumGoroutine") = false := by kernel_rfl
/-! 38: septumref01.Bytes -/
def l38_0p0 : EC := EC.seq (EC.ops false [EOper.mk (some 7) (EOp.mv (Opd.t 6)) none, EOper.mk (some 8) (EOp.mv (Opd.t 1)) none, EOper.mk (some 9) (EOp.bin .lss (Opd.t 7)
  (Opd.t 8)) none, EOper.mk (some 10) (EOp.mv (Opd.t 9)) none, EOper.mk (some 11) (EOp.mv (Opd.t 1)) (some (10, true)), EOper.mk (some 12) (EOp.call (Opd.f 37) [Opd.t 11])
  (some (10, true)), EOper.mk (some 13) (EOp.pick (Opd.t 10) (Opd.t 12) (Opd.c (V.bool false))) none]) (EC.cond (Opd.t 13) EC.skip (EC.exit 0))
def l38_0p1 : EC := EC.block 1 (EC.seq (EC.ops false [EOper.mk (some 16) (EOp.mv (Opd.t 5)) none, EOper.mk (some 17) (EOp.mv (Opd.t 0)) none, EOper.mk (some 18) (EOp.bin
  .rem (Opd.t 17) (Opd.c (V.int .u32 (256)))) none, EOper.mk (some 19) (EOp.conv .u8 (Opd.t 18)) none, EOper.mk (some 20) (EOp.bslice 5 1 [V.int .u8 (0)] [(0, 1, Opd.t
  19)]) none, EOper.mk (some 21) (EOp.app 5 1 1 [V.int .u8 (0)] (Opd.t 16) (Opd.t 20)) none, EOper.mk (some 5) (EOp.mv (Opd.t 21)) none]) (EC.ops false [EOper.mk (some 22)
  (EOp.mv (Opd.t 0)) none, EOper.mk (some 23) (EOp.bin .quo (Opd.t 22) (Opd.c (V.int .u32 (256)))) none, EOper.mk (some 0) (EOp.mv (Opd.t 23)) none]))
def l38_0p2 : EC := EC.ops false [EOper.mk (some 14) (EOp.mv (Opd.t 6)) none, EOper.mk (some 15) (EOp.bin .add (Opd.t 14) (Opd.c (V.int .i64 (1)))) none, EOper.mk (some 6)
  (EOp.mv (Opd.t 15)) none]
def l38_0r2 : EC := l38_0p2
def l38_0r1 : EC := EC.seq l38_0p1 l38_0r2
def l38_0r0 : EC := EC.seq l38_0p0 l38_0r1
def l38_0 : EC := l38_0r0
def b38_0 : EC := EC.ops false [EOper.mk (some 4) (EOp.mv (Opd.c (V.sl none 0 0))) none]
def b38_1 : EC := EC.ops false [EOper.mk (some 5) (EOp.mv (Opd.c (V.sl none 0 0))) none]
def b38_2 : EC := EC.seq (EC.ops false [EOper.mk (some 6) (EOp.mv (Opd.c (V.int .i64 (0)))) none]) (EC.block 0 (EC.loop l38_0))
def b38_3 : EC := EC.ops false [EOper.mk (some 24) (EOp.mv (Opd.t 5)) none, EOper.mk (some 4) (EOp.mv (Opd.t 24)) none]
def b38_4 : EC := EC.ret
def r38_4 : EC := b38_4
def r38_3 : EC := EC.seq b38_3 r38_4
def r38_2 : EC := EC.seq b38_2 r38_3
def r38_1 : EC := EC.seq b38_1 r38_2
def r38_0 : EC := EC.seq b38_0 r38_1
def e38 : EFun := EFun.mk 25 [ERes.t 4] r38_0
theorem c38 : cFun Tryd.prog 2 (fun _ => false) Tryd.f38 = some e38 := by kernel_rfl
theorem x38 : Tryd.prog.funcs[38]? = some Tryd.f38 := by kernel_rfl
theorem n38 : (Tryd.f38.name == "runtime.NumGoroutine") = false := by kernel_rfl
/-! 40: slices.Backward:byte -/
theorem x40 : Tryd.prog.funcs[40]? = some Tryd.f40 := by kernel_rfl
/-! 41: strings.CutPrefix -/
def b41_0 : EC := EC.ops false [EOper.mk (some 4) (EOp.mv (Opd.c (V.str (ByteArray.mk (Array.mk []))))) none, EOper.mk (some 5) (EOp.mv (Opd.c (V.bool false))) none]
def b41_1 : EC := EC.ops false [EOper.mk (some 6) (EOp.mv (Opd.t 0)) none, EOper.mk (some 7) (EOp.mv (Opd.t 1)) none, EOper.mk (some 8) (EOp.call (Opd.f 52) [Opd.t 6,
  Opd.t 7]) none, EOper.mk (some 9) (EOp.ext (Opd.t 8) 0) none, EOper.mk (some 10) (EOp.ext (Opd.t 8) 1) none, EOper.mk (some 4) (EOp.mv (Opd.t 9)) none, EOper.mk (some 5)
  (EOp.mv (Opd.t 10)) none]
def b41_2 : EC := EC.ret
def r41_2 : EC := b41_2
def r41_1 : EC := EC.seq b41_1 r41_2
def r41_0 : EC := EC.seq b41_0 r41_1
def e41 : EFun := EFun.mk 11 [ERes.t 4, ERes.t 5] r41_0
theorem c41 : cFun Tryd.prog 2 (fun _ => false) Tryd.f41 = some e41 := by kernel_rfl
theorem x41 : Tryd.prog.funcs[41]? = some Tryd.f41 := by kernel_rfl
theorem n41 : (Tryd.f41.name == "runtime.NumGoroutine") = false := by kernel_rfl
/-! 42: word.digit -/
def b42_0 : EC := EC.ops false [EOper.mk (some 1) (EOp.box false 3 (Opd.t 0)) none, EOper.mk (some 2) (EOp.mv (Opd.c V.nilf)) none]
def b42_1 : EC := EC.ops false [EOper.mk (some 3) (EOp.mkfn 53 [] [Opd.t 1]) none, EOper.mk (some 2) (EOp.mv (Opd.t 3)) none]
def b42_2 : EC := EC.ret
def r42_2 : EC := b42_2
def r42_1 : EC := EC.seq b42_1 r42_2
def r42_0 : EC := EC.seq b42_0 r42_1
def e42 : EFun := EFun.mk 4 [ERes.t 2] r42_0
theorem c42 : cFun Tryd.prog 2 (fun d => d == 1) Tryd.f42 = some e42 := by kernel_rfl
theorem x42 : Tryd.prog.funcs[42]? = some Tryd.f42 := by kernel_rfl
theorem n42 : (Tryd.f42.name == "runtime.NumGoroutine") = false := by kernel_rfl
/-! 43: word.bits -/
theorem x43 : Tryd.prog.funcs[43]? = some Tryd.f43 := by kernel_rfl
/-! 44: slices.Collect:int -/
theorem x44 : Tryd.prog.funcs[44]? = some Tryd.f44 := by kernel_rfl
/-! 47: septumref01.number -/
def l47_0p0 : EC := EC.seq (EC.ops false [EOper.mk (some 9) (EOp.mv (Opd.t 7)) none, EOper.mk (some 10) (EOp.mv (Opd.t 0)) none, EOper.mk (some 11) (EOp.len true (Opd.t
  10)) none, EOper.mk (some 12) (EOp.bin .lss (Opd.t 9) (Opd.t 11)) none]) (EC.cond (Opd.t 12) EC.skip (EC.exit 0))
def l47_0p1 : EC := EC.block 1 (EC.seq (EC.ops false [EOper.mk (some 15) (EOp.mv (Opd.t 0)) none, EOper.mk (some 16) (EOp.mv (Opd.t 7)) none, EOper.mk (some 17) (EOp.ixstr
  (Opd.t 15) (Opd.t 16)) none, EOper.mk (some 18) (EOp.call (Opd.f 74) [Opd.t 17]) none, EOper.mk (some 8) (EOp.mv (Opd.t 18)) none]) (EC.seq (EC.seq (EC.ops false
  [EOper.mk (some 19) (EOp.mv (Opd.t 8)) none, EOper.mk (some 20) (EOp.bin .lss (Opd.t 19) (Opd.c (V.int .i64 (0)))) none, EOper.mk (some 21) (EOp.mv (Opd.t 20)) none,
  EOper.mk (some 22) (EOp.mv (Opd.t 8)) (some (21, false)), EOper.mk (some 23) (EOp.mv (Opd.t 1)) (some (21, false)), EOper.mk (some 24) (EOp.bin .geq (Opd.t 22) (Opd.t
  23)) (some (21, false)), EOper.mk (some 25) (EOp.pick (Opd.t 21) (Opd.c (V.bool true)) (Opd.t 24)) none, EOper.mk (some 26) (EOp.mv (Opd.t 25)) none, EOper.mk (some 27)
  (EOp.mv (Opd.t 6)) (some (26, false)), EOper.mk (some 28) (EOp.bin .geq (Opd.t 27) (Opd.c (V.int .i64 (4294967296)))) (some (26, false)), EOper.mk (some 29) (EOp.pick
  (Opd.t 26) (Opd.c (V.bool true)) (Opd.t 28)) none]) (EC.cond (Opd.t 29) (EC.seq (EC.ops false [EOper.mk (some 4) (EOp.mv (Opd.c (V.int .u32 (0)))) none, EOper.mk (some
  5) (EOp.mv (Opd.c (V.bool false))) none]) EC.ret) EC.skip)) (EC.ops false [EOper.mk (some 30) (EOp.mv (Opd.t 6)) none, EOper.mk (some 31) (EOp.mv (Opd.t 1)) none,
  EOper.mk (some 32) (EOp.bin .mul (Opd.t 30) (Opd.t 31)) none, EOper.mk (some 33) (EOp.mv (Opd.t 8)) none, EOper.mk (some 34) (EOp.bin .add (Opd.t 32) (Opd.t 33)) none,
  EOper.mk (some 6) (EOp.mv (Opd.t 34)) none])))
def l47_0p2 : EC := EC.ops false [EOper.mk (some 13) (EOp.mv (Opd.t 7)) none, EOper.mk (some 14) (EOp.bin .add (Opd.t 13) (Opd.c (V.int .i64 (1)))) none, EOper.mk (some 7)
  (EOp.mv (Opd.t 14)) none]
def l47_0r2 : EC := l47_0p2
def l47_0r1 : EC := EC.seq l47_0p1 l47_0r2
def l47_0r0 : EC := EC.seq l47_0p0 l47_0r1
def l47_0 : EC := l47_0r0
def b47_0 : EC := EC.ops false [EOper.mk (some 4) (EOp.mv (Opd.c (V.int .u32 (0)))) none, EOper.mk (some 5) (EOp.mv (Opd.c (V.bool false))) none]
def b47_1 : EC := EC.ops false [EOper.mk (some 6) (EOp.mv (Opd.c (V.int .i64 (0)))) none]
def b47_2 : EC := EC.seq (EC.ops false [EOper.mk (some 7) (EOp.mv (Opd.c (V.int .i64 (0)))) none]) (EC.block 0 (EC.loop l47_0))
def b47_3 : EC := EC.seq (EC.ops false [EOper.mk (some 35) (EOp.mv (Opd.t 0)) none, EOper.mk (some 36) (EOp.len true (Opd.t 35)) none, EOper.mk (some 37) (EOp.bin .eql
  (Opd.t 36) (Opd.c (V.int .i64 (0)))) none, EOper.mk (some 38) (EOp.mv (Opd.t 37)) none, EOper.mk (some 39) (EOp.mv (Opd.t 6)) (some (38, false)), EOper.mk (some 40)
  (EOp.bin .geq (Opd.t 39) (Opd.c (V.int .i64 (4294967296)))) (some (38, false)), EOper.mk (some 41) (EOp.pick (Opd.t 38) (Opd.c (V.bool true)) (Opd.t 40)) none]) (EC.cond
  (Opd.t 41) (EC.seq (EC.ops false [EOper.mk (some 4) (EOp.mv (Opd.c (V.int .u32 (0)))) none, EOper.mk (some 5) (EOp.mv (Opd.c (V.bool false))) none]) EC.ret) EC.skip)
def b47_4 : EC := EC.ops false [EOper.mk (some 42) (EOp.mv (Opd.t 6)) none, EOper.mk (some 43) (EOp.conv .u32 (Opd.t 42)) none, EOper.mk (some 4) (EOp.mv (Opd.t 43)) none,
  EOper.mk (some 5) (EOp.mv (Opd.c (V.bool true))) none]
def b47_5 : EC := EC.ret
def r47_5 : EC := b47_5
def r47_4 : EC := EC.seq b47_4 r47_5
def r47_3 : EC := EC.seq b47_3 r47_4
def r47_2 : EC := EC.seq b47_2 r47_3
def r47_1 : EC := EC.seq b47_1 r47_2
def r47_0 : EC := EC.seq b47_0 r47_1
def e47 : EFun := EFun.mk 44 [ERes.t 4, ERes.t 5] r47_0
theorem c47 : cFun Tryd.prog 2 (fun _ => false) Tryd.f47 = some e47 := by kernel_rfl
theorem x47 : Tryd.prog.funcs[47]? = some Tryd.f47 := by kernel_rfl
theorem n47 : (Tryd.f47.name == "runtime.NumGoroutine") = false := by kernel_rfl
/-! 48: septumkit.mark -/
def b48_0 : EC := EC.ops false [EOper.mk (some 4) (EOp.mv (Opd.c (V.int .i64 (0)))) none]
def b48_1 : EC := EC.ops false [EOper.mk (some 5) (EOp.mv (Opd.t 0)) none, EOper.mk (some 6) (EOp.bin .add (Opd.t 5) (Opd.c (V.int .i64 (7)))) none, EOper.mk (some 7)
  (EOp.bin .mul (Opd.c (V.int .i64 (1000003))) (Opd.t 6)) none, EOper.mk (some 8) (EOp.mv (Opd.t 1)) none, EOper.mk (some 9) (EOp.bin .add (Opd.t 7) (Opd.t 8)) none,
  EOper.mk (some 4) (EOp.mv (Opd.t 9)) none]
def b48_2 : EC := EC.ret
def r48_2 : EC := b48_2
def r48_1 : EC := EC.seq b48_1 r48_2
def r48_0 : EC := EC.seq b48_0 r48_1
def e48 : EFun := EFun.mk 10 [ERes.t 4] r48_0
theorem c48 : cFun Tryd.prog 2 (fun _ => false) Tryd.f48 = some e48 := by kernel_rfl
theorem x48 : Tryd.prog.funcs[48]? = some Tryd.f48 := by kernel_rfl
theorem n48 : (Tryd.f48.name == "runtime.NumGoroutine") = false := by kernel_rfl
/-! 49: slices.Contains:int -/
def b49_0 : EC := EC.ops false [EOper.mk (some 4) (EOp.mv (Opd.c (V.bool false))) none]
def b49_1 : EC := EC.ops false [EOper.mk (some 5) (EOp.mv (Opd.t 0)) none, EOper.mk (some 6) (EOp.mv (Opd.t 1)) none, EOper.mk (some 7) (EOp.call (Opd.f 75) [Opd.t 5,
  Opd.t 6]) none, EOper.mk (some 8) (EOp.bin .geq (Opd.t 7) (Opd.c (V.int .i64 (0)))) none, EOper.mk (some 4) (EOp.mv (Opd.t 8)) none]
def b49_2 : EC := EC.ret
def r49_2 : EC := b49_2
def r49_1 : EC := EC.seq b49_1 r49_2
def r49_0 : EC := EC.seq b49_0 r49_1
def e49 : EFun := EFun.mk 9 [ERes.t 4] r49_0
theorem c49 : cFun Tryd.prog 2 (fun _ => false) Tryd.f49 = some e49 := by kernel_rfl
theorem x49 : Tryd.prog.funcs[49]? = some Tryd.f49 := by kernel_rfl
theorem n49 : (Tryd.f49.name == "runtime.NumGoroutine") = false := by kernel_rfl
/-! 51: slices.Backward[[]byte,byte]$1 -/
theorem x51 : Tryd.prog.funcs[51]? = some Tryd.f51 := by kernel_rfl
/-! 52: internal.stringslite.CutPrefix -/
def b52_0 : EC := EC.ops false [EOper.mk (some 4) (EOp.mv (Opd.c (V.str (ByteArray.mk (Array.mk []))))) none, EOper.mk (some 5) (EOp.mv (Opd.c (V.bool false))) none]
def b52_1 : EC := EC.seq (EC.ops false [EOper.mk (some 6) (EOp.mv (Opd.t 0)) none, EOper.mk (some 7) (EOp.mv (Opd.t 1)) none, EOper.mk (some 8) (EOp.call (Opd.f 76) [Opd.t
  6, Opd.t 7]) none, EOper.mk (some 9) (EOp.un .not (Opd.t 8)) none]) (EC.cond (Opd.t 9) (EC.seq (EC.ops false [EOper.mk (some 10) (EOp.mv (Opd.t 0)) none, EOper.mk (some
  4) (EOp.mv (Opd.t 10)) none, EOper.mk (some 5) (EOp.mv (Opd.c (V.bool false))) none]) EC.ret) EC.skip)
def b52_2 : EC := EC.ops false [EOper.mk (some 11) (EOp.mv (Opd.t 0)) none, EOper.mk (some 12) (EOp.mv (Opd.t 1)) none, EOper.mk (some 13) (EOp.len true (Opd.t 12)) none,
  EOper.mk (some 14) (EOp.slcs (Opd.t 11) (some (Opd.t 13)) none) none, EOper.mk (some 4) (EOp.mv (Opd.t 14)) none, EOper.mk (some 5) (EOp.mv (Opd.c (V.bool true))) none]
def b52_3 : EC := EC.ret
def r52_3 : EC := b52_3
def r52_2 : EC := EC.seq b52_2 r52_3
def r52_1 : EC := EC.seq b52_1 r52_2
def r52_0 : EC := EC.seq b52_0 r52_1
def e52 : EFun := EFun.mk 15 [ERes.t 4, ERes.t 5] r52_0
theorem c52 : cFun Tryd.prog 2 (fun _ => false) Tryd.f52 = some e52 := by kernel_rfl
theorem x52 : Tryd.prog.funcs[52]? = some Tryd.f52 := by kernel_rfl
theorem n52 : (Tryd.f52.name == "runtime.NumGoroutine") = false := by kernel_rfl
/-! 53: word.digit$1 -/
def b53_0 : EC := EC.ops false [EOper.mk (some 3) (EOp.mv (Opd.c (V.int .i64 (0)))) none, EOper.mk (some 4) (EOp.mv (Opd.c (V.bool false))) none]
def b53_1 : EC := EC.ops false [EOper.mk (some 6) (EOp.slca 16 1 (Opd.g 0) none none) none, EOper.mk (some 7) (EOp.mv (Opd.t 0)) none, EOper.mk (some 8) (EOp.call (Opd.f
  54) [Opd.t 6, Opd.t 7]) none, EOper.mk (some 5) (EOp.mv (Opd.t 8)) none]
def b53_2 : EC := EC.ops true [EOper.mk (some 9) (EOp.mv (Opd.t 5)) none, EOper.mk (some 10) (EOp.mv (Opd.t 5)) none, EOper.mk (some 11) (EOp.bin .geq (Opd.t 10) (Opd.c
  (V.int .i64 (0)))) none, EOper.mk (some 12) (EOp.mv (Opd.t 11)) none, EOper.mk (some 13) (EOp.mv (Opd.t 5)) (some (12, true)), EOper.mk (some 14) (EOp.ld false 1 (Opd.t
  1)) (some (12, true)), EOper.mk (some 15) (EOp.bin .lss (Opd.t 13) (Opd.t 14)) (some (12, true)), EOper.mk (some 16) (EOp.pick (Opd.t 12) (Opd.t 15) (Opd.c (V.bool
  false))) none, EOper.mk (some 3) (EOp.mv (Opd.t 9)) none, EOper.mk (some 4) (EOp.mv (Opd.t 16)) none]
def b53_3 : EC := EC.ret
def r53_3 : EC := b53_3
def r53_2 : EC := EC.seq b53_2 r53_3
def r53_1 : EC := EC.seq b53_1 r53_2
def r53_0 : EC := EC.seq b53_0 r53_1
def e53 : EFun := EFun.mk 17 [ERes.t 3, ERes.t 4] r53_0
theorem c53 : cFun Tryd.prog 2 (fun _ => false) Tryd.f53 = some e53 := by kernel_rfl
theorem x53 : Tryd.prog.funcs[53]? = some Tryd.f53 := by kernel_rfl
theorem n53 : (Tryd.f53.name == "runtime.NumGoroutine") = false := by kernel_rfl
/-! 54: slices.Index:byte -/
def l54_0p0 : EC := EC.ops false [EOper.mk (some 9) (EOp.bin .lss (Opd.t 8) (Opd.t 7)) none]
def l54_0p1 : EC := EC.cond (Opd.t 9) EC.skip (EC.exit 0)
def l54_0p2 : EC := EC.block 1 (EC.seq (EC.ops false [EOper.mk (some 10) (EOp.mv (Opd.t 8)) none, EOper.mk (some 5) (EOp.mv (Opd.t 10)) none]) (EC.seq (EC.ops false
  [EOper.mk (some 11) (EOp.mv (Opd.t 1)) none, EOper.mk (some 12) (EOp.mv (Opd.t 0)) none, EOper.mk (some 13) (EOp.mv (Opd.t 5)) none, EOper.mk (some 14) (EOp.ixs 1 (Opd.t
  12) (Opd.t 13)) none, EOper.mk (some 15) (EOp.ld false 1 (Opd.t 14)) none, EOper.mk (some 16) (EOp.bin .eql (Opd.t 11) (Opd.t 15)) none]) (EC.cond (Opd.t 16) (EC.seq
  (EC.ops false [EOper.mk (some 17) (EOp.mv (Opd.t 5)) none, EOper.mk (some 4) (EOp.mv (Opd.t 17)) none]) EC.ret) EC.skip)))
def l54_0p3 : EC := EC.ops false [EOper.mk (some 18) (EOp.bin .add (Opd.t 8) (Opd.c (V.int .i64 (1)))) none, EOper.mk (some 8) (EOp.mv (Opd.t 18)) none]
def l54_0r3 : EC := l54_0p3
def l54_0r2 : EC := EC.seq l54_0p2 l54_0r3
def l54_0r1 : EC := EC.seq l54_0p1 l54_0r2
def l54_0r0 : EC := EC.seq l54_0p0 l54_0r1
def l54_0 : EC := l54_0r0
def b54_0 : EC := EC.ops false [EOper.mk (some 4) (EOp.mv (Opd.c (V.int .i64 (0)))) none]
def b54_1 : EC := EC.seq (EC.ops false [EOper.mk (some 6) (EOp.mv (Opd.t 0)) none, EOper.mk (some 7) (EOp.len false (Opd.t 6)) none, EOper.mk (some 8) (EOp.mv (Opd.c
  (V.int .i64 (0)))) none]) (EC.block 0 (EC.loop l54_0))
def b54_2 : EC := EC.ops false [EOper.mk (some 4) (EOp.mv (Opd.c (V.int .i64 (-1)))) none]
def b54_3 : EC := EC.ret
def r54_3 : EC := b54_3
def r54_2 : EC := EC.seq b54_2 r54_3
def r54_1 : EC := EC.seq b54_1 r54_2
def r54_0 : EC := EC.seq b54_0 r54_1
def e54 : EFun := EFun.mk 19 [ERes.t 4] r54_0
theorem c54 : cFun Tryd.prog 2 (fun _ => false) Tryd.f54 = some e54 := by kernel_rfl
theorem x54 : Tryd.prog.funcs[54]? = some Tryd.f54 := by kernel_rfl
theorem n54 : (Tryd.f54.name == "runtime.NumGoroutine") = false := by kernel_rfl
/-! 55: word.bits$1 -/
theorem x55 : Tryd.prog.funcs[55]? = some Tryd.f55 := by kernel_rfl
/-! 74: septumref01.digit -/
def l74_0p0 : EC := EC.seq (EC.ops false [EOper.mk (some 4) (EOp.mv (Opd.t 3)) none, EOper.mk (some 5) (EOp.bin .lss (Opd.t 4) (Opd.c (V.int .i64 (16)))) none]) (EC.cond
  (Opd.t 5) EC.skip (EC.exit 0))
def l74_0p1 : EC := EC.block 1 (EC.seq (EC.ops false [EOper.mk (some 8) (EOp.mv (Opd.t 3)) none, EOper.mk (some 9) (EOp.ixstr (Opd.c (V.str (ByteArray.mk (Array.mk
  [UInt8.ofNat 48, UInt8.ofNat 49, UInt8.ofNat 50, UInt8.ofNat 51, UInt8.ofNat 52, UInt8.ofNat 53, UInt8.ofNat 54, UInt8.ofNat 55, UInt8.ofNat 56, UInt8.ofNat 57,
  UInt8.ofNat 97, UInt8.ofNat 98, UInt8.ofNat 99, UInt8.ofNat 100, UInt8.ofNat 101, UInt8.ofNat 102])))) (Opd.t 8)) none, EOper.mk (some 10) (EOp.mv (Opd.t 0)) none,
  EOper.mk (some 11) (EOp.bin .eql (Opd.t 9) (Opd.t 10)) none]) (EC.cond (Opd.t 11) (EC.seq (EC.ops false [EOper.mk (some 12) (EOp.mv (Opd.t 3)) none, EOper.mk (some 2)
  (EOp.mv (Opd.t 12)) none]) EC.ret) EC.skip))
def l74_0p2 : EC := EC.ops false [EOper.mk (some 6) (EOp.mv (Opd.t 3)) none, EOper.mk (some 7) (EOp.bin .add (Opd.t 6) (Opd.c (V.int .i64 (1)))) none, EOper.mk (some 3)
  (EOp.mv (Opd.t 7)) none]
def l74_0r2 : EC := l74_0p2
def l74_0r1 : EC := EC.seq l74_0p1 l74_0r2
def l74_0r0 : EC := EC.seq l74_0p0 l74_0r1
def l74_0 : EC := l74_0r0
def b74_0 : EC := EC.ops false [EOper.mk (some 2) (EOp.mv (Opd.c (V.int .i64 (0)))) none]
def b74_1 : EC := EC.seq (EC.ops false [EOper.mk (some 3) (EOp.mv (Opd.c (V.int .i64 (0)))) none]) (EC.block 0 (EC.loop l74_0))
def b74_2 : EC := EC.ops false [EOper.mk (some 2) (EOp.mv (Opd.c (V.int .i64 (-1)))) none]
def b74_3 : EC := EC.ret
def r74_3 : EC := b74_3
def r74_2 : EC := EC.seq b74_2 r74_3
def r74_1 : EC := EC.seq b74_1 r74_2
def r74_0 : EC := EC.seq b74_0 r74_1
def e74 : EFun := EFun.mk 13 [ERes.t 2] r74_0
theorem c74 : cFun Tryd.prog 2 (fun _ => false) Tryd.f74 = some e74 := by kernel_rfl
theorem x74 : Tryd.prog.funcs[74]? = some Tryd.f74 := by kernel_rfl
theorem n74 : (Tryd.f74.name == "runtime.NumGoroutine") = false := by kernel_rfl
/-! 75: slices.Index:int -/
def l75_0p0 : EC := EC.ops false [EOper.mk (some 9) (EOp.bin .lss (Opd.t 8) (Opd.t 7)) none]
def l75_0p1 : EC := EC.cond (Opd.t 9) EC.skip (EC.exit 0)
def l75_0p2 : EC := EC.block 1 (EC.seq (EC.ops false [EOper.mk (some 10) (EOp.mv (Opd.t 8)) none, EOper.mk (some 5) (EOp.mv (Opd.t 10)) none]) (EC.seq (EC.ops false
  [EOper.mk (some 11) (EOp.mv (Opd.t 1)) none, EOper.mk (some 12) (EOp.mv (Opd.t 0)) none, EOper.mk (some 13) (EOp.mv (Opd.t 5)) none, EOper.mk (some 14) (EOp.ixs 1 (Opd.t
  12) (Opd.t 13)) none, EOper.mk (some 15) (EOp.ld false 1 (Opd.t 14)) none, EOper.mk (some 16) (EOp.bin .eql (Opd.t 11) (Opd.t 15)) none]) (EC.cond (Opd.t 16) (EC.seq
  (EC.ops false [EOper.mk (some 17) (EOp.mv (Opd.t 5)) none, EOper.mk (some 4) (EOp.mv (Opd.t 17)) none]) EC.ret) EC.skip)))
def l75_0p3 : EC := EC.ops false [EOper.mk (some 18) (EOp.bin .add (Opd.t 8) (Opd.c (V.int .i64 (1)))) none, EOper.mk (some 8) (EOp.mv (Opd.t 18)) none]
def l75_0r3 : EC := l75_0p3
def l75_0r2 : EC := EC.seq l75_0p2 l75_0r3
def l75_0r1 : EC := EC.seq l75_0p1 l75_0r2
def l75_0r0 : EC := EC.seq l75_0p0 l75_0r1
def l75_0 : EC := l75_0r0
def b75_0 : EC := EC.ops false [EOper.mk (some 4) (EOp.mv (Opd.c (V.int .i64 (0)))) none]
def b75_1 : EC := EC.seq (EC.ops false [EOper.mk (some 6) (EOp.mv (Opd.t 0)) none, EOper.mk (some 7) (EOp.len false (Opd.t 6)) none, EOper.mk (some 8) (EOp.mv (Opd.c
  (V.int .i64 (0)))) none]) (EC.block 0 (EC.loop l75_0))
def b75_2 : EC := EC.ops false [EOper.mk (some 4) (EOp.mv (Opd.c (V.int .i64 (-1)))) none]
def b75_3 : EC := EC.ret
def r75_3 : EC := b75_3
def r75_2 : EC := EC.seq b75_2 r75_3
def r75_1 : EC := EC.seq b75_1 r75_2
def r75_0 : EC := EC.seq b75_0 r75_1
def e75 : EFun := EFun.mk 19 [ERes.t 4] r75_0
theorem c75 : cFun Tryd.prog 2 (fun _ => false) Tryd.f75 = some e75 := by kernel_rfl
theorem x75 : Tryd.prog.funcs[75]? = some Tryd.f75 := by kernel_rfl
theorem n75 : (Tryd.f75.name == "runtime.NumGoroutine") = false := by kernel_rfl
/-! 76: internal.stringslite.HasPrefix -/
def b76_0 : EC := EC.ops false [EOper.mk (some 4) (EOp.mv (Opd.c (V.bool false))) none]
def b76_1 : EC := EC.ops false [EOper.mk (some 5) (EOp.mv (Opd.t 0)) none, EOper.mk (some 6) (EOp.len true (Opd.t 5)) none, EOper.mk (some 7) (EOp.mv (Opd.t 1)) none,
  EOper.mk (some 8) (EOp.len true (Opd.t 7)) none, EOper.mk (some 9) (EOp.bin .geq (Opd.t 6) (Opd.t 8)) none, EOper.mk (some 10) (EOp.mv (Opd.t 9)) none, EOper.mk (some
  11) (EOp.mv (Opd.t 0)) (some (10, true)), EOper.mk (some 12) (EOp.mv (Opd.t 1)) (some (10, true)), EOper.mk (some 13) (EOp.len true (Opd.t 12)) (some (10, true)),
  EOper.mk (some 14) (EOp.slcs (Opd.t 11) none (some (Opd.t 13))) (some (10, true)), EOper.mk (some 15) (EOp.mv (Opd.t 1)) (some (10, true)), EOper.mk (some 16) (EOp.bin
  .eql (Opd.t 14) (Opd.t 15)) (some (10, true)), EOper.mk (some 17) (EOp.pick (Opd.t 10) (Opd.t 16) (Opd.c (V.bool false))) none, EOper.mk (some 4) (EOp.mv (Opd.t 17))
  none]
def b76_2 : EC := EC.ret
def r76_2 : EC := b76_2
def r76_1 : EC := EC.seq b76_1 r76_2
def r76_0 : EC := EC.seq b76_0 r76_1
def e76 : EFun := EFun.mk 18 [ERes.t 4] r76_0
theorem c76 : cFun Tryd.prog 2 (fun _ => false) Tryd.f76 = some e76 := by kernel_rfl
theorem x76 : Tryd.prog.funcs[76]? = some Tryd.f76 := by kernel_rfl
theorem n76 : (Tryd.f76.name == "runtime.NumGoroutine") = false := by kernel_rfl
end Go.Ev
