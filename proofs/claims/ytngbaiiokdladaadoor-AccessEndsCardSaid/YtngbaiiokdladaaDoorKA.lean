/- dev: forms (printed by forms.py) -/
import Derived.Test.YtngbaiiokdladaaDoorChecked
import Derived.Test.YtngbaiiokdladaaDoorEvU
set_option linter.all false
namespace Go.Ev
open Go Go.Proofs
set_option maxRecDepth 1000000
/-! 3: septumlaw04.AccessReads -/
def b3_0 : EC := EC.ops false [EOper.mk (some 2) (EOp.mv (Opd.c (V.bool false))) none]
def b3_1 : EC := EC.seq (EC.ops false [EOper.mk (some 3) (EOp.mv (Opd.t 0)) none, EOper.mk (some 4) (EOp.len false (Opd.t 3)) none, EOper.mk (some 5) (EOp.bin .gtr (Opd.t
  4) (Opd.c (V.int .i64 (1000)))) none]) (EC.cond (Opd.t 5) (EC.seq (EC.ops false [EOper.mk (some 6) (EOp.call (Opd.f 8) []) none, EOper.mk (some 2) (EOp.mv (Opd.t 6))
  none]) EC.ret) EC.skip)
def b3_2 : EC := EC.ops false [EOper.mk (some 7) (EOp.mv (Opd.t 0)) none, EOper.mk (some 8) (EOp.call (Opd.f 9) [Opd.t 7]) none, EOper.mk (some 9) (EOp.mv (Opd.t 8)) none,
  EOper.mk (some 10) (EOp.call (Opd.f 8) []) (some (9, true)), EOper.mk (some 11) (EOp.pick (Opd.t 9) (Opd.t 10) (Opd.c (V.bool false))) none, EOper.mk (some 2) (EOp.mv
  (Opd.t 11)) none]
def b3_3 : EC := EC.ret
def r3_3 : EC := b3_3
def r3_2 : EC := EC.seq b3_2 r3_3
def r3_1 : EC := EC.seq b3_1 r3_2
def r3_0 : EC := EC.seq b3_0 r3_1
def e3 : EFun := EFun.mk 12 [ERes.t 2] r3_0
theorem c3 : cFun Tryd.prog 1 (fun _ => false) Tryd.f3 = some e3 := by kernel_rfl
theorem n3 : (Tryd.f3.name == "runtime.NumGoroutine") = false := by kernel_rfl
/-! 4: septumlaw04.AccessParts -/
def b4_0 : EC := EC.ops false [EOper.mk (some 3) (EOp.box true 27 (Opd.t 0)) none, EOper.mk (some 4) (EOp.box true 27 (Opd.t 1)) none, EOper.mk (some 6) (EOp.mv (Opd.c
  (V.bool false))) none]
def b4_1 : EC := EC.seq (EC.ops false [EOper.mk (some 12) (EOp.call (Opd.f 8) []) none, EOper.mk (some 13) (EOp.un .not (Opd.t 12)) none]) (EC.cond (Opd.t 13) (EC.seq
  (EC.ops false [EOper.mk (some 6) (EOp.mv (Opd.c (V.bool false))) none]) EC.ret) EC.skip)
def b4_2 : EC := EC.ops false [EOper.mk (some 14) (EOp.ld true 5 (Opd.t 3)) none, EOper.mk (some 7) (EOp.alloc true 27 [V.int .i64 (0), V.bool false, V.int .u32 (0), V.int
  .i64 (0), V.int .u32 (0)]) none, EOper.mk none (EOp.st 5 (Opd.t 7) (Opd.t 14)) none]
def b4_3 : EC := EC.ops false [EOper.mk (some 15) (EOp.mv (Opd.t 2)) none, EOper.mk (some 16) (EOp.call (Opd.f 10) [Opd.t 15, Opd.c (V.int .i64 (8))]) none, EOper.mk (some
  17) (EOp.fa 0 (Opd.t 7)) none, EOper.mk none (EOp.st 1 (Opd.t 17) (Opd.t 16)) none]
def b4_4 : EC := EC.seq (EC.ops false [EOper.mk (some 18) (EOp.ld true 5 (Opd.t 3)) none, EOper.mk (some 19) (EOp.call (Opd.f 11) [Opd.t 18]) none, EOper.mk (some 20)
  (EOp.mv (Opd.t 19)) none, EOper.mk (some 21) (EOp.ld true 5 (Opd.t 7)) (some (20, true)), EOper.mk (some 22) (EOp.call (Opd.f 11) [Opd.t 21]) (some (20, true)), EOper.mk
  (some 23) (EOp.un .not (Opd.t 22)) (some (20, true)), EOper.mk (some 24) (EOp.pick (Opd.t 20) (Opd.t 23) (Opd.c (V.bool false))) none]) (EC.cond (Opd.t 24) (EC.seq
  (EC.ops false [EOper.mk (some 6) (EOp.mv (Opd.c (V.bool false))) none]) EC.ret) EC.skip)
def b4_5 : EC := EC.ops false [EOper.mk (some 25) (EOp.ld true 5 (Opd.t 3)) none, EOper.mk none (EOp.st 5 (Opd.t 7) (Opd.t 25)) none]
def b4_6 : EC := EC.ops false [EOper.mk (some 26) (EOp.fa 1 (Opd.t 7)) none, EOper.mk none (EOp.st 1 (Opd.t 26) (Opd.c (V.bool false))) none]
def b4_7 : EC := EC.ops false [EOper.mk (some 27) (EOp.fa 4 (Opd.t 3)) none, EOper.mk (some 28) (EOp.ld false 1 (Opd.t 27)) none, EOper.mk (some 29) (EOp.bin .or (Opd.t
  28) (Opd.c (V.int .u32 (1)))) none, EOper.mk (some 30) (EOp.fa 4 (Opd.t 7)) none, EOper.mk none (EOp.st 1 (Opd.t 30) (Opd.t 29)) none]
def b4_8 : EC := EC.seq (EC.ops false [EOper.mk (some 31) (EOp.ld true 5 (Opd.t 7)) none, EOper.mk (some 32) (EOp.call (Opd.f 11) [Opd.t 31]) none]) (EC.cond (Opd.t 32)
  (EC.seq (EC.ops false [EOper.mk (some 6) (EOp.mv (Opd.c (V.bool false))) none]) EC.ret) EC.skip)
def b4_9 : EC := EC.ops false [EOper.mk (some 33) (EOp.ld true 5 (Opd.t 3)) none, EOper.mk none (EOp.st 5 (Opd.t 7) (Opd.t 33)) none]
def b4_10 : EC := EC.ops false [EOper.mk (some 34) (EOp.fa 2 (Opd.t 3)) none, EOper.mk (some 35) (EOp.ld false 1 (Opd.t 34)) none, EOper.mk (some 36) (EOp.bin .or (Opd.t
  35) (Opd.c (V.int .u32 (1)))) none, EOper.mk (some 37) (EOp.fa 2 (Opd.t 7)) none, EOper.mk none (EOp.st 1 (Opd.t 37) (Opd.t 36)) none]
def b4_11 : EC := EC.seq (EC.opsX (Sch.sil (EOper.mk (some 38) (EOp.ld true 5 (Opd.t 3)) none) (Sch.op (EOper.mk (some 39) (EOp.call (Opd.f 11) [Opd.t 38]) none) (Sch.sil
  (EOper.mk (some 40) (EOp.mv (Opd.t 39)) none) (Sch.sil (EOper.mk (some 41) (EOp.ld true 5 (Opd.t 7)) (some (40, true))) (Sch.sil (EOper.mk (some 43) (EOp.fa 3 (Opd.t 3))
  (some (40, true))) (Sch.sil (EOper.mk (some 44) (EOp.ld false 1 (Opd.t 43)) (some (40, true))) (Sch.sil (EOper.mk (some 45) (EOp.bin .eql (Opd.t 44) (Opd.c (V.int .i64
  (1)))) (some (40, true))) (Sch.op (EOper.mk (some 42) (EOp.call (Opd.f 11) [Opd.t 41]) (some (40, true))) (Sch.sil (EOper.mk (some 46) (EOp.eqb true (Opd.t 42) (Opd.t
  45)) (some (40, true))) (Sch.sil (EOper.mk (some 47) (EOp.pick (Opd.t 40) (Opd.t 46) (Opd.c (V.bool false))) none) Sch.done))))))))))) (EC.cond (Opd.t 47) (EC.seq
  (EC.ops false [EOper.mk (some 6) (EOp.mv (Opd.c (V.bool false))) none]) EC.ret) EC.skip)
def b4_12 : EC := EC.ops false [EOper.mk (some 49) (EOp.ld true 5 (Opd.t 3)) none, EOper.mk (some 50) (EOp.call (Opd.f 12) [Opd.t 49]) none, EOper.mk (some 48) (EOp.mv
  (Opd.t 50)) none, EOper.mk (some 51) (EOp.ext (Opd.t 48) 0) none, EOper.mk (some 52) (EOp.ext (Opd.t 48) 1) none, EOper.mk (some 8) (EOp.mv (Opd.t 51)) none, EOper.mk
  (some 9) (EOp.mv (Opd.t 52)) none]
def b4_13 : EC := EC.ops false [EOper.mk (some 54) (EOp.ld true 5 (Opd.t 4)) none, EOper.mk (some 55) (EOp.call (Opd.f 12) [Opd.t 54]) none, EOper.mk (some 53) (EOp.mv
  (Opd.t 55)) none, EOper.mk (some 56) (EOp.ext (Opd.t 53) 0) none, EOper.mk (some 57) (EOp.ext (Opd.t 53) 1) none, EOper.mk (some 10) (EOp.mv (Opd.t 56)) none, EOper.mk
  (some 11) (EOp.mv (Opd.t 57)) none]
def b4_14 : EC := EC.opsX (Sch.sil (EOper.mk (some 58) (EOp.mv (Opd.t 9)) none) (Sch.sil (EOper.mk (some 59) (EOp.bin .neq (Opd.t 58) (Opd.c (V.int .i64 (0)))) none)
  (Sch.sil (EOper.mk (some 60) (EOp.mv (Opd.t 59)) none) (Sch.sil (EOper.mk (some 61) (EOp.mv (Opd.t 11)) (some (60, false))) (Sch.sil (EOper.mk (some 62) (EOp.bin .neq
  (Opd.t 61) (Opd.c (V.int .i64 (0)))) (some (60, false))) (Sch.sil (EOper.mk (some 63) (EOp.pick (Opd.t 60) (Opd.c (V.bool true)) (Opd.t 62)) none) (Sch.sil (EOper.mk
  (some 64) (EOp.mv (Opd.t 63)) none) (Sch.sil (EOper.mk (some 65) (EOp.mv (Opd.t 8)) (some (64, false))) (Sch.sil (EOper.mk (some 66) (EOp.mv (Opd.t 10)) (some (64,
  false))) (Sch.sil (EOper.mk (some 68) (EOp.ld true 5 (Opd.t 3)) (some (64, false))) (Sch.sil (EOper.mk (some 69) (EOp.ld true 5 (Opd.t 4)) (some (64, false))) (Sch.sil
  (EOper.mk (some 70) (EOp.cmp false [true, false, true, true, true] (Opd.t 68) (Opd.t 69)) (some (64, false))) (Sch.op (EOper.mk (some 67) (EOp.call (Opd.f 13) [Opd.t 65,
  Opd.t 66]) (some (64, false))) (Sch.sil (EOper.mk (some 71) (EOp.eqb false (Opd.t 67) (Opd.t 70)) (some (64, false))) (Sch.sil (EOper.mk (some 72) (EOp.pick (Opd.t 64)
  (Opd.c (V.bool true)) (Opd.t 71)) none) (Sch.sil (EOper.mk (some 6) (EOp.mv (Opd.t 72)) none) Sch.done))))))))))))))))
def b4_15 : EC := EC.ret
def r4_15 : EC := b4_15
def r4_14 : EC := EC.seq b4_14 r4_15
def r4_13 : EC := EC.seq b4_13 r4_14
def r4_12 : EC := EC.seq b4_12 r4_13
def r4_11 : EC := EC.seq b4_11 r4_12
def r4_10 : EC := EC.seq b4_10 r4_11
def r4_9 : EC := EC.seq b4_9 r4_10
def r4_8 : EC := EC.seq b4_8 r4_9
def r4_7 : EC := EC.seq b4_7 r4_8
def r4_6 : EC := EC.seq b4_6 r4_7
def r4_5 : EC := EC.seq b4_5 r4_6
def r4_4 : EC := EC.seq b4_4 r4_5
def r4_3 : EC := EC.seq b4_3 r4_4
def r4_2 : EC := EC.seq b4_2 r4_3
def r4_1 : EC := EC.seq b4_1 r4_2
def r4_0 : EC := EC.seq b4_0 r4_1
def e4 : EFun := EFun.mk 73 [ERes.t 6] r4_0
theorem c4 : cFun Tryd.prog 1 (fun d => d == 2000003 || d == 2000004 || d == 2000007 || d == 2000017 || d == 2000026 || d == 2000027 || d == 2000030 || d == 2000034 || d == 2000037 || d == 2000043 || d == 3000000) Tryd.f4 = some e4 := by kernel_rfl
theorem n4 : (Tryd.f4.name == "runtime.NumGoroutine") = false := by kernel_rfl
/-! 5: septumlaw04.AccessAsks -/
def b5_0 : EC := EC.ops false [EOper.mk (some 1) (EOp.box true 27 (Opd.t 0)) none, EOper.mk (some 2) (EOp.mv (Opd.c (V.bool false))) none]
def b5_1 : EC := EC.ops false [EOper.mk (some 3) (EOp.ld true 5 (Opd.t 1)) none, EOper.mk (some 4) (EOp.call (Opd.f 14) [Opd.t 3]) none, EOper.mk (some 5) (EOp.mv (Opd.t
  4)) none, EOper.mk (some 6) (EOp.call (Opd.f 8) []) (some (5, true)), EOper.mk (some 7) (EOp.pick (Opd.t 5) (Opd.t 6) (Opd.c (V.bool false))) none, EOper.mk (some 2)
  (EOp.mv (Opd.t 7)) none]
def b5_2 : EC := EC.ret
def r5_2 : EC := b5_2
def r5_1 : EC := EC.seq b5_1 r5_2
def r5_0 : EC := EC.seq b5_0 r5_1
def e5 : EFun := EFun.mk 8 [ERes.t 2] r5_0
/-! 6: septumlaw04.AccessEnds -/
def l6_2p0 : EC := EC.seq (EC.ops false [EOper.mk (some 22) (EOp.mv (Opd.t 5)) none, EOper.mk (some 23) (EOp.bin .lss (Opd.t 22) (Opd.c (V.int .u32 (5)))) none]) (EC.cond
  (Opd.t 23) EC.skip (EC.exit 4))
def l6_2p1 : EC := EC.block 5 (EC.seq (EC.opsT [EOper.mk (some 26) (EOp.mv (Opd.t 3)) none, EOper.mk (some 27) (EOp.mv (Opd.t 5)) none, EOper.mk (some 28) (EOp.bin .rem
  (Opd.t 27) (Opd.c (V.int .u32 (2)))) none, EOper.mk (some 29) (EOp.bin .eql (Opd.t 28) (Opd.c (V.int .u32 (1)))) none, EOper.mk (some 30) (EOp.mv (Opd.t 5)) none,
  EOper.mk (some 31) (EOp.bin .add (Opd.c (V.int .u32 (4294967291))) (Opd.t 30)) none, EOper.mk (some 32) (EOp.mv (Opd.t 1)) none, EOper.mk (some 33) (EOp.mv (Opd.t 4))
  none, EOper.mk (some 34) (EOp.bin .quo (Opd.t 33) (Opd.c (V.int .i64 (7)))) none, EOper.mk (some 35) (EOp.ixs 1 (Opd.t 32) (Opd.t 34)) none, EOper.mk (some 36) (EOp.ld
  false 1 (Opd.t 35)) none, EOper.mk (some 37) (EOp.mv (Opd.t 2)) none, EOper.mk (some 38) (EOp.mv (Opd.t 4)) none, EOper.mk (some 39) (EOp.bin .rem (Opd.t 38) (Opd.c
  (V.int .i64 (7)))) none, EOper.mk (some 40) (EOp.ixs 1 (Opd.t 37) (Opd.t 39)) none, EOper.mk (some 41) (EOp.ld false 1 (Opd.t 40)) none, EOper.mk (some 42) (EOp.build
  [V.int .i64 (0), V.bool false, V.int .u32 (0), V.int .i64 (0), V.int .u32 (0)] [(0, 1, Opd.t 26), (1, 1, Opd.t 29), (2, 1, Opd.t 31), (3, 1, Opd.t 36), (4, 1, Opd.t
  41)]) none] [EOper.mk (some 6) (EOp.alloc true 27 [V.int .i64 (0), V.bool false, V.int .u32 (0), V.int .i64 (0), V.int .u32 (0)]) none, EOper.mk none (EOp.st 5 (Opd.t 6)
  (Opd.t 42)) none] []) (EC.seq (EC.ops false [EOper.mk (some 43) (EOp.ld true 5 (Opd.t 6)) none, EOper.mk (some 44) (EOp.call (Opd.f 14) [Opd.t 43]) none, EOper.mk (some
  45) (EOp.un .not (Opd.t 44)) none]) (EC.cond (Opd.t 45) (EC.seq (EC.ops false [EOper.mk (some 0) (EOp.mv (Opd.c (V.bool false))) none]) EC.ret) EC.skip)))
def l6_2p2 : EC := EC.ops false [EOper.mk (some 24) (EOp.mv (Opd.t 5)) none, EOper.mk (some 25) (EOp.bin .add (Opd.t 24) (Opd.c (V.int .u32 (1)))) none, EOper.mk (some 5)
  (EOp.mv (Opd.t 25)) none]
def l6_2r2 : EC := l6_2p2
def l6_2r1 : EC := EC.seq l6_2p1 l6_2r2
def l6_2r0 : EC := EC.seq l6_2p0 l6_2r1
def l6_2 : EC := l6_2r0
def l6_1p0 : EC := EC.seq (EC.ops false [EOper.mk (some 18) (EOp.mv (Opd.t 4)) none, EOper.mk (some 19) (EOp.bin .lss (Opd.t 18) (Opd.c (V.int .i64 (49)))) none]) (EC.cond
  (Opd.t 19) EC.skip (EC.exit 2))
def l6_1p1 : EC := EC.block 3 (EC.seq (EC.ops false [EOper.mk (some 5) (EOp.mv (Opd.c (V.int .u32 (0)))) none]) (EC.block 4 (EC.loop l6_2)))
def l6_1p2 : EC := EC.ops false [EOper.mk (some 20) (EOp.mv (Opd.t 4)) none, EOper.mk (some 21) (EOp.bin .add (Opd.t 20) (Opd.c (V.int .i64 (1)))) none, EOper.mk (some 4)
  (EOp.mv (Opd.t 21)) none]
def l6_1r2 : EC := l6_1p2
def l6_1r1 : EC := EC.seq l6_1p1 l6_1r2
def l6_1r0 : EC := EC.seq l6_1p0 l6_1r1
def l6_1 : EC := l6_1r0
def l6_0p0 : EC := EC.seq (EC.ops false [EOper.mk (some 14) (EOp.mv (Opd.t 3)) none, EOper.mk (some 15) (EOp.bin .lss (Opd.t 14) (Opd.c (V.int .i64 (10)))) none]) (EC.cond
  (Opd.t 15) EC.skip (EC.exit 0))
def l6_0p1 : EC := EC.block 1 (EC.seq (EC.ops false [EOper.mk (some 4) (EOp.mv (Opd.c (V.int .i64 (0)))) none]) (EC.block 2 (EC.loop l6_1)))
def l6_0p2 : EC := EC.ops false [EOper.mk (some 16) (EOp.mv (Opd.t 3)) none, EOper.mk (some 17) (EOp.bin .add (Opd.t 16) (Opd.c (V.int .i64 (1)))) none, EOper.mk (some 3)
  (EOp.mv (Opd.t 17)) none]
def l6_0r2 : EC := l6_0p2
def l6_0r1 : EC := EC.seq l6_0p1 l6_0r2
def l6_0r0 : EC := EC.seq l6_0p0 l6_0r1
def l6_0 : EC := l6_0r0
def l6_4p0 : EC := EC.seq (EC.ops false [EOper.mk (some 55) (EOp.mv (Opd.t 10)) none, EOper.mk (some 56) (EOp.bin .lss (Opd.t 55) (Opd.c (V.int .i64 (256)))) none])
  (EC.cond (Opd.t 56) EC.skip (EC.exit 8))
def l6_4p1 : EC := EC.block 9 (EC.seq (EC.ops false [EOper.mk (some 59) (EOp.bslice 5 0 [] []) none, EOper.mk (some 60) (EOp.mv (Opd.t 7)) none, EOper.mk (some 61)
  (EOp.app 5 1 1 [V.int .u8 (0)] (Opd.t 59) (Opd.t 60)) none, EOper.mk (some 11) (EOp.mv (Opd.t 61)) none]) (EC.seq (EC.ops false [EOper.mk (some 62) (EOp.mv (Opd.t 11))
  none, EOper.mk (some 63) (EOp.mv (Opd.t 9)) none, EOper.mk (some 64) (EOp.mv (Opd.t 10)) none, EOper.mk (some 65) (EOp.conv .u8 (Opd.t 64)) none, EOper.mk (some 66)
  (EOp.ixs 1 (Opd.t 62) (Opd.t 63)) none, EOper.mk none (EOp.st 1 (Opd.t 66) (Opd.t 65)) none]) (EC.seq (EC.ops false [EOper.mk (some 67) (EOp.mv (Opd.t 11)) none,
  EOper.mk (some 68) (EOp.call (Opd.f 9) [Opd.t 67]) none, EOper.mk (some 69) (EOp.un .not (Opd.t 68)) none]) (EC.cond (Opd.t 69) (EC.seq (EC.ops false [EOper.mk (some 0)
  (EOp.mv (Opd.c (V.bool false))) none]) EC.ret) EC.skip))))
def l6_4p2 : EC := EC.ops false [EOper.mk (some 57) (EOp.mv (Opd.t 10)) none, EOper.mk (some 58) (EOp.bin .add (Opd.t 57) (Opd.c (V.int .i64 (1)))) none, EOper.mk (some
  10) (EOp.mv (Opd.t 58)) none]
def l6_4r2 : EC := l6_4p2
def l6_4r1 : EC := EC.seq l6_4p1 l6_4r2
def l6_4r0 : EC := EC.seq l6_4p0 l6_4r1
def l6_4 : EC := l6_4r0
def l6_3p0 : EC := EC.seq (EC.ops false [EOper.mk (some 51) (EOp.mv (Opd.t 9)) none, EOper.mk (some 52) (EOp.bin .lss (Opd.t 51) (Opd.c (V.int .i64 (12)))) none]) (EC.cond
  (Opd.t 52) EC.skip (EC.exit 6))
def l6_3p1 : EC := EC.block 7 (EC.seq (EC.seq (EC.ops false [EOper.mk (some 10) (EOp.mv (Opd.c (V.int .i64 (0)))) none]) (EC.block 8 (EC.loop l6_4))) (EC.seq (EC.opsX
  (Sch.sil (EOper.mk (some 70) (EOp.mv (Opd.t 7)) none) (Sch.sil (EOper.mk (some 71) (EOp.mv (Opd.t 9)) none) (Sch.sil (EOper.mk (some 72) (EOp.slc 1 (Opd.t 70) none (some
  (Opd.t 71))) none) (Sch.op (EOper.mk (some 73) (EOp.call (Opd.f 9) [Opd.t 72]) none) (Sch.sil (EOper.mk (some 74) (EOp.un .not (Opd.t 73)) none) (Sch.sil (EOper.mk (some
  75) (EOp.mv (Opd.t 74)) none) (Sch.sil (EOper.mk (some 77) (EOp.mv (Opd.t 7)) (some (75, false))) (Sch.sil (EOper.mk (some 79) (EOp.mv (Opd.t 7)) (some (75, false)))
  (Sch.sil (EOper.mk (some 80) (EOp.mv (Opd.t 9)) (some (75, false))) (Sch.sil (EOper.mk (some 81) (EOp.slc 1 (Opd.t 79) none (some (Opd.t 80))) (some (75, false)))
  (Sch.op (EOper.mk (some 76) (EOp.bslice 5 0 [] []) (some (75, false))) (Sch.op (EOper.mk (some 78) (EOp.app 5 1 1 [V.int .u8 (0)] (Opd.t 76) (Opd.t 77)) (some (75,
  false))) (Sch.op (EOper.mk (some 82) (EOp.app 5 1 1 [V.int .u8 (0)] (Opd.t 78) (Opd.t 81)) (some (75, false))) (Sch.op (EOper.mk (some 83) (EOp.call (Opd.f 9) [Opd.t
  82]) (some (75, false))) (Sch.sil (EOper.mk (some 84) (EOp.un .not (Opd.t 83)) (some (75, false))) (Sch.sil (EOper.mk (some 85) (EOp.pick (Opd.t 75) (Opd.c (V.bool
  true)) (Opd.t 84)) none) Sch.done))))))))))))))))) (EC.cond (Opd.t 85) (EC.seq (EC.ops false [EOper.mk (some 0) (EOp.mv (Opd.c (V.bool false))) none]) EC.ret) EC.skip)))
def l6_3p2 : EC := EC.ops false [EOper.mk (some 53) (EOp.mv (Opd.t 9)) none, EOper.mk (some 54) (EOp.bin .add (Opd.t 53) (Opd.c (V.int .i64 (1)))) none, EOper.mk (some 9)
  (EOp.mv (Opd.t 54)) none]
def l6_3r2 : EC := l6_3p2
def l6_3r1 : EC := EC.seq l6_3p1 l6_3r2
def l6_3r0 : EC := EC.seq l6_3p0 l6_3r1
def l6_3 : EC := l6_3r0
def b6_0 : EC := EC.ops false [EOper.mk (some 0) (EOp.mv (Opd.c (V.bool false))) none]
def b6_1 : EC := EC.ops false [EOper.mk (some 12) (EOp.bslice 3 7 [V.int .i64 (0), V.int .i64 (0), V.int .i64 (0), V.int .i64 (0), V.int .i64 (0), V.int .i64 (0), V.int
  .i64 (0)] [(0, 1, Opd.c (V.int .i64 (-1))), (1, 1, Opd.c (V.int .i64 (0))), (2, 1, Opd.c (V.int .i64 (1))), (3, 1, Opd.c (V.int .i64 (2))), (4, 1, Opd.c (V.int .i64
  (3))), (5, 1, Opd.c (V.int .i64 (4))), (6, 1, Opd.c (V.int .i64 (8)))]) none, EOper.mk (some 1) (EOp.mv (Opd.t 12)) none]
def b6_2 : EC := EC.ops false [EOper.mk (some 13) (EOp.bslice 25 7 [V.int .u32 (0), V.int .u32 (0), V.int .u32 (0), V.int .u32 (0), V.int .u32 (0), V.int .u32 (0), V.int
  .u32 (0)] [(0, 1, Opd.c (V.int .u32 (0))), (1, 1, Opd.c (V.int .u32 (1))), (2, 1, Opd.c (V.int .u32 (255))), (3, 1, Opd.c (V.int .u32 (256))), (4, 1, Opd.c (V.int .u32
  (65535))), (5, 1, Opd.c (V.int .u32 (65536))), (6, 1, Opd.c (V.int .u32 (4294967295)))]) none, EOper.mk (some 2) (EOp.mv (Opd.t 13)) none]
def b6_3 : EC := EC.seq (EC.ops false [EOper.mk (some 3) (EOp.mv (Opd.c (V.int .i64 (-1)))) none]) (EC.block 0 (EC.loop l6_0))
def b6_4 : EC := EC.ops false [EOper.mk (some 47) (EOp.call (Opd.f 16) []) none, EOper.mk (some 48) (EOp.call (Opd.f 15) [Opd.t 47]) none, EOper.mk (some 46) (EOp.mv
  (Opd.t 48)) none, EOper.mk (some 49) (EOp.ext (Opd.t 46) 0) none, EOper.mk (some 50) (EOp.ext (Opd.t 46) 1) none, EOper.mk (some 7) (EOp.mv (Opd.t 49)) none, EOper.mk
  (some 8) (EOp.mv (Opd.t 50)) none]
def b6_5 : EC := EC.seq (EC.ops false [EOper.mk (some 9) (EOp.mv (Opd.c (V.int .i64 (0)))) none]) (EC.block 6 (EC.loop l6_3))
def b6_6 : EC := EC.ops false [EOper.mk (some 86) (EOp.call (Opd.f 8) []) none, EOper.mk (some 0) (EOp.mv (Opd.t 86)) none]
def b6_7 : EC := EC.ret
def r6_7 : EC := b6_7
def r6_6 : EC := EC.seq b6_6 r6_7
def r6_5 : EC := EC.seq b6_5 r6_6
def r6_4 : EC := EC.seq b6_4 r6_5
def r6_3 : EC := EC.seq b6_3 r6_4
def r6_2 : EC := EC.seq b6_2 r6_3
def r6_1 : EC := EC.seq b6_1 r6_2
def r6_0 : EC := EC.seq b6_0 r6_1
def e6 : EFun := EFun.mk 87 [ERes.t 0] r6_0
theorem c6 : cFun Tryd.prog 1 (fun d => d == 2000006 || d == 3000000) Tryd.f6 = some e6 := by kernel_rfl
theorem x6 : Tryd.prog.funcs[6]? = some Tryd.f6 := by kernel_rfl
theorem n6 : (Tryd.f6.name == "runtime.NumGoroutine") = false := by kernel_rfl
/-! 7: septumlaw04.AccessBack -/
/-! 8: septumlaw04.awake -/
def b8_0 : EC := EC.ops false [EOper.mk (some 0) (EOp.mv (Opd.c (V.bool false))) none]
def b8_1 : EC := EC.ops false [EOper.mk (some 6) (EOp.call (Opd.f 16) []) none, EOper.mk (some 7) (EOp.call (Opd.f 12) [Opd.t 6]) none, EOper.mk (some 5) (EOp.mv (Opd.t
  7)) none, EOper.mk (some 8) (EOp.ext (Opd.t 5) 0) none, EOper.mk (some 9) (EOp.ext (Opd.t 5) 1) none, EOper.mk (some 1) (EOp.mv (Opd.t 8)) none, EOper.mk (some 2)
  (EOp.mv (Opd.t 9)) none]
def b8_2 : EC := EC.ops false [EOper.mk (some 11) (EOp.mv (Opd.t 1)) none, EOper.mk (some 12) (EOp.call (Opd.f 17) [Opd.t 11]) none, EOper.mk (some 10) (EOp.mv (Opd.t 12))
  none, EOper.mk (some 13) (EOp.ext (Opd.t 10) 0) none, EOper.mk (some 14) (EOp.ext (Opd.t 10) 1) none, EOper.mk (some 3) (EOp.alloc true 27 [V.int .i64 (0), V.bool false,
  V.int .u32 (0), V.int .i64 (0), V.int .u32 (0)]) none, EOper.mk none (EOp.st 5 (Opd.t 3) (Opd.t 13)) none, EOper.mk (some 4) (EOp.mv (Opd.t 14)) none]
def b8_3 : EC := EC.opsX (Sch.sil (EOper.mk (some 15) (EOp.mv (Opd.t 2)) none) (Sch.sil (EOper.mk (some 16) (EOp.bin .eql (Opd.t 15) (Opd.c (V.int .i64 (0)))) none)
  (Sch.sil (EOper.mk (some 17) (EOp.mv (Opd.t 16)) none) (Sch.sil (EOper.mk (some 18) (EOp.mv (Opd.t 4)) (some (17, true))) (Sch.sil (EOper.mk (some 19) (EOp.bin .eql
  (Opd.t 18) (Opd.c (V.int .i64 (0)))) (some (17, true))) (Sch.sil (EOper.mk (some 20) (EOp.pick (Opd.t 17) (Opd.t 19) (Opd.c (V.bool false))) none) (Sch.sil (EOper.mk
  (some 21) (EOp.mv (Opd.t 20)) none) (Sch.sil (EOper.mk (some 22) (EOp.ld true 5 (Opd.t 3)) (some (21, true))) (Sch.op (EOper.mk (some 23) (EOp.call (Opd.f 16) []) (some
  (21, true))) (Sch.sil (EOper.mk (some 24) (EOp.cmp false [true, false, true, true, true] (Opd.t 22) (Opd.t 23)) (some (21, true))) (Sch.sil (EOper.mk (some 25) (EOp.pick
  (Opd.t 21) (Opd.t 24) (Opd.c (V.bool false))) none) (Sch.sil (EOper.mk (some 26) (EOp.mv (Opd.t 25)) none) (Sch.sil (EOper.mk (some 27) (EOp.mv (Opd.t 1)) (some (26,
  true))) (Sch.op (EOper.mk (some 28) (EOp.bslice 5 12 [V.int .u8 (0), V.int .u8 (0), V.int .u8 (0), V.int .u8 (0), V.int .u8 (0), V.int .u8 (0), V.int .u8 (0), V.int .u8
  (0), V.int .u8 (0), V.int .u8 (0), V.int .u8 (0), V.int .u8 (0)] [(0, 1, Opd.c (V.int .u8 (3))), (1, 1, Opd.c (V.int .u8 (3))), (2, 1, Opd.c (V.int .u8 (0))), (3, 1,
  Opd.c (V.int .u8 (0))), (4, 1, Opd.c (V.int .u8 (0))), (5, 1, Opd.c (V.int .u8 (1))), (6, 1, Opd.c (V.int .u8 (0))), (7, 1, Opd.c (V.int .u8 (0))), (8, 1, Opd.c (V.int
  .u8 (52))), (9, 1, Opd.c (V.int .u8 (18))), (10, 1, Opd.c (V.int .u8 (0))), (11, 1, Opd.c (V.int .u8 (0)))]) (some (26, true))) (Sch.op (EOper.mk (some 29) (EOp.call
  (Opd.f 13) [Opd.t 27, Opd.t 28]) (some (26, true))) (Sch.sil (EOper.mk (some 30) (EOp.pick (Opd.t 26) (Opd.t 29) (Opd.c (V.bool false))) none) (Sch.sil (EOper.mk (some
  31) (EOp.mv (Opd.t 30)) none) (Sch.sil (EOper.mk (some 32) (EOp.build [V.int .i64 (0), V.bool false, V.int .u32 (0), V.int .i64 (0), V.int .u32 (0)] [(3, 1, Opd.c (V.int
  .i64 (4))), (4, 1, Opd.c (V.int .u32 (1)))]) (some (31, true))) (Sch.op (EOper.mk (some 33) (EOp.call (Opd.f 11) [Opd.t 32]) (some (31, true))) (Sch.sil (EOper.mk (some
  34) (EOp.un .not (Opd.t 33)) (some (31, true))) (Sch.sil (EOper.mk (some 35) (EOp.pick (Opd.t 31) (Opd.t 34) (Opd.c (V.bool false))) none) (Sch.sil (EOper.mk (some 36)
  (EOp.mv (Opd.t 35)) none) (Sch.sil (EOper.mk (some 37) (EOp.build [V.int .i64 (0), V.bool false, V.int .u32 (0), V.int .i64 (0), V.int .u32 (0)] [(3, 1, Opd.c (V.int
  .i64 (4)))]) (some (36, true))) (Sch.op (EOper.mk (some 38) (EOp.call (Opd.f 11) [Opd.t 37]) (some (36, true))) (Sch.sil (EOper.mk (some 39) (EOp.pick (Opd.t 36) (Opd.t
  38) (Opd.c (V.bool false))) none) (Sch.sil (EOper.mk (some 40) (EOp.mv (Opd.t 39)) none) (Sch.sil (EOper.mk (some 42) (EOp.build [V.int .u32 (0), V.int .i64 (0)] [(1, 1,
  Opd.c (V.int .i64 (10)))]) (some (40, true))) (Sch.op (EOper.mk (some 41) (EOp.call (Opd.f 20) []) (some (40, true))) (Sch.sil (EOper.mk (some 43) (EOp.cmp false [true,
  true] (Opd.t 41) (Opd.t 42)) (some (40, true))) (Sch.sil (EOper.mk (some 44) (EOp.pick (Opd.t 40) (Opd.t 43) (Opd.c (V.bool false))) none) (Sch.sil (EOper.mk (some 45)
  (EOp.mv (Opd.t 44)) none) (Sch.sil (EOper.mk (some 47) (EOp.build [V.int .u32 (0), V.int .i64 (0)] [(0, 1, Opd.c (V.int .u32 (7)))]) (some (45, true))) (Sch.op (EOper.mk
  (some 46) (EOp.call (Opd.f 21) [Opd.c (V.int .u32 (7))]) (some (45, true))) (Sch.sil (EOper.mk (some 48) (EOp.cmp false [true, true] (Opd.t 46) (Opd.t 47)) (some (45,
  true))) (Sch.sil (EOper.mk (some 49) (EOp.pick (Opd.t 45) (Opd.t 48) (Opd.c (V.bool false))) none) (Sch.sil (EOper.mk (some 0) (EOp.mv (Opd.t 49)) none)
  Sch.done))))))))))))))))))))))))))))))))))))
def b8_4 : EC := EC.ret
def r8_4 : EC := b8_4
def r8_3 : EC := EC.seq b8_3 r8_4
def r8_2 : EC := EC.seq b8_2 r8_3
def r8_1 : EC := EC.seq b8_1 r8_2
def r8_0 : EC := EC.seq b8_0 r8_1
def e8 : EFun := EFun.mk 50 [ERes.t 0] r8_0
theorem c8 : cFun Tryd.prog 1 (fun d => d == 2000003 || d == 3000000) Tryd.f8 = some e8 := by kernel_rfl
theorem x8 : Tryd.prog.funcs[8]? = some Tryd.f8 := by kernel_rfl
theorem n8 : (Tryd.f8.name == "runtime.NumGoroutine") = false := by kernel_rfl
/-! 9: septumlaw04.reads -/
def b9_0 : EC := EC.ops false [EOper.mk (some 2) (EOp.mv (Opd.c (V.bool false))) none]
def b9_1 : EC := EC.ops false [EOper.mk (some 8) (EOp.mv (Opd.t 0)) none, EOper.mk (some 9) (EOp.call (Opd.f 22) [Opd.t 8]) none, EOper.mk (some 3) (EOp.mv (Opd.t 9))
  none]
def b9_2 : EC := EC.ops false [EOper.mk (some 11) (EOp.mv (Opd.t 3)) none, EOper.mk (some 12) (EOp.call (Opd.f 17) [Opd.t 11]) none, EOper.mk (some 10) (EOp.mv (Opd.t 12))
  none, EOper.mk (some 13) (EOp.ext (Opd.t 10) 0) none, EOper.mk (some 14) (EOp.ext (Opd.t 10) 1) none, EOper.mk (some 4) (EOp.alloc true 27 [V.int .i64 (0), V.bool false,
  V.int .u32 (0), V.int .i64 (0), V.int .u32 (0)]) none, EOper.mk none (EOp.st 5 (Opd.t 4) (Opd.t 13)) none, EOper.mk (some 5) (EOp.mv (Opd.t 14)) none]
def b9_3 : EC := EC.ops false [EOper.mk (some 16) (EOp.mv (Opd.t 0)) none, EOper.mk (some 17) (EOp.call (Opd.f 23) [Opd.t 16]) none, EOper.mk (some 15) (EOp.mv (Opd.t 17))
  none, EOper.mk (some 18) (EOp.ext (Opd.t 15) 0) none, EOper.mk (some 19) (EOp.ext (Opd.t 15) 1) none, EOper.mk (some 6) (EOp.alloc true 27 [V.int .i64 (0), V.bool false,
  V.int .u32 (0), V.int .i64 (0), V.int .u32 (0)]) none, EOper.mk none (EOp.st 5 (Opd.t 6) (Opd.t 18)) none, EOper.mk (some 7) (EOp.mv (Opd.t 19)) none]
def b9_4 : EC := EC.ops false [EOper.mk (some 20) (EOp.ld true 5 (Opd.t 4)) none, EOper.mk (some 21) (EOp.ld true 5 (Opd.t 6)) none, EOper.mk (some 22) (EOp.cmp false
  [true, false, true, true, true] (Opd.t 20) (Opd.t 21)) none, EOper.mk (some 23) (EOp.mv (Opd.t 22)) none, EOper.mk (some 24) (EOp.mv (Opd.t 5)) (some (23, true)),
  EOper.mk (some 25) (EOp.mv (Opd.t 7)) (some (23, true)), EOper.mk (some 26) (EOp.bin .eql (Opd.t 24) (Opd.t 25)) (some (23, true)), EOper.mk (some 27) (EOp.pick (Opd.t
  23) (Opd.t 26) (Opd.c (V.bool false))) none, EOper.mk (some 28) (EOp.mv (Opd.t 27)) none, EOper.mk (some 29) (EOp.mv (Opd.t 3)) (some (28, true)), EOper.mk (some 30)
  (EOp.mv (Opd.t 0)) (some (28, true)), EOper.mk (some 31) (EOp.call (Opd.f 24) [Opd.t 29, Opd.t 30]) (some (28, true)), EOper.mk (some 32) (EOp.pick (Opd.t 28) (Opd.t 31)
  (Opd.c (V.bool false))) none, EOper.mk (some 2) (EOp.mv (Opd.t 32)) none]
def b9_5 : EC := EC.ret
def r9_5 : EC := b9_5
def r9_4 : EC := EC.seq b9_4 r9_5
def r9_3 : EC := EC.seq b9_3 r9_4
def r9_2 : EC := EC.seq b9_2 r9_3
def r9_1 : EC := EC.seq b9_1 r9_2
def r9_0 : EC := EC.seq b9_0 r9_1
def e9 : EFun := EFun.mk 33 [ERes.t 2] r9_0
theorem c9 : cFun Tryd.prog 1 (fun d => d == 2000004 || d == 2000006 || d == 3000000) Tryd.f9 = some e9 := by kernel_rfl
theorem x9 : Tryd.prog.funcs[9]? = some Tryd.f9 := by kernel_rfl
theorem n9 : (Tryd.f9.name == "runtime.NumGoroutine") = false := by kernel_rfl
/-! 10: septumkit.Pick -/
/-! 11: access.Right -/
def b11_0 : EC := EC.ops false [EOper.mk (some 1) (EOp.box true 27 (Opd.t 0)) none, EOper.mk (some 2) (EOp.mv (Opd.c (V.bool false))) none]
def b11_1 : EC := EC.ops false [EOper.mk (some 3) (EOp.ld true 5 (Opd.t 1)) none, EOper.mk (some 4) (EOp.build [V.int .i64 (0), V.bool false, V.int .u32 (0), V.int .i64
  (0), V.int .u32 (0)] [(0, 5, Opd.t 3)]) none, EOper.mk (some 5) (EOp.call (Opd.f 25) [Opd.t 4]) none, EOper.mk (some 2) (EOp.mv (Opd.t 5)) none]
def b11_2 : EC := EC.ret
def r11_2 : EC := b11_2
def r11_1 : EC := EC.seq b11_1 r11_2
def r11_0 : EC := EC.seq b11_0 r11_1
def e11 : EFun := EFun.mk 6 [ERes.t 2] r11_0
theorem c11 : cFun Tryd.prog 1 (fun _ => false) Tryd.f11 = some e11 := by kernel_rfl
theorem x11 : Tryd.prog.funcs[11]? = some Tryd.f11 := by kernel_rfl
theorem n11 : (Tryd.f11.name == "runtime.NumGoroutine") = false := by kernel_rfl
/-! 12: access.Encode -/
def b12_0 : EC := EC.ops false [EOper.mk (some 1) (EOp.box true 27 (Opd.t 0)) none, EOper.mk (some 2) (EOp.mv (Opd.c (V.sl none 0 0))) none, EOper.mk (some 3) (EOp.mv
  (Opd.c (V.int .i64 (0)))) none]
def b12_1 : EC := EC.seq (EC.ops false [EOper.mk (some 4) (EOp.ld true 5 (Opd.t 1)) none, EOper.mk (some 5) (EOp.call (Opd.f 11) [Opd.t 4]) none, EOper.mk (some 6) (EOp.un
  .not (Opd.t 5)) none]) (EC.cond (Opd.t 6) (EC.seq (EC.ops false [EOper.mk (some 2) (EOp.mv (Opd.c (V.sl none 0 0))) none, EOper.mk (some 3) (EOp.mv (Opd.c (V.int .i64
  (2)))) none]) EC.ret) EC.skip)
def b12_2 : EC := EC.opsX (Sch.sil (EOper.mk (some 7) (EOp.fa 0 (Opd.t 1)) none) (Sch.sil (EOper.mk (some 8) (EOp.ld false 1 (Opd.t 7)) none) (Sch.sil (EOper.mk (some 9)
  (EOp.conv .u8 (Opd.t 8)) none) (Sch.sil (EOper.mk (some 10) (EOp.ld true 5 (Opd.t 1)) none) (Sch.sil (EOper.mk (some 11) (EOp.build [V.int .i64 (0), V.bool false, V.int
  .u32 (0), V.int .i64 (0), V.int .u32 (0)] [(0, 5, Opd.t 10)]) none) (Sch.sil (EOper.mk (some 14) (EOp.fa 2 (Opd.t 1)) none) (Sch.sil (EOper.mk (some 15) (EOp.ld false 1
  (Opd.t 14)) none) (Sch.sil (EOper.mk (some 17) (EOp.fa 4 (Opd.t 1)) none) (Sch.sil (EOper.mk (some 18) (EOp.ld false 1 (Opd.t 17)) none) (Sch.op (EOper.mk (some 12)
  (EOp.call (Opd.f 27) [Opd.t 11]) none) (Sch.both (Sch.op (EOper.mk (some 13) (EOp.bslice 5 4 [V.int .u8 (0), V.int .u8 (0), V.int .u8 (0), V.int .u8 (0)] [(0, 1, Opd.t
  9), (1, 1, Opd.t 12), (2, 1, Opd.c (V.int .u8 (0))), (3, 1, Opd.c (V.int .u8 (0)))]) none) (Sch.op (EOper.mk (some 16) (EOp.call (Opd.f 28) [Opd.t 15, Opd.c (V.int .i64
  (4))]) none) (Sch.op (EOper.mk (some 19) (EOp.call (Opd.f 28) [Opd.t 18, Opd.c (V.int .i64 (4))]) none) (Sch.op (EOper.mk (some 20) (EOp.bslice 22 3 [V.sl none 0 0, V.sl
  none 0 0, V.sl none 0 0] [(0, 1, Opd.t 13), (1, 1, Opd.t 16), (2, 1, Opd.t 19)]) none) (Sch.op (EOper.mk (some 21) (EOp.call (Opd.f 26) [Opd.t 20]) none) (Sch.sil
  (EOper.mk (some 2) (EOp.mv (Opd.t 21)) none) (Sch.sil (EOper.mk (some 3) (EOp.mv (Opd.c (V.int .i64 (0)))) none) Sch.done))))))) (Sch.op (EOper.mk (some 16) (EOp.call
  (Opd.f 28) [Opd.t 15, Opd.c (V.int .i64 (4))]) none) (Sch.both (Sch.op (EOper.mk (some 13) (EOp.bslice 5 4 [V.int .u8 (0), V.int .u8 (0), V.int .u8 (0), V.int .u8 (0)]
  [(0, 1, Opd.t 9), (1, 1, Opd.t 12), (2, 1, Opd.c (V.int .u8 (0))), (3, 1, Opd.c (V.int .u8 (0)))]) none) (Sch.op (EOper.mk (some 19) (EOp.call (Opd.f 28) [Opd.t 18,
  Opd.c (V.int .i64 (4))]) none) (Sch.op (EOper.mk (some 20) (EOp.bslice 22 3 [V.sl none 0 0, V.sl none 0 0, V.sl none 0 0] [(0, 1, Opd.t 13), (1, 1, Opd.t 16), (2, 1,
  Opd.t 19)]) none) (Sch.op (EOper.mk (some 21) (EOp.call (Opd.f 26) [Opd.t 20]) none) (Sch.sil (EOper.mk (some 2) (EOp.mv (Opd.t 21)) none) (Sch.sil (EOper.mk (some 3)
  (EOp.mv (Opd.c (V.int .i64 (0)))) none) Sch.done)))))) (Sch.op (EOper.mk (some 19) (EOp.call (Opd.f 28) [Opd.t 18, Opd.c (V.int .i64 (4))]) none) (Sch.op (EOper.mk (some
  13) (EOp.bslice 5 4 [V.int .u8 (0), V.int .u8 (0), V.int .u8 (0), V.int .u8 (0)] [(0, 1, Opd.t 9), (1, 1, Opd.t 12), (2, 1, Opd.c (V.int .u8 (0))), (3, 1, Opd.c (V.int
  .u8 (0)))]) none) (Sch.op (EOper.mk (some 20) (EOp.bslice 22 3 [V.sl none 0 0, V.sl none 0 0, V.sl none 0 0] [(0, 1, Opd.t 13), (1, 1, Opd.t 16), (2, 1, Opd.t 19)])
  none) (Sch.op (EOper.mk (some 21) (EOp.call (Opd.f 26) [Opd.t 20]) none) (Sch.sil (EOper.mk (some 2) (EOp.mv (Opd.t 21)) none) (Sch.sil (EOper.mk (some 3) (EOp.mv (Opd.c
  (V.int .i64 (0)))) none) Sch.done)))))))))))))))))))
def b12_3 : EC := EC.ret
def r12_3 : EC := b12_3
def r12_2 : EC := EC.seq b12_2 r12_3
def r12_1 : EC := EC.seq b12_1 r12_2
def r12_0 : EC := EC.seq b12_0 r12_1
def e12 : EFun := EFun.mk 22 [ERes.t 2, ERes.t 3] r12_0
theorem c12 : cFun Tryd.prog 1 (fun d => d == 2000001 || d == 2000007 || d == 2000014 || d == 2000017 || d == 3000000) Tryd.f12 = some e12 := by kernel_rfl
theorem x12 : Tryd.prog.funcs[12]? = some Tryd.f12 := by kernel_rfl
theorem n12 : (Tryd.f12.name == "runtime.NumGoroutine") = false := by kernel_rfl
/-! 13: septumkit.SameBytes -/
def l13_0p0 : EC := EC.seq (EC.ops false [EOper.mk (some 11) (EOp.mv (Opd.t 5)) none, EOper.mk (some 12) (EOp.mv (Opd.t 0)) none, EOper.mk (some 13) (EOp.len false (Opd.t
  12)) none, EOper.mk (some 14) (EOp.bin .lss (Opd.t 11) (Opd.t 13)) none]) (EC.cond (Opd.t 14) EC.skip (EC.exit 0))
def l13_0p1 : EC := EC.block 1 (EC.seq (EC.ops true [EOper.mk (some 17) (EOp.mv (Opd.t 0)) none, EOper.mk (some 18) (EOp.mv (Opd.t 5)) none, EOper.mk (some 19) (EOp.ixs 1
  (Opd.t 17) (Opd.t 18)) none, EOper.mk (some 20) (EOp.ld false 1 (Opd.t 19)) none, EOper.mk (some 21) (EOp.mv (Opd.t 1)) none, EOper.mk (some 22) (EOp.mv (Opd.t 5)) none,
  EOper.mk (some 23) (EOp.ixs 1 (Opd.t 21) (Opd.t 22)) none, EOper.mk (some 24) (EOp.ld false 1 (Opd.t 23)) none, EOper.mk (some 25) (EOp.bin .neq (Opd.t 20) (Opd.t 24))
  none]) (EC.cond (Opd.t 25) (EC.seq (EC.ops false [EOper.mk (some 4) (EOp.mv (Opd.c (V.bool false))) none]) EC.ret) EC.skip))
def l13_0p2 : EC := EC.ops false [EOper.mk (some 15) (EOp.mv (Opd.t 5)) none, EOper.mk (some 16) (EOp.bin .add (Opd.t 15) (Opd.c (V.int .i64 (1)))) none, EOper.mk (some 5)
  (EOp.mv (Opd.t 16)) none]
def l13_0r2 : EC := l13_0p2
def l13_0r1 : EC := EC.seq l13_0p1 l13_0r2
def l13_0r0 : EC := EC.seq l13_0p0 l13_0r1
def l13_0 : EC := l13_0r0
def b13_0 : EC := EC.ops false [EOper.mk (some 4) (EOp.mv (Opd.c (V.bool false))) none]
def b13_1 : EC := EC.seq (EC.ops false [EOper.mk (some 6) (EOp.mv (Opd.t 0)) none, EOper.mk (some 7) (EOp.len false (Opd.t 6)) none, EOper.mk (some 8) (EOp.mv (Opd.t 1))
  none, EOper.mk (some 9) (EOp.len false (Opd.t 8)) none, EOper.mk (some 10) (EOp.bin .neq (Opd.t 7) (Opd.t 9)) none]) (EC.cond (Opd.t 10) (EC.seq (EC.ops false [EOper.mk
  (some 4) (EOp.mv (Opd.c (V.bool false))) none]) EC.ret) EC.skip)
def b13_2 : EC := EC.seq (EC.ops false [EOper.mk (some 5) (EOp.mv (Opd.c (V.int .i64 (0)))) none]) (EC.block 0 (EC.loop l13_0))
def b13_3 : EC := EC.ops false [EOper.mk (some 4) (EOp.mv (Opd.c (V.bool true))) none]
def b13_4 : EC := EC.ret
def r13_4 : EC := b13_4
def r13_3 : EC := EC.seq b13_3 r13_4
def r13_2 : EC := EC.seq b13_2 r13_3
def r13_1 : EC := EC.seq b13_1 r13_2
def r13_0 : EC := EC.seq b13_0 r13_1
def e13 : EFun := EFun.mk 26 [ERes.t 4] r13_0
theorem c13 : cFun Tryd.prog 1 (fun _ => false) Tryd.f13 = some e13 := by kernel_rfl
theorem x13 : Tryd.prog.funcs[13]? = some Tryd.f13 := by kernel_rfl
theorem n13 : (Tryd.f13.name == "runtime.NumGoroutine") = false := by kernel_rfl
/-! 14: septumlaw04.asks -/
def b14_0 : EC := EC.ops false [EOper.mk (some 1) (EOp.box true 27 (Opd.t 0)) none, EOper.mk (some 2) (EOp.mv (Opd.c (V.bool false))) none]
def b14_1 : EC := EC.ops false [EOper.mk (some 14) (EOp.ld true 5 (Opd.t 1)) none, EOper.mk (some 15) (EOp.call (Opd.f 18) [Opd.t 14]) none, EOper.mk (some 13) (EOp.mv
  (Opd.t 15)) none, EOper.mk (some 16) (EOp.ext (Opd.t 13) 0) none, EOper.mk (some 17) (EOp.ext (Opd.t 13) 1) none, EOper.mk (some 3) (EOp.alloc true 41 [V.int .u32 (0),
  V.int .u32 (0)]) none, EOper.mk none (EOp.st 2 (Opd.t 3) (Opd.t 16)) none, EOper.mk (some 4) (EOp.mv (Opd.t 17)) none]
def b14_2 : EC := EC.ops false [EOper.mk (some 19) (EOp.ld true 5 (Opd.t 1)) none, EOper.mk (some 20) (EOp.call (Opd.f 29) [Opd.t 19]) none, EOper.mk (some 18) (EOp.mv
  (Opd.t 20)) none, EOper.mk (some 21) (EOp.ext (Opd.t 18) 0) none, EOper.mk (some 22) (EOp.ext (Opd.t 18) 1) none, EOper.mk (some 5) (EOp.alloc true 41 [V.int .u32 (0),
  V.int .u32 (0)]) none, EOper.mk none (EOp.st 2 (Opd.t 5) (Opd.t 21)) none, EOper.mk (some 6) (EOp.mv (Opd.t 22)) none]
def b14_3 : EC := EC.ops false [EOper.mk (some 24) (EOp.ld true 5 (Opd.t 1)) none, EOper.mk (some 25) (EOp.call (Opd.f 12) [Opd.t 24]) none, EOper.mk (some 23) (EOp.mv
  (Opd.t 25)) none, EOper.mk (some 26) (EOp.ext (Opd.t 23) 0) none, EOper.mk (some 27) (EOp.ext (Opd.t 23) 1) none, EOper.mk (some 7) (EOp.mv (Opd.t 26)) none, EOper.mk
  (some 8) (EOp.mv (Opd.t 27)) none]
def b14_4 : EC := EC.ops false [EOper.mk (some 29) (EOp.ld true 5 (Opd.t 1)) none, EOper.mk (some 30) (EOp.call (Opd.f 15) [Opd.t 29]) none, EOper.mk (some 28) (EOp.mv
  (Opd.t 30)) none, EOper.mk (some 31) (EOp.ext (Opd.t 28) 0) none, EOper.mk (some 32) (EOp.ext (Opd.t 28) 1) none, EOper.mk (some 9) (EOp.mv (Opd.t 31)) none, EOper.mk
  (some 10) (EOp.mv (Opd.t 32)) none]
def b14_5 : EC := EC.ops false [EOper.mk (some 34) (EOp.ld true 5 (Opd.t 1)) none, EOper.mk (some 35) (EOp.call (Opd.f 12) [Opd.t 34]) none, EOper.mk (some 33) (EOp.mv
  (Opd.t 35)) none, EOper.mk (some 36) (EOp.ext (Opd.t 33) 0) none, EOper.mk (some 37) (EOp.ext (Opd.t 33) 1) none, EOper.mk (some 11) (EOp.mv (Opd.t 36)) none, EOper.mk
  (some 12) (EOp.mv (Opd.t 37)) none]
def b14_6 : EC := EC.opsX (Sch.sil (EOper.mk (some 38) (EOp.ld true 5 (Opd.t 1)) none) (Sch.sil (EOper.mk (some 40) (EOp.ld true 5 (Opd.t 1)) none) (Sch.op (EOper.mk (some
  39) (EOp.call (Opd.f 11) [Opd.t 38]) none) (Sch.op (EOper.mk (some 41) (EOp.call (Opd.f 30) [Opd.t 40]) none) (Sch.sil (EOper.mk (some 42) (EOp.eqb false (Opd.t 39)
  (Opd.t 41)) none) (Sch.sil (EOper.mk (some 43) (EOp.mv (Opd.t 42)) none) (Sch.sil (EOper.mk (some 44) (EOp.ld true 2 (Opd.t 3)) (some (43, true))) (Sch.sil (EOper.mk
  (some 45) (EOp.ld true 2 (Opd.t 5)) (some (43, true))) (Sch.sil (EOper.mk (some 46) (EOp.cmp false [true, true] (Opd.t 44) (Opd.t 45)) (some (43, true))) (Sch.sil
  (EOper.mk (some 47) (EOp.pick (Opd.t 43) (Opd.t 46) (Opd.c (V.bool false))) none) (Sch.sil (EOper.mk (some 48) (EOp.mv (Opd.t 47)) none) (Sch.sil (EOper.mk (some 49)
  (EOp.mv (Opd.t 4)) (some (48, true))) (Sch.sil (EOper.mk (some 50) (EOp.mv (Opd.t 6)) (some (48, true))) (Sch.sil (EOper.mk (some 51) (EOp.eqb false (Opd.t 49) (Opd.t
  50)) (some (48, true))) (Sch.sil (EOper.mk (some 52) (EOp.pick (Opd.t 48) (Opd.t 51) (Opd.c (V.bool false))) none) (Sch.sil (EOper.mk (some 53) (EOp.mv (Opd.t 52)) none)
  (Sch.sil (EOper.mk (some 54) (EOp.mv (Opd.t 8)) (some (53, true))) (Sch.sil (EOper.mk (some 55) (EOp.mv (Opd.t 10)) (some (53, true))) (Sch.sil (EOper.mk (some 56)
  (EOp.bin .eql (Opd.t 54) (Opd.t 55)) (some (53, true))) (Sch.sil (EOper.mk (some 57) (EOp.pick (Opd.t 53) (Opd.t 56) (Opd.c (V.bool false))) none) (Sch.sil (EOper.mk
  (some 58) (EOp.mv (Opd.t 57)) none) (Sch.sil (EOper.mk (some 59) (EOp.mv (Opd.t 7)) (some (58, true))) (Sch.sil (EOper.mk (some 60) (EOp.mv (Opd.t 9)) (some (58, true)))
  (Sch.op (EOper.mk (some 61) (EOp.call (Opd.f 13) [Opd.t 59, Opd.t 60]) (some (58, true))) (Sch.sil (EOper.mk (some 62) (EOp.pick (Opd.t 58) (Opd.t 61) (Opd.c (V.bool
  false))) none) (Sch.sil (EOper.mk (some 63) (EOp.mv (Opd.t 62)) none) (Sch.sil (EOper.mk (some 64) (EOp.mv (Opd.t 7)) (some (63, true))) (Sch.sil (EOper.mk (some 65)
  (EOp.mv (Opd.t 11)) (some (63, true))) (Sch.op (EOper.mk (some 66) (EOp.bslice 22 2 [V.sl none 0 0, V.sl none 0 0] [(0, 1, Opd.t 64), (1, 1, Opd.t 65)]) (some (63,
  true))) (Sch.op (EOper.mk (some 67) (EOp.call (Opd.f 31) [Opd.t 66]) (some (63, true))) (Sch.sil (EOper.mk (some 68) (EOp.pick (Opd.t 63) (Opd.t 67) (Opd.c (V.bool
  false))) none) (Sch.sil (EOper.mk (some 2) (EOp.mv (Opd.t 68)) none) Sch.done))))))))))))))))))))))))))))))))
def b14_7 : EC := EC.ret
def r14_7 : EC := b14_7
def r14_6 : EC := EC.seq b14_6 r14_7
def r14_5 : EC := EC.seq b14_5 r14_6
def r14_4 : EC := EC.seq b14_4 r14_5
def r14_3 : EC := EC.seq b14_3 r14_4
def r14_2 : EC := EC.seq b14_2 r14_3
def r14_1 : EC := EC.seq b14_1 r14_2
def r14_0 : EC := EC.seq b14_0 r14_1
def e14 : EFun := EFun.mk 69 [ERes.t 2] r14_0
theorem c14 : cFun Tryd.prog 1 (fun d => d == 2000001 || d == 2000003 || d == 2000005 || d == 3000000) Tryd.f14 = some e14 := by kernel_rfl
theorem x14 : Tryd.prog.funcs[14]? = some Tryd.f14 := by kernel_rfl
theorem n14 : (Tryd.f14.name == "runtime.NumGoroutine") = false := by kernel_rfl
/-! 15: septumref04.Encode -/
def b15_0 : EC := EC.ops false [EOper.mk (some 1) (EOp.box true 27 (Opd.t 0)) none, EOper.mk (some 2) (EOp.mv (Opd.c (V.sl none 0 0))) none, EOper.mk (some 3) (EOp.mv
  (Opd.c (V.int .i64 (0)))) none]
def b15_1 : EC := EC.seq (EC.ops false [EOper.mk (some 6) (EOp.ld true 5 (Opd.t 1)) none, EOper.mk (some 7) (EOp.call (Opd.f 30) [Opd.t 6]) none, EOper.mk (some 8) (EOp.un
  .not (Opd.t 7)) none]) (EC.cond (Opd.t 8) (EC.seq (EC.ops false [EOper.mk (some 2) (EOp.mv (Opd.c (V.sl none 0 0))) none, EOper.mk (some 3) (EOp.mv (Opd.c (V.int .i64
  (2)))) none]) EC.ret) EC.skip)
def b15_2 : EC := EC.ops false [EOper.mk (some 4) (EOp.mv (Opd.c (V.int .u8 (0)))) none]
def b15_3 : EC := EC.seq (EC.ops false [EOper.mk (some 9) (EOp.fa 1 (Opd.t 1)) none, EOper.mk (some 10) (EOp.ld false 1 (Opd.t 9)) none]) (EC.cond (Opd.t 10) (EC.ops false
  [EOper.mk (some 4) (EOp.mv (Opd.c (V.int .u8 (1)))) none]) EC.skip)
def b15_4 : EC := EC.seq (EC.ops false [EOper.mk (some 11) (EOp.fa 3 (Opd.t 1)) none, EOper.mk (some 12) (EOp.ld false 1 (Opd.t 11)) none, EOper.mk (some 13) (EOp.bin .gtr
  (Opd.t 12) (Opd.c (V.int .i64 (1)))) none]) (EC.cond (Opd.t 13) (EC.ops false [EOper.mk (some 14) (EOp.mv (Opd.t 4)) none, EOper.mk (some 15) (EOp.fa 3 (Opd.t 1)) none,
  EOper.mk (some 16) (EOp.ld false 1 (Opd.t 15)) none, EOper.mk (some 17) (EOp.conv .u8 (Opd.t 16)) none, EOper.mk (some 18) (EOp.bin .add (Opd.t 14) (Opd.t 17)) none,
  EOper.mk (some 4) (EOp.mv (Opd.t 18)) none]) EC.skip)
def b15_5 : EC := EC.ops false [EOper.mk (some 19) (EOp.fa 0 (Opd.t 1)) none, EOper.mk (some 20) (EOp.ld false 1 (Opd.t 19)) none, EOper.mk (some 21) (EOp.conv .u8 (Opd.t
  20)) none, EOper.mk (some 22) (EOp.mv (Opd.t 4)) none, EOper.mk (some 23) (EOp.bslice 5 4 [V.int .u8 (0), V.int .u8 (0), V.int .u8 (0), V.int .u8 (0)] [(0, 1, Opd.t 21),
  (1, 1, Opd.t 22), (2, 1, Opd.c (V.int .u8 (0))), (3, 1, Opd.c (V.int .u8 (0)))]) none, EOper.mk (some 5) (EOp.mv (Opd.t 23)) none]
def b15_6 : EC := EC.ops false [EOper.mk (some 24) (EOp.mv (Opd.t 5)) none, EOper.mk (some 25) (EOp.fa 2 (Opd.t 1)) none, EOper.mk (some 26) (EOp.ld false 1 (Opd.t 25))
  none, EOper.mk (some 27) (EOp.call (Opd.f 32) [Opd.t 26, Opd.c (V.int .i64 (4))]) none, EOper.mk (some 28) (EOp.app 5 1 1 [V.int .u8 (0)] (Opd.t 24) (Opd.t 27)) none,
  EOper.mk (some 5) (EOp.mv (Opd.t 28)) none]
def b15_7 : EC := EC.ops false [EOper.mk (some 29) (EOp.mv (Opd.t 5)) none, EOper.mk (some 30) (EOp.fa 4 (Opd.t 1)) none, EOper.mk (some 31) (EOp.ld false 1 (Opd.t 30))
  none, EOper.mk (some 32) (EOp.call (Opd.f 32) [Opd.t 31, Opd.c (V.int .i64 (4))]) none, EOper.mk (some 33) (EOp.app 5 1 1 [V.int .u8 (0)] (Opd.t 29) (Opd.t 32)) none,
  EOper.mk (some 2) (EOp.mv (Opd.t 33)) none, EOper.mk (some 3) (EOp.mv (Opd.c (V.int .i64 (0)))) none]
def b15_8 : EC := EC.ret
def r15_8 : EC := b15_8
def r15_7 : EC := EC.seq b15_7 r15_8
def r15_6 : EC := EC.seq b15_6 r15_7
def r15_5 : EC := EC.seq b15_5 r15_6
def r15_4 : EC := EC.seq b15_4 r15_5
def r15_3 : EC := EC.seq b15_3 r15_4
def r15_2 : EC := EC.seq b15_2 r15_3
def r15_1 : EC := EC.seq b15_1 r15_2
def r15_0 : EC := EC.seq b15_0 r15_1
def e15 : EFun := EFun.mk 34 [ERes.t 2, ERes.t 3] r15_0
theorem c15 : cFun Tryd.prog 1 (fun _ => false) Tryd.f15 = some e15 := by kernel_rfl
theorem x15 : Tryd.prog.funcs[15]? = some Tryd.f15 := by kernel_rfl
theorem n15 : (Tryd.f15.name == "runtime.NumGoroutine") = false := by kernel_rfl
/-! 16: septumlaw04.example -/
def b16_0 : EC := EC.ops false [EOper.mk (some 0) (EOp.alloc true 27 [V.int .i64 (0), V.bool false, V.int .u32 (0), V.int .i64 (0), V.int .u32 (0)]) none]
def b16_1 : EC := EC.ops false [EOper.mk (some 1) (EOp.build [V.int .i64 (0), V.bool false, V.int .u32 (0), V.int .i64 (0), V.int .u32 (0)] [(0, 1, Opd.c (V.int .i64
  (3))), (1, 1, Opd.c (V.bool true)), (2, 1, Opd.c (V.int .u32 (256))), (3, 1, Opd.c (V.int .i64 (2))), (4, 1, Opd.c (V.int .u32 (4660)))]) none, EOper.mk none (EOp.st 5
  (Opd.t 0) (Opd.t 1)) none]
def b16_2 : EC := EC.ret
def r16_2 : EC := b16_2
def r16_1 : EC := EC.seq b16_1 r16_2
def r16_0 : EC := EC.seq b16_0 r16_1
def e16 : EFun := EFun.mk 2 [ERes.c 0 5] r16_0
theorem c16 : cFun Tryd.prog 1 (fun _ => false) Tryd.f16 = some e16 := by kernel_rfl
theorem x16 : Tryd.prog.funcs[16]? = some Tryd.f16 := by kernel_rfl
theorem n16 : (Tryd.f16.name == "runtime.NumGoroutine") = false := by kernel_rfl
/-! 17: access.Decode -/
def b17_0 : EC := EC.ops false [EOper.mk (some 2) (EOp.alloc true 27 [V.int .i64 (0), V.bool false, V.int .u32 (0), V.int .i64 (0), V.int .u32 (0)]) none, EOper.mk (some
  3) (EOp.mv (Opd.c (V.int .i64 (0)))) none]
def b17_1 : EC := EC.block 0 (EC.seq (EC.ops false [EOper.mk (some 8) (EOp.mv (Opd.t 0)) none, EOper.mk (some 9) (EOp.len false (Opd.t 8)) none, EOper.mk (some 10)
  (EOp.bin .gtr (Opd.t 9) (Opd.c (V.int .i64 (12)))) none, EOper.mk (some 7) (EOp.mv (Opd.t 10)) none]) (EC.cond (Opd.t 7) (EC.seq (EC.ops false [EOper.mk (some 11)
  (EOp.build [V.int .i64 (0), V.bool false, V.int .u32 (0), V.int .i64 (0), V.int .u32 (0)] []) none, EOper.mk none (EOp.st 5 (Opd.t 2) (Opd.t 11)) none, EOper.mk (some 3)
  (EOp.mv (Opd.c (V.int .i64 (3)))) none]) EC.ret) (EC.seq (EC.ops false [EOper.mk (some 13) (EOp.mv (Opd.t 0)) none, EOper.mk (some 14) (EOp.len false (Opd.t 13)) none,
  EOper.mk (some 15) (EOp.bin .lss (Opd.t 14) (Opd.c (V.int .i64 (12)))) none, EOper.mk (some 12) (EOp.mv (Opd.t 15)) none]) (EC.cond (Opd.t 12) (EC.seq (EC.ops false
  [EOper.mk (some 16) (EOp.build [V.int .i64 (0), V.bool false, V.int .u32 (0), V.int .i64 (0), V.int .u32 (0)] []) none, EOper.mk none (EOp.st 5 (Opd.t 2) (Opd.t 16))
  none, EOper.mk (some 3) (EOp.mv (Opd.c (V.int .i64 (4)))) none]) EC.ret) EC.skip))))
def b17_2 : EC := EC.opsT [EOper.mk (some 17) (EOp.mv (Opd.t 0)) none, EOper.mk (some 18) (EOp.ixs 1 (Opd.t 17) (Opd.c (V.int .i64 (0)))) none, EOper.mk (some 19) (EOp.ld
  false 1 (Opd.t 18)) none, EOper.mk (some 20) (EOp.conv .i64 (Opd.t 19)) none, EOper.mk (some 21) (EOp.mv (Opd.t 0)) none, EOper.mk (some 22) (EOp.ixs 1 (Opd.t 21) (Opd.c
  (V.int .i64 (1)))) none, EOper.mk (some 23) (EOp.ld false 1 (Opd.t 22)) none, EOper.mk (some 24) (EOp.bin .and (Opd.t 23) (Opd.c (V.int .u8 (1)))) none, EOper.mk (some
  25) (EOp.bin .neq (Opd.t 24) (Opd.c (V.int .u8 (0)))) none, EOper.mk (some 26) (EOp.build [V.int .i64 (0), V.bool false, V.int .u32 (0), V.int .i64 (0), V.int .u32 (0)]
  [(0, 1, Opd.t 20), (1, 1, Opd.t 25), (3, 1, Opd.c (V.int .i64 (1)))]) none] [EOper.mk (some 4) (EOp.alloc true 27 [V.int .i64 (0), V.bool false, V.int .u32 (0), V.int
  .i64 (0), V.int .u32 (0)]) none, EOper.mk none (EOp.st 5 (Opd.t 4) (Opd.t 26)) none] []
def b17_3 : EC := EC.seq (EC.ops false [EOper.mk (some 27) (EOp.mv (Opd.t 0)) none, EOper.mk (some 28) (EOp.ixs 1 (Opd.t 27) (Opd.c (V.int .i64 (1)))) none, EOper.mk (some
  29) (EOp.ld false 1 (Opd.t 28)) none, EOper.mk (some 30) (EOp.bin .andNot (Opd.t 29) (Opd.c (V.int .u8 (1)))) none]) (EC.block 1 (EC.seq (EC.ops false [EOper.mk (some
  32) (EOp.bin .eql (Opd.t 30) (Opd.c (V.int .u8 (2)))) none, EOper.mk (some 31) (EOp.mv (Opd.t 32)) none]) (EC.cond (Opd.t 31) (EC.ops false [EOper.mk (some 33) (EOp.fa 3
  (Opd.t 4)) none, EOper.mk none (EOp.st 1 (Opd.t 33) (Opd.c (V.int .i64 (2)))) none]) (EC.seq (EC.ops false [EOper.mk (some 35) (EOp.bin .eql (Opd.t 30) (Opd.c (V.int .u8
  (4)))) none, EOper.mk (some 34) (EOp.mv (Opd.t 35)) none]) (EC.cond (Opd.t 34) (EC.ops false [EOper.mk (some 36) (EOp.fa 3 (Opd.t 4)) none, EOper.mk none (EOp.st 1
  (Opd.t 36) (Opd.c (V.int .i64 (4)))) none]) EC.skip)))))
def b17_4 : EC := EC.ops false [EOper.mk (some 38) (EOp.mv (Opd.t 0)) none, EOper.mk (some 39) (EOp.slc 1 (Opd.t 38) (some (Opd.c (V.int .i64 (4)))) (some (Opd.c (V.int
  .i64 (8))))) none, EOper.mk (some 40) (EOp.call (Opd.f 33) [Opd.t 39]) none, EOper.mk (some 37) (EOp.mv (Opd.t 40)) none, EOper.mk (some 41) (EOp.ext (Opd.t 37) 0) none,
  EOper.mk (some 42) (EOp.ext (Opd.t 37) 1) none, EOper.mk (some 43) (EOp.fa 2 (Opd.t 4)) none, EOper.mk none (EOp.st 1 (Opd.t 43) (Opd.t 41)) none]
def b17_5 : EC := EC.ops false [EOper.mk (some 45) (EOp.mv (Opd.t 0)) none, EOper.mk (some 46) (EOp.slc 1 (Opd.t 45) (some (Opd.c (V.int .i64 (8)))) none) none, EOper.mk
  (some 47) (EOp.call (Opd.f 33) [Opd.t 46]) none, EOper.mk (some 44) (EOp.mv (Opd.t 47)) none, EOper.mk (some 48) (EOp.ext (Opd.t 44) 0) none, EOper.mk (some 49) (EOp.ext
  (Opd.t 44) 1) none, EOper.mk (some 50) (EOp.fa 4 (Opd.t 4)) none, EOper.mk none (EOp.st 1 (Opd.t 50) (Opd.t 48)) none]
def b17_6 : EC := EC.seq (EC.ops false [EOper.mk (some 52) (EOp.ld true 5 (Opd.t 4)) none, EOper.mk (some 53) (EOp.call (Opd.f 12) [Opd.t 52]) none, EOper.mk (some 51)
  (EOp.mv (Opd.t 53)) none, EOper.mk (some 54) (EOp.ext (Opd.t 51) 0) none, EOper.mk (some 55) (EOp.ext (Opd.t 51) 1) none, EOper.mk (some 5) (EOp.mv (Opd.t 54)) none,
  EOper.mk (some 6) (EOp.mv (Opd.t 55)) none]) (EC.seq (EC.ops false [EOper.mk (some 56) (EOp.mv (Opd.t 6)) none, EOper.mk (some 57) (EOp.bin .neq (Opd.t 56) (Opd.c (V.int
  .i64 (0)))) none, EOper.mk (some 58) (EOp.mv (Opd.t 57)) none, EOper.mk (some 59) (EOp.mv (Opd.t 0)) (some (58, false)), EOper.mk (some 60) (EOp.mv (Opd.t 5)) (some (58,
  false)), EOper.mk (some 61) (EOp.call (Opd.f 34) [Opd.t 59, Opd.t 60]) (some (58, false)), EOper.mk (some 62) (EOp.un .not (Opd.t 61)) (some (58, false)), EOper.mk (some
  63) (EOp.pick (Opd.t 58) (Opd.c (V.bool true)) (Opd.t 62)) none]) (EC.cond (Opd.t 63) (EC.seq (EC.ops false [EOper.mk (some 64) (EOp.build [V.int .i64 (0), V.bool false,
  V.int .u32 (0), V.int .i64 (0), V.int .u32 (0)] []) none, EOper.mk none (EOp.st 5 (Opd.t 2) (Opd.t 64)) none, EOper.mk (some 3) (EOp.mv (Opd.c (V.int .i64 (4)))) none])
  EC.ret) EC.skip))
def b17_7 : EC := EC.ops false [EOper.mk (some 65) (EOp.ld true 5 (Opd.t 4)) none, EOper.mk none (EOp.st 5 (Opd.t 2) (Opd.t 65)) none, EOper.mk (some 3) (EOp.mv (Opd.c
  (V.int .i64 (0)))) none]
def b17_8 : EC := EC.ret
def r17_8 : EC := b17_8
def r17_7 : EC := EC.seq b17_7 r17_8
def r17_6 : EC := EC.seq b17_6 r17_7
def r17_5 : EC := EC.seq b17_5 r17_6
def r17_4 : EC := EC.seq b17_4 r17_5
def r17_3 : EC := EC.seq b17_3 r17_4
def r17_2 : EC := EC.seq b17_2 r17_3
def r17_1 : EC := EC.seq b17_1 r17_2
def r17_0 : EC := EC.seq b17_0 r17_1
def e17 : EFun := EFun.mk 66 [ERes.c 2 5, ERes.t 3] r17_0
theorem c17 : cFun Tryd.prog 1 (fun _ => false) Tryd.f17 = some e17 := by kernel_rfl
theorem x17 : Tryd.prog.funcs[17]? = some Tryd.f17 := by kernel_rfl
theorem n17 : (Tryd.f17.name == "runtime.NumGoroutine") = false := by kernel_rfl
/-! 18: access.Reach -/
def b18_0 : EC := EC.ops false [EOper.mk (some 1) (EOp.box true 27 (Opd.t 0)) none, EOper.mk (some 2) (EOp.alloc true 41 [V.int .u32 (0), V.int .u32 (0)]) none, EOper.mk
  (some 3) (EOp.mv (Opd.c (V.bool false))) none]
def b18_1 : EC := EC.seq (EC.ops false [EOper.mk (some 4) (EOp.ld true 5 (Opd.t 1)) none, EOper.mk (some 5) (EOp.call (Opd.f 11) [Opd.t 4]) none, EOper.mk (some 6) (EOp.un
  .not (Opd.t 5)) none]) (EC.cond (Opd.t 6) (EC.seq (EC.ops false [EOper.mk (some 7) (EOp.build [V.int .u32 (0), V.int .u32 (0)] []) none, EOper.mk none (EOp.st 2 (Opd.t
  2) (Opd.t 7)) none, EOper.mk (some 3) (EOp.mv (Opd.c (V.bool false))) none]) EC.ret) EC.skip)
def b18_2 : EC := EC.ops false [EOper.mk (some 8) (EOp.fa 2 (Opd.t 1)) none, EOper.mk (some 9) (EOp.ld false 1 (Opd.t 8)) none, EOper.mk (some 10) (EOp.fa 3 (Opd.t 1))
  none, EOper.mk (some 11) (EOp.ld false 1 (Opd.t 10)) none, EOper.mk (some 12) (EOp.call (Opd.f 35) [Opd.t 9, Opd.t 11]) none, EOper.mk (some 13) (EOp.ext (Opd.t 12) 0)
  none, EOper.mk (some 14) (EOp.ext (Opd.t 12) 1) none, EOper.mk none (EOp.st 2 (Opd.t 2) (Opd.t 13)) none, EOper.mk (some 3) (EOp.mv (Opd.t 14)) none]
def b18_3 : EC := EC.ret
def r18_3 : EC := b18_3
def r18_2 : EC := EC.seq b18_2 r18_3
def r18_1 : EC := EC.seq b18_1 r18_2
def r18_0 : EC := EC.seq b18_0 r18_1
def e18 : EFun := EFun.mk 15 [ERes.c 2 2, ERes.t 3] r18_0
theorem c18 : cFun Tryd.prog 1 (fun _ => false) Tryd.f18 = some e18 := by kernel_rfl
theorem x18 : Tryd.prog.funcs[18]? = some Tryd.f18 := by kernel_rfl
theorem n18 : (Tryd.f18.name == "runtime.NumGoroutine") = false := by kernel_rfl
/-! 19: reach.Size -/
/-! 20: access.Deny -/
def b20_0 : EC := EC.ops false [EOper.mk (some 0) (EOp.alloc true 47 [V.int .u32 (0), V.int .i64 (0)]) none]
def b20_1 : EC := EC.ops false [EOper.mk (some 1) (EOp.build [V.int .u32 (0), V.int .i64 (0)] [(1, 1, Opd.c (V.int .i64 (10)))]) none, EOper.mk none (EOp.st 2 (Opd.t 0)
  (Opd.t 1)) none]
def b20_2 : EC := EC.ret
def r20_2 : EC := b20_2
def r20_1 : EC := EC.seq b20_1 r20_2
def r20_0 : EC := EC.seq b20_0 r20_1
def e20 : EFun := EFun.mk 2 [ERes.c 0 2] r20_0
theorem c20 : cFun Tryd.prog 1 (fun _ => false) Tryd.f20 = some e20 := by kernel_rfl
theorem x20 : Tryd.prog.funcs[20]? = some Tryd.f20 := by kernel_rfl
theorem n20 : (Tryd.f20.name == "runtime.NumGoroutine") = false := by kernel_rfl
/-! 21: access.Done -/
def b21_0 : EC := EC.ops false [EOper.mk (some 2) (EOp.alloc true 47 [V.int .u32 (0), V.int .i64 (0)]) none]
def b21_1 : EC := EC.ops false [EOper.mk (some 3) (EOp.mv (Opd.t 0)) none, EOper.mk (some 4) (EOp.build [V.int .u32 (0), V.int .i64 (0)] [(0, 1, Opd.t 3)]) none, EOper.mk
  none (EOp.st 2 (Opd.t 2) (Opd.t 4)) none]
def b21_2 : EC := EC.ret
def r21_2 : EC := b21_2
def r21_1 : EC := EC.seq b21_1 r21_2
def r21_0 : EC := EC.seq b21_0 r21_1
def e21 : EFun := EFun.mk 5 [ERes.c 2 2] r21_0
theorem c21 : cFun Tryd.prog 1 (fun _ => false) Tryd.f21 = some e21 := by kernel_rfl
theorem x21 : Tryd.prog.funcs[21]? = some Tryd.f21 := by kernel_rfl
theorem n21 : (Tryd.f21.name == "runtime.NumGoroutine") = false := by kernel_rfl
/-! 22: septumkit.LentBytes -/
def l22_0p0 : EC := EC.seq (EC.ops false [EOper.mk (some 12) (EOp.mv (Opd.t 4)) none, EOper.mk (some 13) (EOp.bin .lss (Opd.t 12) (Opd.c (V.int .i64 (12)))) none])
  (EC.cond (Opd.t 13) EC.skip (EC.exit 0))
def l22_0p1 : EC := EC.block 1 (EC.ops false [EOper.mk (some 16) (EOp.mv (Opd.t 3)) none, EOper.mk (some 17) (EOp.mv (Opd.t 4)) none, EOper.mk (some 18) (EOp.call (Opd.f
  37) [Opd.c (V.int .i64 (1)), Opd.t 17]) none, EOper.mk (some 19) (EOp.bslice 5 1 [V.int .u8 (0)] [(0, 1, Opd.t 18)]) none, EOper.mk (some 20) (EOp.app 5 1 1 [V.int .u8
  (0)] (Opd.t 16) (Opd.t 19)) none, EOper.mk (some 3) (EOp.mv (Opd.t 20)) none])
def l22_0p2 : EC := EC.ops false [EOper.mk (some 14) (EOp.mv (Opd.t 4)) none, EOper.mk (some 15) (EOp.bin .add (Opd.t 14) (Opd.c (V.int .i64 (1)))) none, EOper.mk (some 4)
  (EOp.mv (Opd.t 15)) none]
def l22_0r2 : EC := l22_0p2
def l22_0r1 : EC := EC.seq l22_0p1 l22_0r2
def l22_0r0 : EC := EC.seq l22_0p0 l22_0r1
def l22_0 : EC := l22_0r0
def b22_0 : EC := EC.ops false [EOper.mk (some 2) (EOp.mv (Opd.c (V.sl none 0 0))) none]
def b22_1 : EC := EC.ops false [EOper.mk (some 5) (EOp.mv (Opd.t 0)) none, EOper.mk (some 6) (EOp.len false (Opd.t 5)) none, EOper.mk (some 7) (EOp.bin .add (Opd.t 6)
  (Opd.c (V.int .i64 (12)))) none, EOper.mk (some 8) (EOp.mksl 5 [V.int .u8 (0)] 1 (Opd.c (V.int .i64 (0))) (Opd.t 7)) none, EOper.mk (some 3) (EOp.mv (Opd.t 8)) none]
def b22_2 : EC := EC.ops false [EOper.mk (some 9) (EOp.mv (Opd.t 3)) none, EOper.mk (some 10) (EOp.mv (Opd.t 0)) none, EOper.mk (some 11) (EOp.app 5 1 1 [V.int .u8 (0)]
  (Opd.t 9) (Opd.t 10)) none, EOper.mk (some 3) (EOp.mv (Opd.t 11)) none]
def b22_3 : EC := EC.seq (EC.ops false [EOper.mk (some 4) (EOp.mv (Opd.c (V.int .i64 (0)))) none]) (EC.block 0 (EC.loop l22_0))
def b22_4 : EC := EC.ops false [EOper.mk (some 21) (EOp.mv (Opd.t 3)) none, EOper.mk (some 22) (EOp.mv (Opd.t 0)) none, EOper.mk (some 23) (EOp.len false (Opd.t 22)) none,
  EOper.mk (some 24) (EOp.slc 1 (Opd.t 21) none (some (Opd.t 23))) none, EOper.mk (some 2) (EOp.mv (Opd.t 24)) none]
def b22_5 : EC := EC.ret
def r22_5 : EC := b22_5
def r22_4 : EC := EC.seq b22_4 r22_5
def r22_3 : EC := EC.seq b22_3 r22_4
def r22_2 : EC := EC.seq b22_2 r22_3
def r22_1 : EC := EC.seq b22_1 r22_2
def r22_0 : EC := EC.seq b22_0 r22_1
def e22 : EFun := EFun.mk 25 [ERes.t 2] r22_0
theorem c22 : cFun Tryd.prog 1 (fun _ => false) Tryd.f22 = some e22 := by kernel_rfl
theorem x22 : Tryd.prog.funcs[22]? = some Tryd.f22 := by kernel_rfl
theorem n22 : (Tryd.f22.name == "runtime.NumGoroutine") = false := by kernel_rfl
/-! 23: septumref04.Decode -/
def b23_0 : EC := EC.ops false [EOper.mk (some 2) (EOp.alloc true 27 [V.int .i64 (0), V.bool false, V.int .u32 (0), V.int .i64 (0), V.int .u32 (0)]) none, EOper.mk (some
  3) (EOp.mv (Opd.c (V.int .i64 (0)))) none]
def b23_1 : EC := EC.seq (EC.ops false [EOper.mk (some 5) (EOp.mv (Opd.t 0)) none, EOper.mk (some 6) (EOp.len false (Opd.t 5)) none, EOper.mk (some 7) (EOp.bin .gtr (Opd.t
  6) (Opd.c (V.int .i64 (12)))) none]) (EC.cond (Opd.t 7) (EC.seq (EC.ops false [EOper.mk (some 8) (EOp.build [V.int .i64 (0), V.bool false, V.int .u32 (0), V.int .i64
  (0), V.int .u32 (0)] []) none, EOper.mk none (EOp.st 5 (Opd.t 2) (Opd.t 8)) none, EOper.mk (some 3) (EOp.mv (Opd.c (V.int .i64 (3)))) none]) EC.ret) EC.skip)
def b23_2 : EC := EC.seq (EC.ops false [EOper.mk (some 9) (EOp.mv (Opd.t 0)) none, EOper.mk (some 10) (EOp.len false (Opd.t 9)) none, EOper.mk (some 11) (EOp.bin .lss
  (Opd.t 10) (Opd.c (V.int .i64 (12)))) none, EOper.mk (some 12) (EOp.mv (Opd.t 11)) none, EOper.mk (some 13) (EOp.mv (Opd.t 0)) (some (12, false)), EOper.mk (some 14)
  (EOp.ixs 1 (Opd.t 13) (Opd.c (V.int .i64 (1)))) (some (12, false)), EOper.mk (some 15) (EOp.ld false 1 (Opd.t 14)) (some (12, false)), EOper.mk (some 16) (EOp.bin .gtr
  (Opd.t 15) (Opd.c (V.int .u8 (5)))) (some (12, false)), EOper.mk (some 17) (EOp.pick (Opd.t 12) (Opd.c (V.bool true)) (Opd.t 16)) none, EOper.mk (some 18) (EOp.mv (Opd.t
  17)) none, EOper.mk (some 19) (EOp.mv (Opd.t 0)) (some (18, false)), EOper.mk (some 20) (EOp.ixs 1 (Opd.t 19) (Opd.c (V.int .i64 (2)))) (some (18, false)), EOper.mk
  (some 21) (EOp.ld false 1 (Opd.t 20)) (some (18, false)), EOper.mk (some 22) (EOp.bin .neq (Opd.t 21) (Opd.c (V.int .u8 (0)))) (some (18, false)), EOper.mk (some 23)
  (EOp.pick (Opd.t 18) (Opd.c (V.bool true)) (Opd.t 22)) none, EOper.mk (some 24) (EOp.mv (Opd.t 23)) none, EOper.mk (some 25) (EOp.mv (Opd.t 0)) (some (24, false)),
  EOper.mk (some 26) (EOp.ixs 1 (Opd.t 25) (Opd.c (V.int .i64 (3)))) (some (24, false)), EOper.mk (some 27) (EOp.ld false 1 (Opd.t 26)) (some (24, false)), EOper.mk (some
  28) (EOp.bin .neq (Opd.t 27) (Opd.c (V.int .u8 (0)))) (some (24, false)), EOper.mk (some 29) (EOp.pick (Opd.t 24) (Opd.c (V.bool true)) (Opd.t 28)) none]) (EC.cond
  (Opd.t 29) (EC.seq (EC.ops false [EOper.mk (some 30) (EOp.build [V.int .i64 (0), V.bool false, V.int .u32 (0), V.int .i64 (0), V.int .u32 (0)] []) none, EOper.mk none
  (EOp.st 5 (Opd.t 2) (Opd.t 30)) none, EOper.mk (some 3) (EOp.mv (Opd.c (V.int .i64 (4)))) none]) EC.ret) EC.skip)
def b23_3 : EC := EC.opsT [EOper.mk (some 31) (EOp.mv (Opd.t 0)) none, EOper.mk (some 32) (EOp.ixs 1 (Opd.t 31) (Opd.c (V.int .i64 (0)))) none, EOper.mk (some 33) (EOp.ld
  false 1 (Opd.t 32)) none, EOper.mk (some 34) (EOp.conv .i64 (Opd.t 33)) none, EOper.mk (some 35) (EOp.mv (Opd.t 0)) none, EOper.mk (some 36) (EOp.ixs 1 (Opd.t 35) (Opd.c
  (V.int .i64 (1)))) none, EOper.mk (some 37) (EOp.ld false 1 (Opd.t 36)) none, EOper.mk (some 38) (EOp.bin .rem (Opd.t 37) (Opd.c (V.int .u8 (2)))) none, EOper.mk (some
  39) (EOp.bin .eql (Opd.t 38) (Opd.c (V.int .u8 (1)))) none, EOper.mk (some 40) (EOp.mv (Opd.t 0)) none, EOper.mk (some 41) (EOp.ixs 1 (Opd.t 40) (Opd.c (V.int .i64
  (1)))) none, EOper.mk (some 42) (EOp.ld false 1 (Opd.t 41)) none, EOper.mk (some 43) (EOp.conv .i64 (Opd.t 42)) none, EOper.mk (some 44) (EOp.bin .quo (Opd.t 43) (Opd.c
  (V.int .i64 (2)))) none, EOper.mk (some 45) (EOp.bin .mul (Opd.t 44) (Opd.c (V.int .i64 (2)))) none, EOper.mk (some 46) (EOp.mm true (Opd.t 45) (Opd.c (V.int .i64 (1))))
  none, EOper.mk (some 47) (EOp.build [V.int .i64 (0), V.bool false, V.int .u32 (0), V.int .i64 (0), V.int .u32 (0)] [(0, 1, Opd.t 34), (1, 1, Opd.t 39), (3, 1, Opd.t
  46)]) none] [EOper.mk (some 4) (EOp.alloc true 27 [V.int .i64 (0), V.bool false, V.int .u32 (0), V.int .i64 (0), V.int .u32 (0)]) none, EOper.mk none (EOp.st 5 (Opd.t 4)
  (Opd.t 47)) none] []
def b23_4 : EC := EC.ops false [EOper.mk (some 49) (EOp.mv (Opd.t 0)) none, EOper.mk (some 50) (EOp.slc 1 (Opd.t 49) (some (Opd.c (V.int .i64 (4)))) (some (Opd.c (V.int
  .i64 (8))))) none, EOper.mk (some 51) (EOp.call (Opd.f 38) [Opd.t 50]) none, EOper.mk (some 48) (EOp.mv (Opd.t 51)) none, EOper.mk (some 52) (EOp.ext (Opd.t 48) 0) none,
  EOper.mk (some 53) (EOp.ext (Opd.t 48) 1) none, EOper.mk (some 54) (EOp.fa 2 (Opd.t 4)) none, EOper.mk none (EOp.st 1 (Opd.t 54) (Opd.t 52)) none]
def b23_5 : EC := EC.ops false [EOper.mk (some 56) (EOp.mv (Opd.t 0)) none, EOper.mk (some 57) (EOp.slc 1 (Opd.t 56) (some (Opd.c (V.int .i64 (8)))) none) none, EOper.mk
  (some 58) (EOp.call (Opd.f 38) [Opd.t 57]) none, EOper.mk (some 55) (EOp.mv (Opd.t 58)) none, EOper.mk (some 59) (EOp.ext (Opd.t 55) 0) none, EOper.mk (some 60) (EOp.ext
  (Opd.t 55) 1) none, EOper.mk (some 61) (EOp.fa 4 (Opd.t 4)) none, EOper.mk none (EOp.st 1 (Opd.t 61) (Opd.t 59)) none]
def b23_6 : EC := EC.seq (EC.ops false [EOper.mk (some 62) (EOp.ld true 5 (Opd.t 4)) none, EOper.mk (some 63) (EOp.call (Opd.f 30) [Opd.t 62]) none, EOper.mk (some 64)
  (EOp.un .not (Opd.t 63)) none]) (EC.cond (Opd.t 64) (EC.seq (EC.ops false [EOper.mk (some 65) (EOp.build [V.int .i64 (0), V.bool false, V.int .u32 (0), V.int .i64 (0),
  V.int .u32 (0)] []) none, EOper.mk none (EOp.st 5 (Opd.t 2) (Opd.t 65)) none, EOper.mk (some 3) (EOp.mv (Opd.c (V.int .i64 (4)))) none]) EC.ret) EC.skip)
def b23_7 : EC := EC.ops false [EOper.mk (some 66) (EOp.ld true 5 (Opd.t 4)) none, EOper.mk none (EOp.st 5 (Opd.t 2) (Opd.t 66)) none, EOper.mk (some 3) (EOp.mv (Opd.c
  (V.int .i64 (0)))) none]
def b23_8 : EC := EC.ret
def r23_8 : EC := b23_8
def r23_7 : EC := EC.seq b23_7 r23_8
def r23_6 : EC := EC.seq b23_6 r23_7
def r23_5 : EC := EC.seq b23_5 r23_6
def r23_4 : EC := EC.seq b23_4 r23_5
def r23_3 : EC := EC.seq b23_3 r23_4
def r23_2 : EC := EC.seq b23_2 r23_3
def r23_1 : EC := EC.seq b23_1 r23_2
def r23_0 : EC := EC.seq b23_0 r23_1
def e23 : EFun := EFun.mk 67 [ERes.c 2 5, ERes.t 3] r23_0
theorem c23 : cFun Tryd.prog 1 (fun _ => false) Tryd.f23 = some e23 := by kernel_rfl
theorem x23 : Tryd.prog.funcs[23]? = some Tryd.f23 := by kernel_rfl
theorem n23 : (Tryd.f23.name == "runtime.NumGoroutine") = false := by kernel_rfl
/-! 24: septumkit.KeptBytes -/
def l24_0p0 : EC := EC.seq (EC.ops false [EOper.mk (some 17) (EOp.mv (Opd.t 6)) none, EOper.mk (some 18) (EOp.mv (Opd.t 5)) none, EOper.mk (some 19) (EOp.len false (Opd.t
  18)) none, EOper.mk (some 20) (EOp.bin .lss (Opd.t 17) (Opd.t 19)) none]) (EC.cond (Opd.t 20) EC.skip (EC.exit 0))
def l24_0p1 : EC := EC.block 1 (EC.seq (EC.ops true [EOper.mk (some 23) (EOp.mv (Opd.t 6)) none, EOper.mk (some 24) (EOp.mv (Opd.t 1)) none, EOper.mk (some 25) (EOp.len
  false (Opd.t 24)) none, EOper.mk (some 26) (EOp.bin .lss (Opd.t 23) (Opd.t 25)) none, EOper.mk (some 27) (EOp.mv (Opd.t 26)) none, EOper.mk (some 28) (EOp.mv (Opd.t 5))
  (some (27, true)), EOper.mk (some 29) (EOp.mv (Opd.t 6)) (some (27, true)), EOper.mk (some 30) (EOp.ixs 1 (Opd.t 28) (Opd.t 29)) (some (27, true)), EOper.mk (some 31)
  (EOp.ld false 1 (Opd.t 30)) (some (27, true)), EOper.mk (some 32) (EOp.mv (Opd.t 1)) (some (27, true)), EOper.mk (some 33) (EOp.mv (Opd.t 6)) (some (27, true)), EOper.mk
  (some 34) (EOp.ixs 1 (Opd.t 32) (Opd.t 33)) (some (27, true)), EOper.mk (some 35) (EOp.ld false 1 (Opd.t 34)) (some (27, true)), EOper.mk (some 36) (EOp.bin .eql (Opd.t
  31) (Opd.t 35)) (some (27, true)), EOper.mk (some 37) (EOp.un .not (Opd.t 36)) (some (27, true)), EOper.mk (some 38) (EOp.pick (Opd.t 27) (Opd.t 37) (Opd.c (V.bool
  false))) none, EOper.mk (some 39) (EOp.mv (Opd.t 38)) none, EOper.mk (some 40) (EOp.mv (Opd.t 6)) (some (39, false)), EOper.mk (some 41) (EOp.mv (Opd.t 1)) (some (39,
  false)), EOper.mk (some 42) (EOp.len false (Opd.t 41)) (some (39, false)), EOper.mk (some 43) (EOp.bin .geq (Opd.t 40) (Opd.t 42)) (some (39, false)), EOper.mk (some 44)
  (EOp.mv (Opd.t 43)) (some (39, false)), EOper.mk (some 45) (EOp.mv (Opd.t 5)) (some (44, true)), EOper.mk (some 46) (EOp.mv (Opd.t 6)) (some (44, true)), EOper.mk (some
  47) (EOp.ixs 1 (Opd.t 45) (Opd.t 46)) (some (44, true)), EOper.mk (some 48) (EOp.ld false 1 (Opd.t 47)) (some (44, true)), EOper.mk (some 49) (EOp.mv (Opd.t 6)) (some
  (44, true)), EOper.mk (some 50) (EOp.mv (Opd.t 1)) (some (44, true)), EOper.mk (some 51) (EOp.len false (Opd.t 50)) (some (44, true)), EOper.mk (some 52) (EOp.bin .sub
  (Opd.t 49) (Opd.t 51)) (some (44, true)), EOper.mk (some 53) (EOp.call (Opd.f 37) [Opd.c (V.int .i64 (1)), Opd.t 52]) (some (44, true)), EOper.mk (some 54) (EOp.bin .eql
  (Opd.t 48) (Opd.t 53)) (some (44, true)), EOper.mk (some 55) (EOp.un .not (Opd.t 54)) (some (44, true)), EOper.mk (some 56) (EOp.pick (Opd.t 44) (Opd.t 55) (Opd.c
  (V.bool false))) (some (39, false)), EOper.mk (some 57) (EOp.pick (Opd.t 39) (Opd.c (V.bool true)) (Opd.t 56)) none]) (EC.cond (Opd.t 57) (EC.seq (EC.ops false [EOper.mk
  (some 4) (EOp.mv (Opd.c (V.bool false))) none]) EC.ret) EC.skip))
def l24_0p2 : EC := EC.ops false [EOper.mk (some 21) (EOp.mv (Opd.t 6)) none, EOper.mk (some 22) (EOp.bin .add (Opd.t 21) (Opd.c (V.int .i64 (1)))) none, EOper.mk (some 6)
  (EOp.mv (Opd.t 22)) none]
def l24_0r2 : EC := l24_0p2
def l24_0r1 : EC := EC.seq l24_0p1 l24_0r2
def l24_0r0 : EC := EC.seq l24_0p0 l24_0r1
def l24_0 : EC := l24_0r0
def b24_0 : EC := EC.ops false [EOper.mk (some 4) (EOp.mv (Opd.c (V.bool false))) none]
def b24_1 : EC := EC.seq (EC.ops false [EOper.mk (some 7) (EOp.mv (Opd.t 0)) none, EOper.mk (some 8) (EOp.len false (Opd.t 7)) none, EOper.mk (some 9) (EOp.mv (Opd.t 1))
  none, EOper.mk (some 10) (EOp.len false (Opd.t 9)) none, EOper.mk (some 11) (EOp.bin .neq (Opd.t 8) (Opd.t 10)) none]) (EC.cond (Opd.t 11) (EC.seq (EC.ops false
  [EOper.mk (some 4) (EOp.mv (Opd.c (V.bool false))) none]) EC.ret) EC.skip)
def b24_2 : EC := EC.ops false [EOper.mk (some 12) (EOp.mv (Opd.t 0)) none, EOper.mk (some 13) (EOp.mv (Opd.t 1)) none, EOper.mk (some 14) (EOp.len false (Opd.t 13)) none,
  EOper.mk (some 15) (EOp.bin .add (Opd.t 14) (Opd.c (V.int .i64 (12)))) none, EOper.mk (some 16) (EOp.slc 1 (Opd.t 12) none (some (Opd.t 15))) none, EOper.mk (some 5)
  (EOp.mv (Opd.t 16)) none]
def b24_3 : EC := EC.seq (EC.ops false [EOper.mk (some 6) (EOp.mv (Opd.c (V.int .i64 (0)))) none]) (EC.block 0 (EC.loop l24_0))
def b24_4 : EC := EC.ops false [EOper.mk (some 4) (EOp.mv (Opd.c (V.bool true))) none]
def b24_5 : EC := EC.ret
def r24_5 : EC := b24_5
def r24_4 : EC := EC.seq b24_4 r24_5
def r24_3 : EC := EC.seq b24_3 r24_4
def r24_2 : EC := EC.seq b24_2 r24_3
def r24_1 : EC := EC.seq b24_1 r24_2
def r24_0 : EC := EC.seq b24_0 r24_1
def e24 : EFun := EFun.mk 58 [ERes.t 4] r24_0
theorem c24 : cFun Tryd.prog 1 (fun _ => false) Tryd.f24 = some e24 := by kernel_rfl
theorem x24 : Tryd.prog.funcs[24]? = some Tryd.f24 := by kernel_rfl
theorem n24 : (Tryd.f24.name == "runtime.NumGoroutine") = false := by kernel_rfl
/-! 25: access.record.right -/
def b25_0 : EC := EC.ops false [EOper.mk (some 1) (EOp.box true 52 (Opd.t 0)) none, EOper.mk (some 2) (EOp.mv (Opd.c (V.bool false))) none]
def b25_1 : EC := EC.ops false [EOper.mk (some 3) (EOp.ld true 5 (Opd.t 1)) none, EOper.mk (some 4) (EOp.mkfn 40 [Opd.t 3] []) none, EOper.mk (some 5) (EOp.ld true 5
  (Opd.t 1)) none, EOper.mk (some 6) (EOp.mkfn 41 [Opd.t 5] []) none, EOper.mk (some 7) (EOp.ld true 5 (Opd.t 1)) none, EOper.mk (some 8) (EOp.mkfn 42 [Opd.t 7] []) none,
  EOper.mk (some 9) (EOp.bslice 23 3 [V.nilf, V.nilf, V.nilf] [(0, 1, Opd.t 4), (1, 1, Opd.t 6), (2, 1, Opd.t 8)]) none, EOper.mk (some 10) (EOp.call (Opd.f 39) [Opd.t 9,
  Opd.f 43]) none, EOper.mk (some 11) (EOp.un .not (Opd.t 10)) none, EOper.mk (some 2) (EOp.mv (Opd.t 11)) none]
def b25_2 : EC := EC.ret
def r25_2 : EC := b25_2
def r25_1 : EC := EC.seq b25_1 r25_2
def r25_0 : EC := EC.seq b25_0 r25_1
def e25 : EFun := EFun.mk 12 [ERes.t 2] r25_0
theorem c25 : cFun Tryd.prog 1 (fun _ => false) Tryd.f25 = some e25 := by kernel_rfl
theorem x25 : Tryd.prog.funcs[25]? = some Tryd.f25 := by kernel_rfl
theorem n25 : (Tryd.f25.name == "runtime.NumGoroutine") = false := by kernel_rfl
/-! 26: access.row -/
def b26_0 : EC := EC.ops false [EOper.mk (some 2) (EOp.mv (Opd.c (V.sl none 0 0))) none]
def b26_1 : EC := EC.ops false [EOper.mk (some 3) (EOp.mv (Opd.t 0)) none, EOper.mk (some 4) (EOp.call (Opd.f 44) [Opd.t 3]) none, EOper.mk (some 2) (EOp.mv (Opd.t 4))
  none]
def b26_2 : EC := EC.ret
def r26_2 : EC := b26_2
def r26_1 : EC := EC.seq b26_1 r26_2
def r26_0 : EC := EC.seq b26_0 r26_1
def e26 : EFun := EFun.mk 5 [ERes.t 2] r26_0
theorem c26 : cFun Tryd.prog 1 (fun _ => false) Tryd.f26 = some e26 := by kernel_rfl
theorem x26 : Tryd.prog.funcs[26]? = some Tryd.f26 := by kernel_rfl
theorem n26 : (Tryd.f26.name == "runtime.NumGoroutine") = false := by kernel_rfl
/-! 27: access.record.flags -/
def b27_0 : EC := EC.ops false [EOper.mk (some 1) (EOp.box true 52 (Opd.t 0)) none, EOper.mk (some 2) (EOp.mv (Opd.c (V.int .u8 (0)))) none]
def b27_1 : EC := EC.seq (EC.ops false [EOper.mk (some 3) (EOp.fa 0 (Opd.t 1)) none, EOper.mk (some 4) (EOp.fa 1 (Opd.t 3)) none, EOper.mk (some 5) (EOp.ld false 1 (Opd.t
  4)) none]) (EC.cond (Opd.t 5) (EC.ops false [EOper.mk (some 2) (EOp.mv (Opd.c (V.int .u8 (1)))) none]) EC.skip)
def b27_2 : EC := EC.seq (EC.ops false [EOper.mk (some 6) (EOp.fa 0 (Opd.t 1)) none, EOper.mk (some 7) (EOp.fa 3 (Opd.t 6)) none, EOper.mk (some 8) (EOp.ld false 1 (Opd.t
  7)) none]) (EC.block 0 (EC.seq (EC.ops false [EOper.mk (some 10) (EOp.bin .eql (Opd.t 8) (Opd.c (V.int .i64 (2)))) none, EOper.mk (some 9) (EOp.mv (Opd.t 10)) none])
  (EC.cond (Opd.t 9) (EC.ops false [EOper.mk (some 11) (EOp.mv (Opd.t 2)) none, EOper.mk (some 12) (EOp.bin .or (Opd.t 11) (Opd.c (V.int .u8 (2)))) none, EOper.mk (some 2)
  (EOp.mv (Opd.t 12)) none]) (EC.seq (EC.ops false [EOper.mk (some 14) (EOp.bin .eql (Opd.t 8) (Opd.c (V.int .i64 (4)))) none, EOper.mk (some 13) (EOp.mv (Opd.t 14))
  none]) (EC.cond (Opd.t 13) (EC.ops false [EOper.mk (some 15) (EOp.mv (Opd.t 2)) none, EOper.mk (some 16) (EOp.bin .or (Opd.t 15) (Opd.c (V.int .u8 (4)))) none, EOper.mk
  (some 2) (EOp.mv (Opd.t 16)) none]) EC.skip)))))
def b27_3 : EC := EC.ops false [EOper.mk (some 17) (EOp.mv (Opd.t 2)) none, EOper.mk (some 2) (EOp.mv (Opd.t 17)) none]
def b27_4 : EC := EC.ret
def r27_4 : EC := b27_4
def r27_3 : EC := EC.seq b27_3 r27_4
def r27_2 : EC := EC.seq b27_2 r27_3
def r27_1 : EC := EC.seq b27_1 r27_2
def r27_0 : EC := EC.seq b27_0 r27_1
def e27 : EFun := EFun.mk 18 [ERes.t 2] r27_0
theorem c27 : cFun Tryd.prog 1 (fun _ => false) Tryd.f27 = some e27 := by kernel_rfl
theorem x27 : Tryd.prog.funcs[27]? = some Tryd.f27 := by kernel_rfl
theorem n27 : (Tryd.f27.name == "runtime.NumGoroutine") = false := by kernel_rfl
/-! 28: word.Bytes -/
def l28_0p0 : EC := EC.ops false [EOper.mk (some 11) (EOp.bin .lss (Opd.t 10) (Opd.t 9)) none]
def l28_0p1 : EC := EC.cond (Opd.t 11) EC.skip (EC.exit 0)
def l28_0p2 : EC := EC.block 1 (EC.seq (EC.ops false [EOper.mk (some 12) (EOp.mv (Opd.t 10)) none, EOper.mk (some 5) (EOp.mv (Opd.t 12)) none]) (EC.ops false [EOper.mk
  (some 13) (EOp.mv (Opd.t 4)) none, EOper.mk (some 14) (EOp.mv (Opd.t 0)) none, EOper.mk (some 15) (EOp.mv (Opd.t 5)) none, EOper.mk (some 16) (EOp.bin .mul (Opd.c (V.int
  .i64 (8))) (Opd.t 15)) none, EOper.mk (some 17) (EOp.bin .shr (Opd.t 14) (Opd.t 16)) none, EOper.mk (some 18) (EOp.conv .u8 (Opd.t 17)) none, EOper.mk (some 19)
  (EOp.bslice 5 1 [V.int .u8 (0)] [(0, 1, Opd.t 18)]) none, EOper.mk (some 20) (EOp.app 5 1 1 [V.int .u8 (0)] (Opd.t 13) (Opd.t 19)) none, EOper.mk (some 4) (EOp.mv (Opd.t
  20)) none]))
def l28_0p3 : EC := EC.ops false [EOper.mk (some 21) (EOp.bin .add (Opd.t 10) (Opd.c (V.int .i64 (1)))) none, EOper.mk (some 10) (EOp.mv (Opd.t 21)) none]
def l28_0r3 : EC := l28_0p3
def l28_0r2 : EC := EC.seq l28_0p2 l28_0r3
def l28_0r1 : EC := EC.seq l28_0p1 l28_0r2
def l28_0r0 : EC := EC.seq l28_0p0 l28_0r1
def l28_0 : EC := l28_0r0
def b28_0 : EC := EC.ops false [EOper.mk (some 4) (EOp.mv (Opd.c (V.sl none 0 0))) none]
def b28_1 : EC := EC.seq (EC.ops false [EOper.mk (some 6) (EOp.mv (Opd.t 1)) none, EOper.mk (some 7) (EOp.call (Opd.f 45) [Opd.t 6]) none, EOper.mk (some 8) (EOp.un .not
  (Opd.t 7)) none]) (EC.cond (Opd.t 8) (EC.seq (EC.ops false [EOper.mk (some 4) (EOp.mv (Opd.c (V.sl none 0 0))) none]) EC.ret) EC.skip)
def b28_2 : EC := EC.seq (EC.ops false [EOper.mk (some 9) (EOp.mv (Opd.t 1)) none, EOper.mk (some 10) (EOp.mv (Opd.c (V.int .i64 (0)))) none]) (EC.block 0 (EC.loop l28_0))
def b28_3 : EC := EC.ops false [EOper.mk (some 22) (EOp.mv (Opd.t 4)) none, EOper.mk (some 4) (EOp.mv (Opd.t 22)) none]
def b28_4 : EC := EC.ret
def r28_4 : EC := b28_4
def r28_3 : EC := EC.seq b28_3 r28_4
def r28_2 : EC := EC.seq b28_2 r28_3
def r28_1 : EC := EC.seq b28_1 r28_2
def r28_0 : EC := EC.seq b28_0 r28_1
def e28 : EFun := EFun.mk 23 [ERes.t 4] r28_0
theorem c28 : cFun Tryd.prog 1 (fun _ => false) Tryd.f28 = some e28 := by kernel_rfl
theorem x28 : Tryd.prog.funcs[28]? = some Tryd.f28 := by kernel_rfl
theorem n28 : (Tryd.f28.name == "runtime.NumGoroutine") = false := by kernel_rfl
/-! 29: septumref04.Reach -/
def b29_0 : EC := EC.ops false [EOper.mk (some 1) (EOp.box true 27 (Opd.t 0)) none, EOper.mk (some 2) (EOp.alloc true 41 [V.int .u32 (0), V.int .u32 (0)]) none, EOper.mk
  (some 3) (EOp.mv (Opd.c (V.bool false))) none]
def b29_1 : EC := EC.seq (EC.ops false [EOper.mk (some 4) (EOp.ld true 5 (Opd.t 1)) none, EOper.mk (some 5) (EOp.call (Opd.f 30) [Opd.t 4]) none, EOper.mk (some 6) (EOp.un
  .not (Opd.t 5)) none]) (EC.cond (Opd.t 6) (EC.seq (EC.ops false [EOper.mk (some 7) (EOp.build [V.int .u32 (0), V.int .u32 (0)] []) none, EOper.mk none (EOp.st 2 (Opd.t
  2) (Opd.t 7)) none, EOper.mk (some 3) (EOp.mv (Opd.c (V.bool false))) none]) EC.ret) EC.skip)
def b29_2 : EC := EC.ops false [EOper.mk (some 8) (EOp.fa 2 (Opd.t 1)) none, EOper.mk (some 9) (EOp.ld false 1 (Opd.t 8)) none, EOper.mk (some 10) (EOp.fa 3 (Opd.t 1))
  none, EOper.mk (some 11) (EOp.ld false 1 (Opd.t 10)) none, EOper.mk (some 12) (EOp.call (Opd.f 46) [Opd.t 9, Opd.t 11]) none, EOper.mk (some 13) (EOp.ext (Opd.t 12) 0)
  none, EOper.mk (some 14) (EOp.ext (Opd.t 12) 1) none, EOper.mk none (EOp.st 2 (Opd.t 2) (Opd.t 13)) none, EOper.mk (some 3) (EOp.mv (Opd.t 14)) none]
def b29_3 : EC := EC.ret
def r29_3 : EC := b29_3
def r29_2 : EC := EC.seq b29_2 r29_3
def r29_1 : EC := EC.seq b29_1 r29_2
def r29_0 : EC := EC.seq b29_0 r29_1
def e29 : EFun := EFun.mk 15 [ERes.c 2 2, ERes.t 3] r29_0
theorem c29 : cFun Tryd.prog 1 (fun _ => false) Tryd.f29 = some e29 := by kernel_rfl
theorem x29 : Tryd.prog.funcs[29]? = some Tryd.f29 := by kernel_rfl
theorem n29 : (Tryd.f29.name == "runtime.NumGoroutine") = false := by kernel_rfl
/-! 30: septumref04.Right -/
def b30_0 : EC := EC.ops false [EOper.mk (some 1) (EOp.box true 27 (Opd.t 0)) none, EOper.mk (some 2) (EOp.mv (Opd.c (V.bool false))) none]
def b30_1 : EC := EC.ops false [EOper.mk (some 6) (EOp.fa 4 (Opd.t 1)) none, EOper.mk (some 7) (EOp.ld false 1 (Opd.t 6)) none, EOper.mk (some 8) (EOp.fa 3 (Opd.t 1))
  none, EOper.mk (some 9) (EOp.ld false 1 (Opd.t 8)) none, EOper.mk (some 10) (EOp.call (Opd.f 47) [Opd.t 7, Opd.t 9]) none, EOper.mk (some 5) (EOp.mv (Opd.t 10)) none,
  EOper.mk (some 11) (EOp.ext (Opd.t 5) 0) none, EOper.mk (some 12) (EOp.ext (Opd.t 5) 1) none, EOper.mk (some 3) (EOp.mv (Opd.t 11)) none, EOper.mk (some 4) (EOp.mv
  (Opd.t 12)) none]
def b30_2 : EC := EC.ops false [EOper.mk (some 13) (EOp.fa 0 (Opd.t 1)) none, EOper.mk (some 14) (EOp.ld false 1 (Opd.t 13)) none, EOper.mk (some 15) (EOp.bin .geq (Opd.t
  14) (Opd.c (V.int .i64 (0)))) none, EOper.mk (some 16) (EOp.mv (Opd.t 15)) none, EOper.mk (some 17) (EOp.fa 0 (Opd.t 1)) (some (16, true)), EOper.mk (some 18) (EOp.ld
  false 1 (Opd.t 17)) (some (16, true)), EOper.mk (some 19) (EOp.bin .lss (Opd.t 18) (Opd.c (V.int .i64 (8)))) (some (16, true)), EOper.mk (some 20) (EOp.pick (Opd.t 16)
  (Opd.t 19) (Opd.c (V.bool false))) none, EOper.mk (some 21) (EOp.mv (Opd.t 20)) none, EOper.mk (some 22) (EOp.fa 2 (Opd.t 1)) (some (21, true)), EOper.mk (some 23)
  (EOp.ld false 1 (Opd.t 22)) (some (21, true)), EOper.mk (some 24) (EOp.fa 3 (Opd.t 1)) (some (21, true)), EOper.mk (some 25) (EOp.ld false 1 (Opd.t 24)) (some (21,
  true)), EOper.mk (some 26) (EOp.call (Opd.f 48) [Opd.t 23, Opd.t 25]) (some (21, true)), EOper.mk (some 27) (EOp.pick (Opd.t 21) (Opd.t 26) (Opd.c (V.bool false))) none,
  EOper.mk (some 28) (EOp.mv (Opd.t 27)) none, EOper.mk (some 29) (EOp.mv (Opd.t 4)) (some (28, true)), EOper.mk (some 30) (EOp.pick (Opd.t 28) (Opd.t 29) (Opd.c (V.bool
  false))) none, EOper.mk (some 31) (EOp.mv (Opd.t 30)) none, EOper.mk (some 32) (EOp.mv (Opd.t 3)) (some (31, true)), EOper.mk (some 33) (EOp.fa 4 (Opd.t 1)) (some (31,
  true)), EOper.mk (some 34) (EOp.ld false 1 (Opd.t 33)) (some (31, true)), EOper.mk (some 35) (EOp.bin .eql (Opd.t 32) (Opd.t 34)) (some (31, true)), EOper.mk (some 36)
  (EOp.pick (Opd.t 31) (Opd.t 35) (Opd.c (V.bool false))) none, EOper.mk (some 37) (EOp.mv (Opd.t 36)) none, EOper.mk (some 38) (EOp.fa 1 (Opd.t 1)) (some (37, true)),
  EOper.mk (some 39) (EOp.ld false 1 (Opd.t 38)) (some (37, true)), EOper.mk (some 40) (EOp.mv (Opd.t 39)) (some (37, true)), EOper.mk (some 41) (EOp.fa 4 (Opd.t 1)) (some
  (40, false)), EOper.mk (some 42) (EOp.ld false 1 (Opd.t 41)) (some (40, false)), EOper.mk (some 43) (EOp.bin .eql (Opd.t 42) (Opd.c (V.int .u32 (0)))) (some (40,
  false)), EOper.mk (some 44) (EOp.pick (Opd.t 40) (Opd.c (V.bool true)) (Opd.t 43)) (some (37, true)), EOper.mk (some 45) (EOp.pick (Opd.t 37) (Opd.t 44) (Opd.c (V.bool
  false))) none, EOper.mk (some 2) (EOp.mv (Opd.t 45)) none]
def b30_3 : EC := EC.ret
def r30_3 : EC := b30_3
def r30_2 : EC := EC.seq b30_2 r30_3
def r30_1 : EC := EC.seq b30_1 r30_2
def r30_0 : EC := EC.seq b30_0 r30_1
def e30 : EFun := EFun.mk 46 [ERes.t 2] r30_0
theorem c30 : cFun Tryd.prog 1 (fun _ => false) Tryd.f30 = some e30 := by kernel_rfl
theorem x30 : Tryd.prog.funcs[30]? = some Tryd.f30 := by kernel_rfl
theorem n30 : (Tryd.f30.name == "runtime.NumGoroutine") = false := by kernel_rfl
/-! 32: septumref01.Bytes -/
def l32_0p0 : EC := EC.seq (EC.ops false [EOper.mk (some 7) (EOp.mv (Opd.t 6)) none, EOper.mk (some 8) (EOp.mv (Opd.t 1)) none, EOper.mk (some 9) (EOp.bin .lss (Opd.t 7)
  (Opd.t 8)) none, EOper.mk (some 10) (EOp.mv (Opd.t 9)) none, EOper.mk (some 11) (EOp.mv (Opd.t 1)) (some (10, true)), EOper.mk (some 12) (EOp.call (Opd.f 51) [Opd.t 11])
  (some (10, true)), EOper.mk (some 13) (EOp.pick (Opd.t 10) (Opd.t 12) (Opd.c (V.bool false))) none]) (EC.cond (Opd.t 13) EC.skip (EC.exit 0))
def l32_0p1 : EC := EC.block 1 (EC.seq (EC.ops false [EOper.mk (some 16) (EOp.mv (Opd.t 5)) none, EOper.mk (some 17) (EOp.mv (Opd.t 0)) none, EOper.mk (some 18) (EOp.bin
  .rem (Opd.t 17) (Opd.c (V.int .u32 (256)))) none, EOper.mk (some 19) (EOp.conv .u8 (Opd.t 18)) none, EOper.mk (some 20) (EOp.bslice 5 1 [V.int .u8 (0)] [(0, 1, Opd.t
  19)]) none, EOper.mk (some 21) (EOp.app 5 1 1 [V.int .u8 (0)] (Opd.t 16) (Opd.t 20)) none, EOper.mk (some 5) (EOp.mv (Opd.t 21)) none]) (EC.ops false [EOper.mk (some 22)
  (EOp.mv (Opd.t 0)) none, EOper.mk (some 23) (EOp.bin .quo (Opd.t 22) (Opd.c (V.int .u32 (256)))) none, EOper.mk (some 0) (EOp.mv (Opd.t 23)) none]))
def l32_0p2 : EC := EC.ops false [EOper.mk (some 14) (EOp.mv (Opd.t 6)) none, EOper.mk (some 15) (EOp.bin .add (Opd.t 14) (Opd.c (V.int .i64 (1)))) none, EOper.mk (some 6)
  (EOp.mv (Opd.t 15)) none]
def l32_0r2 : EC := l32_0p2
def l32_0r1 : EC := EC.seq l32_0p1 l32_0r2
def l32_0r0 : EC := EC.seq l32_0p0 l32_0r1
def l32_0 : EC := l32_0r0
def b32_0 : EC := EC.ops false [EOper.mk (some 4) (EOp.mv (Opd.c (V.sl none 0 0))) none]
def b32_1 : EC := EC.ops false [EOper.mk (some 5) (EOp.mv (Opd.c (V.sl none 0 0))) none]
def b32_2 : EC := EC.seq (EC.ops false [EOper.mk (some 6) (EOp.mv (Opd.c (V.int .i64 (0)))) none]) (EC.block 0 (EC.loop l32_0))
def b32_3 : EC := EC.ops false [EOper.mk (some 24) (EOp.mv (Opd.t 5)) none, EOper.mk (some 4) (EOp.mv (Opd.t 24)) none]
def b32_4 : EC := EC.ret
def r32_4 : EC := b32_4
def r32_3 : EC := EC.seq b32_3 r32_4
def r32_2 : EC := EC.seq b32_2 r32_3
def r32_1 : EC := EC.seq b32_1 r32_2
def r32_0 : EC := EC.seq b32_0 r32_1
def e32 : EFun := EFun.mk 25 [ERes.t 4] r32_0
theorem c32 : cFun Tryd.prog 1 (fun _ => false) Tryd.f32 = some e32 := by kernel_rfl
theorem x32 : Tryd.prog.funcs[32]? = some Tryd.f32 := by kernel_rfl
theorem n32 : (Tryd.f32.name == "runtime.NumGoroutine") = false := by kernel_rfl
/-! 34: slices.Equal:byte -/
def l34_0p0 : EC := EC.ops false [EOper.mk (some 14) (EOp.bin .lss (Opd.t 13) (Opd.t 12)) none]
def l34_0p1 : EC := EC.cond (Opd.t 14) EC.skip (EC.exit 0)
def l34_0p2 : EC := EC.block 1 (EC.seq (EC.ops false [EOper.mk (some 15) (EOp.mv (Opd.t 13)) none, EOper.mk (some 5) (EOp.mv (Opd.t 15)) none]) (EC.seq (EC.ops true
  [EOper.mk (some 16) (EOp.mv (Opd.t 0)) none, EOper.mk (some 17) (EOp.mv (Opd.t 5)) none, EOper.mk (some 18) (EOp.ixs 1 (Opd.t 16) (Opd.t 17)) none, EOper.mk (some 19)
  (EOp.ld false 1 (Opd.t 18)) none, EOper.mk (some 20) (EOp.mv (Opd.t 1)) none, EOper.mk (some 21) (EOp.mv (Opd.t 5)) none, EOper.mk (some 22) (EOp.ixs 1 (Opd.t 20) (Opd.t
  21)) none, EOper.mk (some 23) (EOp.ld false 1 (Opd.t 22)) none, EOper.mk (some 24) (EOp.bin .neq (Opd.t 19) (Opd.t 23)) none]) (EC.cond (Opd.t 24) (EC.seq (EC.ops false
  [EOper.mk (some 4) (EOp.mv (Opd.c (V.bool false))) none]) EC.ret) EC.skip)))
def l34_0p3 : EC := EC.ops false [EOper.mk (some 25) (EOp.bin .add (Opd.t 13) (Opd.c (V.int .i64 (1)))) none, EOper.mk (some 13) (EOp.mv (Opd.t 25)) none]
def l34_0r3 : EC := l34_0p3
def l34_0r2 : EC := EC.seq l34_0p2 l34_0r3
def l34_0r1 : EC := EC.seq l34_0p1 l34_0r2
def l34_0r0 : EC := EC.seq l34_0p0 l34_0r1
def l34_0 : EC := l34_0r0
def b34_0 : EC := EC.ops false [EOper.mk (some 4) (EOp.mv (Opd.c (V.bool false))) none]
def b34_1 : EC := EC.seq (EC.ops false [EOper.mk (some 6) (EOp.mv (Opd.t 0)) none, EOper.mk (some 7) (EOp.len false (Opd.t 6)) none, EOper.mk (some 8) (EOp.mv (Opd.t 1))
  none, EOper.mk (some 9) (EOp.len false (Opd.t 8)) none, EOper.mk (some 10) (EOp.bin .neq (Opd.t 7) (Opd.t 9)) none]) (EC.cond (Opd.t 10) (EC.seq (EC.ops false [EOper.mk
  (some 4) (EOp.mv (Opd.c (V.bool false))) none]) EC.ret) EC.skip)
def b34_2 : EC := EC.seq (EC.ops false [EOper.mk (some 11) (EOp.mv (Opd.t 0)) none, EOper.mk (some 12) (EOp.len false (Opd.t 11)) none, EOper.mk (some 13) (EOp.mv (Opd.c
  (V.int .i64 (0)))) none]) (EC.block 0 (EC.loop l34_0))
def b34_3 : EC := EC.ops false [EOper.mk (some 4) (EOp.mv (Opd.c (V.bool true))) none]
def b34_4 : EC := EC.ret
def r34_4 : EC := b34_4
def r34_3 : EC := EC.seq b34_3 r34_4
def r34_2 : EC := EC.seq b34_2 r34_3
def r34_1 : EC := EC.seq b34_1 r34_2
def r34_0 : EC := EC.seq b34_0 r34_1
def e34 : EFun := EFun.mk 26 [ERes.t 4] r34_0
theorem c34 : cFun Tryd.prog 1 (fun _ => false) Tryd.f34 = some e34 := by kernel_rfl
theorem x34 : Tryd.prog.funcs[34]? = some Tryd.f34 := by kernel_rfl
theorem n34 : (Tryd.f34.name == "runtime.NumGoroutine") = false := by kernel_rfl
/-! 35: reach.Of -/
def b35_0 : EC := EC.ops false [EOper.mk (some 4) (EOp.alloc true 41 [V.int .u32 (0), V.int .u32 (0)]) none, EOper.mk (some 5) (EOp.mv (Opd.c (V.bool false))) none]
def b35_1 : EC := EC.seq (EC.ops false [EOper.mk (some 6) (EOp.mv (Opd.t 1)) none, EOper.mk (some 7) (EOp.bin .lss (Opd.t 6) (Opd.c (V.int .i64 (1)))) none, EOper.mk (some
  8) (EOp.mv (Opd.t 7)) none, EOper.mk (some 9) (EOp.mv (Opd.t 1)) (some (8, false)), EOper.mk (some 10) (EOp.bin .sub (Opd.t 9) (Opd.c (V.int .i64 (1)))) (some (8,
  false)), EOper.mk (some 11) (EOp.mv (Opd.t 0)) (some (8, false)), EOper.mk (some 12) (EOp.un .xor (Opd.t 11)) (some (8, false)), EOper.mk (some 13) (EOp.conv .i64 (Opd.t
  12)) (some (8, false)), EOper.mk (some 14) (EOp.bin .gtr (Opd.t 10) (Opd.t 13)) (some (8, false)), EOper.mk (some 15) (EOp.pick (Opd.t 8) (Opd.c (V.bool true)) (Opd.t
  14)) none]) (EC.cond (Opd.t 15) (EC.seq (EC.ops false [EOper.mk (some 16) (EOp.build [V.int .u32 (0), V.int .u32 (0)] []) none, EOper.mk none (EOp.st 2 (Opd.t 4) (Opd.t
  16)) none, EOper.mk (some 5) (EOp.mv (Opd.c (V.bool false))) none]) EC.ret) EC.skip)
def b35_2 : EC := EC.ops false [EOper.mk (some 17) (EOp.mv (Opd.t 0)) none, EOper.mk (some 18) (EOp.mv (Opd.t 0)) none, EOper.mk (some 19) (EOp.mv (Opd.t 1)) none,
  EOper.mk (some 20) (EOp.bin .sub (Opd.t 19) (Opd.c (V.int .i64 (1)))) none, EOper.mk (some 21) (EOp.conv .u32 (Opd.t 20)) none, EOper.mk (some 22) (EOp.bin .add (Opd.t
  18) (Opd.t 21)) none, EOper.mk (some 23) (EOp.build [V.int .u32 (0), V.int .u32 (0)] [(0, 1, Opd.t 17), (1, 1, Opd.t 22)]) none, EOper.mk none (EOp.st 2 (Opd.t 4) (Opd.t
  23)) none, EOper.mk (some 5) (EOp.mv (Opd.c (V.bool true))) none]
def b35_3 : EC := EC.ret
def r35_3 : EC := b35_3
def r35_2 : EC := EC.seq b35_2 r35_3
def r35_1 : EC := EC.seq b35_1 r35_2
def r35_0 : EC := EC.seq b35_0 r35_1
def e35 : EFun := EFun.mk 24 [ERes.c 4 2, ERes.t 5] r35_0
theorem c35 : cFun Tryd.prog 1 (fun _ => false) Tryd.f35 = some e35 := by kernel_rfl
theorem x35 : Tryd.prog.funcs[35]? = some Tryd.f35 := by kernel_rfl
theorem n35 : (Tryd.f35.name == "runtime.NumGoroutine") = false := by kernel_rfl
/-! 36: reach.Right -/
/-! 37: septumkit.markByte -/
def b37_0 : EC := EC.ops false [EOper.mk (some 4) (EOp.mv (Opd.c (V.int .u8 (0)))) none]
def b37_1 : EC := EC.ops false [EOper.mk (some 5) (EOp.mv (Opd.t 0)) none, EOper.mk (some 6) (EOp.mv (Opd.t 1)) none, EOper.mk (some 7) (EOp.call (Opd.f 54) [Opd.t 5,
  Opd.t 6]) none, EOper.mk (some 8) (EOp.conv .u64 (Opd.t 7)) none, EOper.mk (some 9) (EOp.bin .mul (Opd.t 8) (Opd.c (V.int .u64 (11400714819323198485)))) none, EOper.mk
  (some 10) (EOp.bin .shr (Opd.t 9) (Opd.c (V.int .u64 (56)))) none, EOper.mk (some 11) (EOp.conv .u8 (Opd.t 10)) none, EOper.mk (some 4) (EOp.mv (Opd.t 11)) none]
def b37_2 : EC := EC.ret
def r37_2 : EC := b37_2
def r37_1 : EC := EC.seq b37_1 r37_2
def r37_0 : EC := EC.seq b37_0 r37_1
def e37 : EFun := EFun.mk 12 [ERes.t 4] r37_0
theorem c37 : cFun Tryd.prog 1 (fun _ => false) Tryd.f37 = some e37 := by kernel_rfl
theorem x37 : Tryd.prog.funcs[37]? = some Tryd.f37 := by kernel_rfl
theorem n37 : (Tryd.f37.name == "runtime.NumGoroutine") = false := by kernel_rfl
/-! 38: septumref01.Of -/
def l38_0p0 : EC := EC.seq (EC.ops false [EOper.mk (some 13) (EOp.mv (Opd.t 5)) none, EOper.mk (some 14) (EOp.bin .geq (Opd.t 13) (Opd.c (V.int .i64 (0)))) none]) (EC.cond
  (Opd.t 14) EC.skip (EC.exit 0))
def l38_0p1 : EC := EC.block 1 (EC.ops false [EOper.mk (some 17) (EOp.mv (Opd.t 4)) none, EOper.mk (some 18) (EOp.bin .mul (Opd.c (V.int .u32 (256))) (Opd.t 17)) none,
  EOper.mk (some 19) (EOp.mv (Opd.t 0)) none, EOper.mk (some 20) (EOp.mv (Opd.t 5)) none, EOper.mk (some 21) (EOp.ixs 1 (Opd.t 19) (Opd.t 20)) none, EOper.mk (some 22)
  (EOp.ld false 1 (Opd.t 21)) none, EOper.mk (some 23) (EOp.conv .u32 (Opd.t 22)) none, EOper.mk (some 24) (EOp.bin .add (Opd.t 18) (Opd.t 23)) none, EOper.mk (some 4)
  (EOp.mv (Opd.t 24)) none])
def l38_0p2 : EC := EC.ops false [EOper.mk (some 15) (EOp.mv (Opd.t 5)) none, EOper.mk (some 16) (EOp.bin .sub (Opd.t 15) (Opd.c (V.int .i64 (1)))) none, EOper.mk (some 5)
  (EOp.mv (Opd.t 16)) none]
def l38_0r2 : EC := l38_0p2
def l38_0r1 : EC := EC.seq l38_0p1 l38_0r2
def l38_0r0 : EC := EC.seq l38_0p0 l38_0r1
def l38_0 : EC := l38_0r0
def b38_0 : EC := EC.ops false [EOper.mk (some 2) (EOp.mv (Opd.c (V.int .u32 (0)))) none, EOper.mk (some 3) (EOp.mv (Opd.c (V.bool false))) none]
def b38_1 : EC := EC.seq (EC.ops false [EOper.mk (some 6) (EOp.mv (Opd.t 0)) none, EOper.mk (some 7) (EOp.len false (Opd.t 6)) none, EOper.mk (some 8) (EOp.call (Opd.f 51)
  [Opd.t 7]) none, EOper.mk (some 9) (EOp.un .not (Opd.t 8)) none]) (EC.cond (Opd.t 9) (EC.seq (EC.ops false [EOper.mk (some 2) (EOp.mv (Opd.c (V.int .u32 (0)))) none,
  EOper.mk (some 3) (EOp.mv (Opd.c (V.bool false))) none]) EC.ret) EC.skip)
def b38_2 : EC := EC.ops false [EOper.mk (some 4) (EOp.mv (Opd.c (V.int .u32 (0)))) none]
def b38_3 : EC := EC.seq (EC.ops false [EOper.mk (some 10) (EOp.mv (Opd.t 0)) none, EOper.mk (some 11) (EOp.len false (Opd.t 10)) none, EOper.mk (some 12) (EOp.bin .sub
  (Opd.t 11) (Opd.c (V.int .i64 (1)))) none, EOper.mk (some 5) (EOp.mv (Opd.t 12)) none]) (EC.block 0 (EC.loop l38_0))
def b38_4 : EC := EC.ops false [EOper.mk (some 25) (EOp.mv (Opd.t 4)) none, EOper.mk (some 2) (EOp.mv (Opd.t 25)) none, EOper.mk (some 3) (EOp.mv (Opd.c (V.bool true)))
  none]
def b38_5 : EC := EC.ret
def r38_5 : EC := b38_5
def r38_4 : EC := EC.seq b38_4 r38_5
def r38_3 : EC := EC.seq b38_3 r38_4
def r38_2 : EC := EC.seq b38_2 r38_3
def r38_1 : EC := EC.seq b38_1 r38_2
def r38_0 : EC := EC.seq b38_0 r38_1
def e38 : EFun := EFun.mk 26 [ERes.t 2, ERes.t 3] r38_0
theorem c38 : cFun Tryd.prog 1 (fun _ => false) Tryd.f38 = some e38 := by kernel_rfl
theorem x38 : Tryd.prog.funcs[38]? = some Tryd.f38 := by kernel_rfl
theorem n38 : (Tryd.f38.name == "runtime.NumGoroutine") = false := by kernel_rfl
/-! 39: slices.ContainsFunc:func()_bool -/
def b39_0 : EC := EC.ops false [EOper.mk (some 4) (EOp.mv (Opd.c (V.bool false))) none]
def b39_1 : EC := EC.ops false [EOper.mk (some 5) (EOp.mv (Opd.t 0)) none, EOper.mk (some 6) (EOp.mv (Opd.t 1)) none, EOper.mk (some 7) (EOp.call (Opd.f 55) [Opd.t 5,
  Opd.t 6]) none, EOper.mk (some 8) (EOp.bin .geq (Opd.t 7) (Opd.c (V.int .i64 (0)))) none, EOper.mk (some 4) (EOp.mv (Opd.t 8)) none]
def b39_2 : EC := EC.ret
def r39_2 : EC := b39_2
def r39_1 : EC := EC.seq b39_1 r39_2
def r39_0 : EC := EC.seq b39_0 r39_1
def e39 : EFun := EFun.mk 9 [ERes.t 4] r39_0
theorem c39 : cFun Tryd.prog 1 (fun _ => false) Tryd.f39 = some e39 := by kernel_rfl
theorem x39 : Tryd.prog.funcs[39]? = some Tryd.f39 := by kernel_rfl
theorem n39 : (Tryd.f39.name == "runtime.NumGoroutine") = false := by kernel_rfl
/-! 40: access.record.world -/
def b40_0 : EC := EC.ops false [EOper.mk (some 1) (EOp.box true 52 (Opd.t 0)) none, EOper.mk (some 2) (EOp.mv (Opd.c (V.bool false))) none]
def b40_1 : EC := EC.ops false [EOper.mk (some 3) (EOp.fa 0 (Opd.t 1)) none, EOper.mk (some 4) (EOp.fa 0 (Opd.t 3)) none, EOper.mk (some 5) (EOp.ld false 1 (Opd.t 4))
  none, EOper.mk (some 6) (EOp.bin .geq (Opd.t 5) (Opd.c (V.int .i64 (0)))) none, EOper.mk (some 7) (EOp.mv (Opd.t 6)) none, EOper.mk (some 8) (EOp.fa 0 (Opd.t 1)) (some
  (7, true)), EOper.mk (some 9) (EOp.fa 0 (Opd.t 8)) (some (7, true)), EOper.mk (some 10) (EOp.ld false 1 (Opd.t 9)) (some (7, true)), EOper.mk (some 11) (EOp.bin .lss
  (Opd.t 10) (Opd.c (V.int .i64 (8)))) (some (7, true)), EOper.mk (some 12) (EOp.pick (Opd.t 7) (Opd.t 11) (Opd.c (V.bool false))) none, EOper.mk (some 2) (EOp.mv (Opd.t
  12)) none]
def b40_2 : EC := EC.ret
def r40_2 : EC := b40_2
def r40_1 : EC := EC.seq b40_1 r40_2
def r40_0 : EC := EC.seq b40_0 r40_1
def e40 : EFun := EFun.mk 13 [ERes.t 2] r40_0
theorem c40 : cFun Tryd.prog 1 (fun _ => false) Tryd.f40 = some e40 := by kernel_rfl
theorem x40 : Tryd.prog.funcs[40]? = some Tryd.f40 := by kernel_rfl
theorem n40 : (Tryd.f40.name == "runtime.NumGoroutine") = false := by kernel_rfl
/-! 41: access.record.place -/
def b41_0 : EC := EC.ops false [EOper.mk (some 1) (EOp.box true 52 (Opd.t 0)) none, EOper.mk (some 2) (EOp.mv (Opd.c (V.bool false))) none]
def b41_1 : EC := EC.ops false [EOper.mk (some 3) (EOp.fa 0 (Opd.t 1)) none, EOper.mk (some 4) (EOp.fa 2 (Opd.t 3)) none, EOper.mk (some 5) (EOp.ld false 1 (Opd.t 4))
  none, EOper.mk (some 6) (EOp.fa 0 (Opd.t 1)) none, EOper.mk (some 7) (EOp.fa 3 (Opd.t 6)) none, EOper.mk (some 8) (EOp.ld false 1 (Opd.t 7)) none, EOper.mk (some 9)
  (EOp.call (Opd.f 56) [Opd.t 5, Opd.t 8]) none, EOper.mk (some 2) (EOp.mv (Opd.t 9)) none]
def b41_2 : EC := EC.ret
def r41_2 : EC := b41_2
def r41_1 : EC := EC.seq b41_1 r41_2
def r41_0 : EC := EC.seq b41_0 r41_1
def e41 : EFun := EFun.mk 10 [ERes.t 2] r41_0
theorem c41 : cFun Tryd.prog 1 (fun _ => false) Tryd.f41 = some e41 := by kernel_rfl
theorem x41 : Tryd.prog.funcs[41]? = some Tryd.f41 := by kernel_rfl
theorem n41 : (Tryd.f41.name == "runtime.NumGoroutine") = false := by kernel_rfl
/-! 42: access.record.data -/
def b42_0 : EC := EC.ops false [EOper.mk (some 1) (EOp.box true 52 (Opd.t 0)) none, EOper.mk (some 2) (EOp.mv (Opd.c (V.bool false))) none]
def b42_1 : EC := EC.ops false [EOper.mk (some 6) (EOp.fa 0 (Opd.t 1)) none, EOper.mk (some 7) (EOp.fa 4 (Opd.t 6)) none, EOper.mk (some 8) (EOp.ld false 1 (Opd.t 7))
  none, EOper.mk (some 9) (EOp.fa 0 (Opd.t 1)) none, EOper.mk (some 10) (EOp.fa 3 (Opd.t 9)) none, EOper.mk (some 11) (EOp.ld false 1 (Opd.t 10)) none, EOper.mk (some 12)
  (EOp.call (Opd.f 57) [Opd.t 8, Opd.t 11]) none, EOper.mk (some 5) (EOp.mv (Opd.t 12)) none, EOper.mk (some 13) (EOp.ext (Opd.t 5) 0) none, EOper.mk (some 14) (EOp.ext
  (Opd.t 5) 1) none, EOper.mk (some 3) (EOp.mv (Opd.t 13)) none, EOper.mk (some 4) (EOp.mv (Opd.t 14)) none]
def b42_2 : EC := EC.ops false [EOper.mk (some 15) (EOp.mv (Opd.t 4)) none, EOper.mk (some 16) (EOp.mv (Opd.t 15)) none, EOper.mk (some 17) (EOp.mv (Opd.t 3)) (some (16,
  true)), EOper.mk (some 18) (EOp.fa 0 (Opd.t 1)) (some (16, true)), EOper.mk (some 19) (EOp.fa 4 (Opd.t 18)) (some (16, true)), EOper.mk (some 20) (EOp.ld false 1 (Opd.t
  19)) (some (16, true)), EOper.mk (some 21) (EOp.bin .eql (Opd.t 17) (Opd.t 20)) (some (16, true)), EOper.mk (some 22) (EOp.pick (Opd.t 16) (Opd.t 21) (Opd.c (V.bool
  false))) none, EOper.mk (some 23) (EOp.mv (Opd.t 22)) none, EOper.mk (some 24) (EOp.fa 0 (Opd.t 1)) (some (23, true)), EOper.mk (some 25) (EOp.fa 1 (Opd.t 24)) (some
  (23, true)), EOper.mk (some 26) (EOp.ld false 1 (Opd.t 25)) (some (23, true)), EOper.mk (some 27) (EOp.mv (Opd.t 26)) (some (23, true)), EOper.mk (some 28) (EOp.fa 0
  (Opd.t 1)) (some (27, false)), EOper.mk (some 29) (EOp.fa 4 (Opd.t 28)) (some (27, false)), EOper.mk (some 30) (EOp.ld false 1 (Opd.t 29)) (some (27, false)), EOper.mk
  (some 31) (EOp.bin .eql (Opd.t 30) (Opd.c (V.int .u32 (0)))) (some (27, false)), EOper.mk (some 32) (EOp.pick (Opd.t 27) (Opd.c (V.bool true)) (Opd.t 31)) (some (23,
  true)), EOper.mk (some 33) (EOp.pick (Opd.t 23) (Opd.t 32) (Opd.c (V.bool false))) none, EOper.mk (some 2) (EOp.mv (Opd.t 33)) none]
def b42_3 : EC := EC.ret
def r42_3 : EC := b42_3
def r42_2 : EC := EC.seq b42_2 r42_3
def r42_1 : EC := EC.seq b42_1 r42_2
def r42_0 : EC := EC.seq b42_0 r42_1
def e42 : EFun := EFun.mk 34 [ERes.t 2] r42_0
theorem c42 : cFun Tryd.prog 1 (fun _ => false) Tryd.f42 = some e42 := by kernel_rfl
theorem x42 : Tryd.prog.funcs[42]? = some Tryd.f42 := by kernel_rfl
theorem n42 : (Tryd.f42.name == "runtime.NumGoroutine") = false := by kernel_rfl
/-! 43: access.record.right$1 -/
def b43_0 : EC := EC.ops false [EOper.mk (some 2) (EOp.mv (Opd.c (V.bool false))) none]
def b43_1 : EC := EC.ops false [EOper.mk (some 3) (EOp.mv (Opd.t 0)) none, EOper.mk (some 4) (EOp.call (Opd.t 3) []) none, EOper.mk (some 5) (EOp.un .not (Opd.t 4)) none,
  EOper.mk (some 2) (EOp.mv (Opd.t 5)) none]
def b43_2 : EC := EC.ret
def r43_2 : EC := b43_2
def r43_1 : EC := EC.seq b43_1 r43_2
def r43_0 : EC := EC.seq b43_0 r43_1
def e43 : EFun := EFun.mk 6 [ERes.t 2] r43_0
theorem c43 : cFun Tryd.prog 1 (fun _ => false) Tryd.f43 = some e43 := by kernel_rfl
theorem x43 : Tryd.prog.funcs[43]? = some Tryd.f43 := by kernel_rfl
theorem n43 : (Tryd.f43.name == "runtime.NumGoroutine") = false := by kernel_rfl
/-! 44: slices.Concat:byte -/
def l44_0p0 : EC := EC.ops false [EOper.mk (some 12) (EOp.bin .lss (Opd.t 11) (Opd.t 10)) none]
def l44_0p1 : EC := EC.cond (Opd.t 12) EC.skip (EC.exit 0)
def l44_0p2 : EC := EC.block 1 (EC.seq (EC.ops false [EOper.mk (some 13) (EOp.ixs 1 (Opd.t 9) (Opd.t 11)) none, EOper.mk (some 14) (EOp.ld false 1 (Opd.t 13)) none,
  EOper.mk (some 5) (EOp.mv (Opd.t 14)) none]) (EC.seq (EC.ops false [EOper.mk (some 15) (EOp.mv (Opd.t 3)) none, EOper.mk (some 16) (EOp.mv (Opd.t 5)) none, EOper.mk
  (some 17) (EOp.len false (Opd.t 16)) none, EOper.mk (some 18) (EOp.bin .add (Opd.t 15) (Opd.t 17)) none, EOper.mk (some 3) (EOp.mv (Opd.t 18)) none]) (EC.seq (EC.ops
  false [EOper.mk (some 19) (EOp.mv (Opd.t 3)) none, EOper.mk (some 20) (EOp.bin .lss (Opd.t 19) (Opd.c (V.int .i64 (0)))) none]) (EC.cond (Opd.t 20) (EC.ops false
  [EOper.mk (some 21) EOp.stuck none, EOper.mk none EOp.stuck none]) EC.skip))))
def l44_0p3 : EC := EC.ops false [EOper.mk (some 22) (EOp.bin .add (Opd.t 11) (Opd.c (V.int .i64 (1)))) none, EOper.mk (some 11) (EOp.mv (Opd.t 22)) none]
def l44_0r3 : EC := l44_0p3
def l44_0r2 : EC := EC.seq l44_0p2 l44_0r3
def l44_0r1 : EC := EC.seq l44_0p1 l44_0r2
def l44_0r0 : EC := EC.seq l44_0p0 l44_0r1
def l44_0 : EC := l44_0r0
def l44_1p0 : EC := EC.ops false [EOper.mk (some 28) (EOp.bin .lss (Opd.t 27) (Opd.t 26)) none]
def l44_1p1 : EC := EC.cond (Opd.t 28) EC.skip (EC.exit 2)
def l44_1p2 : EC := EC.block 3 (EC.seq (EC.ops false [EOper.mk (some 29) (EOp.ixs 1 (Opd.t 25) (Opd.t 27)) none, EOper.mk (some 30) (EOp.ld false 1 (Opd.t 29)) none,
  EOper.mk (some 8) (EOp.mv (Opd.t 30)) none]) (EC.ops false [EOper.mk (some 31) (EOp.mv (Opd.t 6)) none, EOper.mk (some 32) (EOp.mv (Opd.t 8)) none, EOper.mk (some 33)
  (EOp.app 5 1 1 [V.int .u8 (0)] (Opd.t 31) (Opd.t 32)) none, EOper.mk (some 6) (EOp.mv (Opd.t 33)) none]))
def l44_1p3 : EC := EC.ops false [EOper.mk (some 34) (EOp.bin .add (Opd.t 27) (Opd.c (V.int .i64 (1)))) none, EOper.mk (some 27) (EOp.mv (Opd.t 34)) none]
def l44_1r3 : EC := l44_1p3
def l44_1r2 : EC := EC.seq l44_1p2 l44_1r3
def l44_1r1 : EC := EC.seq l44_1p1 l44_1r2
def l44_1r0 : EC := EC.seq l44_1p0 l44_1r1
def l44_1 : EC := l44_1r0
def b44_0 : EC := EC.ops false [EOper.mk (some 2) (EOp.mv (Opd.c (V.sl none 0 0))) none]
def b44_1 : EC := EC.ops false [EOper.mk (some 3) (EOp.mv (Opd.c (V.int .i64 (0)))) none]
def b44_2 : EC := EC.seq (EC.ops false [EOper.mk (some 9) (EOp.mv (Opd.t 0)) none, EOper.mk (some 10) (EOp.len false (Opd.t 9)) none, EOper.mk (some 11) (EOp.mv (Opd.c
  (V.int .i64 (0)))) none]) (EC.block 0 (EC.loop l44_0))
def b44_3 : EC := EC.ops false [EOper.mk (some 23) (EOp.mv (Opd.t 3)) none, EOper.mk (some 24) (EOp.call (Opd.f 58) [Opd.c (V.sl none 0 0), Opd.t 23]) none, EOper.mk (some
  6) (EOp.mv (Opd.t 24)) none]
def b44_4 : EC := EC.seq (EC.ops false [EOper.mk (some 25) (EOp.mv (Opd.t 0)) none, EOper.mk (some 26) (EOp.len false (Opd.t 25)) none, EOper.mk (some 27) (EOp.mv (Opd.c
  (V.int .i64 (0)))) none]) (EC.block 2 (EC.loop l44_1))
def b44_5 : EC := EC.ops false [EOper.mk (some 35) (EOp.mv (Opd.t 6)) none, EOper.mk (some 2) (EOp.mv (Opd.t 35)) none]
def b44_6 : EC := EC.ret
def r44_6 : EC := b44_6
def r44_5 : EC := EC.seq b44_5 r44_6
def r44_4 : EC := EC.seq b44_4 r44_5
def r44_3 : EC := EC.seq b44_3 r44_4
def r44_2 : EC := EC.seq b44_2 r44_3
def r44_1 : EC := EC.seq b44_1 r44_2
def r44_0 : EC := EC.seq b44_0 r44_1
def e44 : EFun := EFun.mk 36 [ERes.t 2] r44_0
theorem c44 : cFun Tryd.prog 1 (fun _ => false) Tryd.f44 = some e44 := by kernel_rfl
theorem x44 : Tryd.prog.funcs[44]? = some Tryd.f44 := by kernel_rfl
theorem n44 : (Tryd.f44.name == "runtime.NumGoroutine") = false := by kernel_rfl
/-! 45: word.Size -/
def b45_0 : EC := EC.ops false [EOper.mk (some 2) (EOp.mv (Opd.c (V.bool false))) none]
def b45_1 : EC := EC.ops false [EOper.mk (some 3) (EOp.slca 3 1 (Opd.g 0) none none) none, EOper.mk (some 4) (EOp.mv (Opd.t 0)) none, EOper.mk (some 5) (EOp.call (Opd.f
  59) [Opd.t 3, Opd.t 4]) none, EOper.mk (some 2) (EOp.mv (Opd.t 5)) none]
def b45_2 : EC := EC.ret
def r45_2 : EC := b45_2
def r45_1 : EC := EC.seq b45_1 r45_2
def r45_0 : EC := EC.seq b45_0 r45_1
def e45 : EFun := EFun.mk 6 [ERes.t 2] r45_0
theorem c45 : cFun Tryd.prog 1 (fun _ => false) Tryd.f45 = some e45 := by kernel_rfl
theorem x45 : Tryd.prog.funcs[45]? = some Tryd.f45 := by kernel_rfl
theorem n45 : (Tryd.f45.name == "runtime.NumGoroutine") = false := by kernel_rfl
/-! 46: septumref02.Of -/
def b46_0 : EC := EC.ops false [EOper.mk (some 4) (EOp.alloc true 41 [V.int .u32 (0), V.int .u32 (0)]) none, EOper.mk (some 5) (EOp.mv (Opd.c (V.bool false))) none]
def b46_1 : EC := EC.seq (EC.ops false [EOper.mk (some 6) (EOp.mv (Opd.t 1)) none, EOper.mk (some 7) (EOp.bin .lss (Opd.t 6) (Opd.c (V.int .i64 (1)))) none, EOper.mk (some
  8) (EOp.mv (Opd.t 7)) none, EOper.mk (some 9) (EOp.mv (Opd.t 1)) (some (8, false)), EOper.mk (some 10) (EOp.mv (Opd.t 0)) (some (8, false)), EOper.mk (some 11) (EOp.conv
  .i64 (Opd.t 10)) (some (8, false)), EOper.mk (some 12) (EOp.bin .sub (Opd.c (V.int .i64 (4294967296))) (Opd.t 11)) (some (8, false)), EOper.mk (some 13) (EOp.bin .gtr
  (Opd.t 9) (Opd.t 12)) (some (8, false)), EOper.mk (some 14) (EOp.pick (Opd.t 8) (Opd.c (V.bool true)) (Opd.t 13)) none]) (EC.cond (Opd.t 14) (EC.seq (EC.ops false
  [EOper.mk (some 15) (EOp.build [V.int .u32 (0), V.int .u32 (0)] []) none, EOper.mk none (EOp.st 2 (Opd.t 4) (Opd.t 15)) none, EOper.mk (some 5) (EOp.mv (Opd.c (V.bool
  false))) none]) EC.ret) EC.skip)
def b46_2 : EC := EC.ops false [EOper.mk (some 16) (EOp.mv (Opd.t 0)) none, EOper.mk (some 17) (EOp.mv (Opd.t 0)) none, EOper.mk (some 18) (EOp.conv .i64 (Opd.t 17)) none,
  EOper.mk (some 19) (EOp.mv (Opd.t 1)) none, EOper.mk (some 20) (EOp.bin .add (Opd.t 18) (Opd.t 19)) none, EOper.mk (some 21) (EOp.bin .sub (Opd.t 20) (Opd.c (V.int .i64
  (1)))) none, EOper.mk (some 22) (EOp.conv .u32 (Opd.t 21)) none, EOper.mk (some 23) (EOp.build [V.int .u32 (0), V.int .u32 (0)] [(0, 1, Opd.t 16), (1, 1, Opd.t 22)])
  none, EOper.mk none (EOp.st 2 (Opd.t 4) (Opd.t 23)) none, EOper.mk (some 5) (EOp.mv (Opd.c (V.bool true))) none]
def b46_3 : EC := EC.ret
def r46_3 : EC := b46_3
def r46_2 : EC := EC.seq b46_2 r46_3
def r46_1 : EC := EC.seq b46_1 r46_2
def r46_0 : EC := EC.seq b46_0 r46_1
def e46 : EFun := EFun.mk 24 [ERes.c 4 2, ERes.t 5] r46_0
theorem c46 : cFun Tryd.prog 1 (fun _ => false) Tryd.f46 = some e46 := by kernel_rfl
theorem x46 : Tryd.prog.funcs[46]? = some Tryd.f46 := by kernel_rfl
theorem n46 : (Tryd.f46.name == "runtime.NumGoroutine") = false := by kernel_rfl
/-! 47: septumref01.Low -/
def b47_0 : EC := EC.ops false [EOper.mk (some 4) (EOp.mv (Opd.c (V.int .u32 (0)))) none, EOper.mk (some 5) (EOp.mv (Opd.c (V.bool false))) none]
def b47_1 : EC := EC.seq (EC.ops false [EOper.mk (some 8) (EOp.mv (Opd.t 1)) none, EOper.mk (some 9) (EOp.call (Opd.f 51) [Opd.t 8]) none, EOper.mk (some 10) (EOp.un .not
  (Opd.t 9)) none]) (EC.cond (Opd.t 10) (EC.seq (EC.ops false [EOper.mk (some 4) (EOp.mv (Opd.c (V.int .u32 (0)))) none, EOper.mk (some 5) (EOp.mv (Opd.c (V.bool false)))
  none]) EC.ret) EC.skip)
def b47_2 : EC := EC.ops false [EOper.mk (some 12) (EOp.mv (Opd.t 0)) none, EOper.mk (some 13) (EOp.mv (Opd.t 1)) none, EOper.mk (some 14) (EOp.call (Opd.f 32) [Opd.t 12,
  Opd.t 13]) none, EOper.mk (some 15) (EOp.call (Opd.f 38) [Opd.t 14]) none, EOper.mk (some 11) (EOp.mv (Opd.t 15)) none, EOper.mk (some 16) (EOp.ext (Opd.t 11) 0) none,
  EOper.mk (some 17) (EOp.ext (Opd.t 11) 1) none, EOper.mk (some 6) (EOp.mv (Opd.t 16)) none, EOper.mk (some 7) (EOp.mv (Opd.t 17)) none]
def b47_3 : EC := EC.ops false [EOper.mk (some 18) (EOp.mv (Opd.t 6)) none, EOper.mk (some 4) (EOp.mv (Opd.t 18)) none, EOper.mk (some 5) (EOp.mv (Opd.c (V.bool true)))
  none]
def b47_4 : EC := EC.ret
def r47_4 : EC := b47_4
def r47_3 : EC := EC.seq b47_3 r47_4
def r47_2 : EC := EC.seq b47_2 r47_3
def r47_1 : EC := EC.seq b47_1 r47_2
def r47_0 : EC := EC.seq b47_0 r47_1
def e47 : EFun := EFun.mk 19 [ERes.t 4, ERes.t 5] r47_0
theorem c47 : cFun Tryd.prog 1 (fun _ => false) Tryd.f47 = some e47 := by kernel_rfl
theorem x47 : Tryd.prog.funcs[47]? = some Tryd.f47 := by kernel_rfl
theorem n47 : (Tryd.f47.name == "runtime.NumGoroutine") = false := by kernel_rfl
/-! 48: septumref03.Aligned -/
def b48_0 : EC := EC.ops false [EOper.mk (some 4) (EOp.mv (Opd.c (V.bool false))) none]
def b48_1 : EC := EC.ops false [EOper.mk (some 5) (EOp.mv (Opd.t 1)) none, EOper.mk (some 6) (EOp.call (Opd.f 51) [Opd.t 5]) none, EOper.mk (some 7) (EOp.mv (Opd.t 6))
  none, EOper.mk (some 8) (EOp.mv (Opd.t 0)) (some (7, true)), EOper.mk (some 9) (EOp.conv .i64 (Opd.t 8)) (some (7, true)), EOper.mk (some 10) (EOp.mv (Opd.t 1)) (some
  (7, true)), EOper.mk (some 11) (EOp.bin .rem (Opd.t 9) (Opd.t 10)) (some (7, true)), EOper.mk (some 12) (EOp.bin .eql (Opd.t 11) (Opd.c (V.int .i64 (0)))) (some (7,
  true)), EOper.mk (some 13) (EOp.pick (Opd.t 7) (Opd.t 12) (Opd.c (V.bool false))) none, EOper.mk (some 4) (EOp.mv (Opd.t 13)) none]
def b48_2 : EC := EC.ret
def r48_2 : EC := b48_2
def r48_1 : EC := EC.seq b48_1 r48_2
def r48_0 : EC := EC.seq b48_0 r48_1
def e48 : EFun := EFun.mk 14 [ERes.t 4] r48_0
theorem c48 : cFun Tryd.prog 1 (fun _ => false) Tryd.f48 = some e48 := by kernel_rfl
theorem x48 : Tryd.prog.funcs[48]? = some Tryd.f48 := by kernel_rfl
theorem n48 : (Tryd.f48.name == "runtime.NumGoroutine") = false := by kernel_rfl
/-! 51: septumref01.Size -/
def b51_0 : EC := EC.ops false [EOper.mk (some 2) (EOp.mv (Opd.c (V.bool false))) none]
def b51_1 : EC := EC.ops false [EOper.mk (some 3) (EOp.mv (Opd.t 0)) none, EOper.mk (some 4) (EOp.bin .eql (Opd.t 3) (Opd.c (V.int .i64 (1)))) none, EOper.mk (some 5)
  (EOp.mv (Opd.t 4)) none, EOper.mk (some 6) (EOp.mv (Opd.t 0)) (some (5, false)), EOper.mk (some 7) (EOp.bin .eql (Opd.t 6) (Opd.c (V.int .i64 (2)))) (some (5, false)),
  EOper.mk (some 8) (EOp.pick (Opd.t 5) (Opd.c (V.bool true)) (Opd.t 7)) none, EOper.mk (some 9) (EOp.mv (Opd.t 8)) none, EOper.mk (some 10) (EOp.mv (Opd.t 0)) (some (9,
  false)), EOper.mk (some 11) (EOp.bin .eql (Opd.t 10) (Opd.c (V.int .i64 (4)))) (some (9, false)), EOper.mk (some 12) (EOp.pick (Opd.t 9) (Opd.c (V.bool true)) (Opd.t
  11)) none, EOper.mk (some 2) (EOp.mv (Opd.t 12)) none]
def b51_2 : EC := EC.ret
def r51_2 : EC := b51_2
def r51_1 : EC := EC.seq b51_1 r51_2
def r51_0 : EC := EC.seq b51_0 r51_1
def e51 : EFun := EFun.mk 13 [ERes.t 2] r51_0
theorem c51 : cFun Tryd.prog 1 (fun _ => false) Tryd.f51 = some e51 := by kernel_rfl
theorem x51 : Tryd.prog.funcs[51]? = some Tryd.f51 := by kernel_rfl
theorem n51 : (Tryd.f51.name == "runtime.NumGoroutine") = false := by kernel_rfl
/-! 52: slices.Backward:byte -/
theorem x52 : Tryd.prog.funcs[52]? = some Tryd.f52 := by kernel_rfl
/-! 53: reach.ends.right -/
/-! 54: septumkit.mark -/
def b54_0 : EC := EC.ops false [EOper.mk (some 4) (EOp.mv (Opd.c (V.int .i64 (0)))) none]
def b54_1 : EC := EC.ops false [EOper.mk (some 5) (EOp.mv (Opd.t 0)) none, EOper.mk (some 6) (EOp.bin .add (Opd.t 5) (Opd.c (V.int .i64 (7)))) none, EOper.mk (some 7)
  (EOp.bin .mul (Opd.c (V.int .i64 (1000003))) (Opd.t 6)) none, EOper.mk (some 8) (EOp.mv (Opd.t 1)) none, EOper.mk (some 9) (EOp.bin .add (Opd.t 7) (Opd.t 8)) none,
  EOper.mk (some 4) (EOp.mv (Opd.t 9)) none]
def b54_2 : EC := EC.ret
def r54_2 : EC := b54_2
def r54_1 : EC := EC.seq b54_1 r54_2
def r54_0 : EC := EC.seq b54_0 r54_1
def e54 : EFun := EFun.mk 10 [ERes.t 4] r54_0
theorem c54 : cFun Tryd.prog 1 (fun _ => false) Tryd.f54 = some e54 := by kernel_rfl
theorem x54 : Tryd.prog.funcs[54]? = some Tryd.f54 := by kernel_rfl
theorem n54 : (Tryd.f54.name == "runtime.NumGoroutine") = false := by kernel_rfl
/-! 55: slices.IndexFunc:func()_bool -/
def l55_0p0 : EC := EC.ops false [EOper.mk (some 9) (EOp.bin .lss (Opd.t 8) (Opd.t 7)) none]
def l55_0p1 : EC := EC.cond (Opd.t 9) EC.skip (EC.exit 0)
def l55_0p2 : EC := EC.block 1 (EC.seq (EC.ops false [EOper.mk (some 10) (EOp.mv (Opd.t 8)) none, EOper.mk (some 5) (EOp.mv (Opd.t 10)) none]) (EC.seq (EC.ops false
  [EOper.mk (some 11) (EOp.mv (Opd.t 1)) none, EOper.mk (some 12) (EOp.mv (Opd.t 0)) none, EOper.mk (some 13) (EOp.mv (Opd.t 5)) none, EOper.mk (some 14) (EOp.ixs 1 (Opd.t
  12) (Opd.t 13)) none, EOper.mk (some 15) (EOp.ld false 1 (Opd.t 14)) none, EOper.mk (some 16) (EOp.call (Opd.t 11) [Opd.t 15]) none]) (EC.cond (Opd.t 16) (EC.seq (EC.ops
  false [EOper.mk (some 17) (EOp.mv (Opd.t 5)) none, EOper.mk (some 4) (EOp.mv (Opd.t 17)) none]) EC.ret) EC.skip)))
def l55_0p3 : EC := EC.ops false [EOper.mk (some 18) (EOp.bin .add (Opd.t 8) (Opd.c (V.int .i64 (1)))) none, EOper.mk (some 8) (EOp.mv (Opd.t 18)) none]
def l55_0r3 : EC := l55_0p3
def l55_0r2 : EC := EC.seq l55_0p2 l55_0r3
def l55_0r1 : EC := EC.seq l55_0p1 l55_0r2
def l55_0r0 : EC := EC.seq l55_0p0 l55_0r1
def l55_0 : EC := l55_0r0
def b55_0 : EC := EC.ops false [EOper.mk (some 4) (EOp.mv (Opd.c (V.int .i64 (0)))) none]
def b55_1 : EC := EC.seq (EC.ops false [EOper.mk (some 6) (EOp.mv (Opd.t 0)) none, EOper.mk (some 7) (EOp.len false (Opd.t 6)) none, EOper.mk (some 8) (EOp.mv (Opd.c
  (V.int .i64 (0)))) none]) (EC.block 0 (EC.loop l55_0))
def b55_2 : EC := EC.ops false [EOper.mk (some 4) (EOp.mv (Opd.c (V.int .i64 (-1)))) none]
def b55_3 : EC := EC.ret
def r55_3 : EC := b55_3
def r55_2 : EC := EC.seq b55_2 r55_3
def r55_1 : EC := EC.seq b55_1 r55_2
def r55_0 : EC := EC.seq b55_0 r55_1
def e55 : EFun := EFun.mk 19 [ERes.t 4] r55_0
theorem c55 : cFun Tryd.prog 1 (fun _ => false) Tryd.f55 = some e55 := by kernel_rfl
theorem x55 : Tryd.prog.funcs[55]? = some Tryd.f55 := by kernel_rfl
theorem n55 : (Tryd.f55.name == "runtime.NumGoroutine") = false := by kernel_rfl
/-! 56: lane.Aligned -/
def b56_0 : EC := EC.ops false [EOper.mk (some 4) (EOp.mv (Opd.c (V.bool false))) none]
def b56_1 : EC := EC.ops false [EOper.mk (some 5) (EOp.mv (Opd.t 0)) none, EOper.mk (some 6) (EOp.build [V.int .u32 (0)] [(0, 1, Opd.t 5)]) none, EOper.mk (some 7) (EOp.mv
  (Opd.t 1)) none, EOper.mk (some 8) (EOp.build [V.int .u32 (0), V.int .i64 (0)] [(0, 1, Opd.t 6), (1, 1, Opd.t 7)]) none, EOper.mk (some 9) (EOp.call (Opd.f 78) [Opd.t
  8]) none, EOper.mk (some 4) (EOp.mv (Opd.t 9)) none]
def b56_2 : EC := EC.ret
def r56_2 : EC := b56_2
def r56_1 : EC := EC.seq b56_1 r56_2
def r56_0 : EC := EC.seq b56_0 r56_1
def e56 : EFun := EFun.mk 10 [ERes.t 4] r56_0
theorem c56 : cFun Tryd.prog 1 (fun _ => false) Tryd.f56 = some e56 := by kernel_rfl
theorem x56 : Tryd.prog.funcs[56]? = some Tryd.f56 := by kernel_rfl
theorem n56 : (Tryd.f56.name == "runtime.NumGoroutine") = false := by kernel_rfl
/-! 57: word.Low -/
def b57_0 : EC := EC.ops false [EOper.mk (some 4) (EOp.mv (Opd.c (V.int .u32 (0)))) none, EOper.mk (some 5) (EOp.mv (Opd.c (V.bool false))) none]
def b57_1 : EC := EC.seq (EC.ops false [EOper.mk (some 6) (EOp.mv (Opd.t 1)) none, EOper.mk (some 7) (EOp.call (Opd.f 45) [Opd.t 6]) none, EOper.mk (some 8) (EOp.un .not
  (Opd.t 7)) none]) (EC.cond (Opd.t 8) (EC.seq (EC.ops false [EOper.mk (some 4) (EOp.mv (Opd.c (V.int .u32 (0)))) none, EOper.mk (some 5) (EOp.mv (Opd.c (V.bool false)))
  none]) EC.ret) EC.skip)
def b57_2 : EC := EC.ops false [EOper.mk (some 9) (EOp.mv (Opd.t 0)) none, EOper.mk (some 10) (EOp.mv (Opd.t 1)) none, EOper.mk (some 11) (EOp.bin .mul (Opd.c (V.int .i64
  (8))) (Opd.t 10)) none, EOper.mk (some 12) (EOp.bin .shl (Opd.c (V.int .u32 (1))) (Opd.t 11)) none, EOper.mk (some 13) (EOp.bin .sub (Opd.t 12) (Opd.c (V.int .u32 (1))))
  none, EOper.mk (some 14) (EOp.bin .and (Opd.t 9) (Opd.t 13)) none, EOper.mk (some 4) (EOp.mv (Opd.t 14)) none, EOper.mk (some 5) (EOp.mv (Opd.c (V.bool true))) none]
def b57_3 : EC := EC.ret
def r57_3 : EC := b57_3
def r57_2 : EC := EC.seq b57_2 r57_3
def r57_1 : EC := EC.seq b57_1 r57_2
def r57_0 : EC := EC.seq b57_0 r57_1
def e57 : EFun := EFun.mk 15 [ERes.t 4, ERes.t 5] r57_0
theorem c57 : cFun Tryd.prog 1 (fun _ => false) Tryd.f57 = some e57 := by kernel_rfl
theorem x57 : Tryd.prog.funcs[57]? = some Tryd.f57 := by kernel_rfl
theorem n57 : (Tryd.f57.name == "runtime.NumGoroutine") = false := by kernel_rfl
/-! 58: slices.Grow:byte -/
def b58_0 : EC := EC.ops false [EOper.mk (some 4) (EOp.mv (Opd.c (V.sl none 0 0))) none]
def b58_1 : EC := EC.seq (EC.ops false [EOper.mk (some 5) (EOp.mv (Opd.t 1)) none, EOper.mk (some 6) (EOp.bin .lss (Opd.t 5) (Opd.c (V.int .i64 (0)))) none]) (EC.cond
  (Opd.t 6) (EC.ops false [EOper.mk (some 7) EOp.stuck none, EOper.mk none EOp.stuck none]) EC.skip)
def b58_2 : EC := EC.seq (EC.ops false [EOper.mk (some 8) (EOp.mv (Opd.t 1)) none, EOper.mk (some 9) (EOp.mv (Opd.t 0)) none, EOper.mk (some 10) (EOp.capo (Opd.t 9)) none,
  EOper.mk (some 11) (EOp.mv (Opd.t 0)) none, EOper.mk (some 12) (EOp.len false (Opd.t 11)) none, EOper.mk (some 13) (EOp.bin .sub (Opd.t 10) (Opd.t 12)) none, EOper.mk
  (some 14) (EOp.bin .sub (Opd.t 8) (Opd.t 13)) none, EOper.mk (some 1) (EOp.mv (Opd.t 14)) none]) (EC.seq (EC.ops false [EOper.mk (some 15) (EOp.mv (Opd.t 1)) none,
  EOper.mk (some 16) (EOp.bin .gtr (Opd.t 15) (Opd.c (V.int .i64 (0)))) none]) (EC.cond (Opd.t 16) (EC.ops false [EOper.mk (some 17) (EOp.mv (Opd.t 0)) none, EOper.mk
  (some 18) (EOp.mv (Opd.t 0)) none, EOper.mk (some 19) (EOp.capo (Opd.t 18)) none, EOper.mk (some 20) (EOp.slc 1 (Opd.t 17) none (some (Opd.t 19))) none, EOper.mk (some
  21) (EOp.mv (Opd.t 1)) none, EOper.mk (some 22) (EOp.app 5 0 1 [V.int .u8 (0)] (Opd.t 20) (Opd.t 21)) none, EOper.mk (some 23) (EOp.mv (Opd.t 0)) none, EOper.mk (some
  24) (EOp.len false (Opd.t 23)) none, EOper.mk (some 25) (EOp.slc 1 (Opd.t 22) none (some (Opd.t 24))) none, EOper.mk (some 0) (EOp.mv (Opd.t 25)) none]) EC.skip))
def b58_3 : EC := EC.ops false [EOper.mk (some 26) (EOp.mv (Opd.t 0)) none, EOper.mk (some 4) (EOp.mv (Opd.t 26)) none]
def b58_4 : EC := EC.ret
def r58_4 : EC := b58_4
def r58_3 : EC := EC.seq b58_3 r58_4
def r58_2 : EC := EC.seq b58_2 r58_3
def r58_1 : EC := EC.seq b58_1 r58_2
def r58_0 : EC := EC.seq b58_0 r58_1
def e58 : EFun := EFun.mk 27 [ERes.t 4] r58_0
theorem c58 : cFun Tryd.prog 1 (fun _ => false) Tryd.f58 = some e58 := by kernel_rfl
theorem x58 : Tryd.prog.funcs[58]? = some Tryd.f58 := by kernel_rfl
theorem n58 : (Tryd.f58.name == "runtime.NumGoroutine") = false := by kernel_rfl
/-! 59: slices.Contains:int -/
def b59_0 : EC := EC.ops false [EOper.mk (some 4) (EOp.mv (Opd.c (V.bool false))) none]
def b59_1 : EC := EC.ops false [EOper.mk (some 5) (EOp.mv (Opd.t 0)) none, EOper.mk (some 6) (EOp.mv (Opd.t 1)) none, EOper.mk (some 7) (EOp.call (Opd.f 79) [Opd.t 5,
  Opd.t 6]) none, EOper.mk (some 8) (EOp.bin .geq (Opd.t 7) (Opd.c (V.int .i64 (0)))) none, EOper.mk (some 4) (EOp.mv (Opd.t 8)) none]
def b59_2 : EC := EC.ret
def r59_2 : EC := b59_2
def r59_1 : EC := EC.seq b59_1 r59_2
def r59_0 : EC := EC.seq b59_0 r59_1
def e59 : EFun := EFun.mk 9 [ERes.t 4] r59_0
theorem c59 : cFun Tryd.prog 1 (fun _ => false) Tryd.f59 = some e59 := by kernel_rfl
theorem x59 : Tryd.prog.funcs[59]? = some Tryd.f59 := by kernel_rfl
theorem n59 : (Tryd.f59.name == "runtime.NumGoroutine") = false := by kernel_rfl
/-! 77: slices.Backward[[]byte,byte]$1 -/
theorem x77 : Tryd.prog.funcs[77]? = some Tryd.f77 := by kernel_rfl
/-! 78: lane.place.right -/
def b78_0 : EC := EC.ops false [EOper.mk (some 1) (EOp.box true 120 (Opd.t 0)) none, EOper.mk (some 2) (EOp.mv (Opd.c (V.bool false))) none]
def b78_1 : EC := EC.ops false [EOper.mk (some 3) (EOp.fa 1 (Opd.t 1)) none, EOper.mk (some 4) (EOp.ld false 1 (Opd.t 3)) none, EOper.mk (some 5) (EOp.call (Opd.f 45)
  [Opd.t 4]) none, EOper.mk (some 6) (EOp.mv (Opd.t 5)) none, EOper.mk (some 7) (EOp.fa 0 (Opd.t 1)) (some (6, true)), EOper.mk (some 8) (EOp.fa 0 (Opd.t 7)) (some (6,
  true)), EOper.mk (some 9) (EOp.ld false 1 (Opd.t 8)) (some (6, true)), EOper.mk (some 10) (EOp.conv .i64 (Opd.t 9)) (some (6, true)), EOper.mk (some 11) (EOp.fa 1 (Opd.t
  1)) (some (6, true)), EOper.mk (some 12) (EOp.ld false 1 (Opd.t 11)) (some (6, true)), EOper.mk (some 13) (EOp.bin .rem (Opd.t 10) (Opd.t 12)) (some (6, true)), EOper.mk
  (some 14) (EOp.bin .eql (Opd.t 13) (Opd.c (V.int .i64 (0)))) (some (6, true)), EOper.mk (some 15) (EOp.pick (Opd.t 6) (Opd.t 14) (Opd.c (V.bool false))) none, EOper.mk
  (some 2) (EOp.mv (Opd.t 15)) none]
def b78_2 : EC := EC.ret
def r78_2 : EC := b78_2
def r78_1 : EC := EC.seq b78_1 r78_2
def r78_0 : EC := EC.seq b78_0 r78_1
def e78 : EFun := EFun.mk 16 [ERes.t 2] r78_0
theorem c78 : cFun Tryd.prog 1 (fun _ => false) Tryd.f78 = some e78 := by kernel_rfl
theorem x78 : Tryd.prog.funcs[78]? = some Tryd.f78 := by kernel_rfl
theorem n78 : (Tryd.f78.name == "runtime.NumGoroutine") = false := by kernel_rfl
/-! 79: slices.Index:int -/
def l79_0p0 : EC := EC.ops false [EOper.mk (some 9) (EOp.bin .lss (Opd.t 8) (Opd.t 7)) none]
def l79_0p1 : EC := EC.cond (Opd.t 9) EC.skip (EC.exit 0)
def l79_0p2 : EC := EC.block 1 (EC.seq (EC.ops false [EOper.mk (some 10) (EOp.mv (Opd.t 8)) none, EOper.mk (some 5) (EOp.mv (Opd.t 10)) none]) (EC.seq (EC.ops false
  [EOper.mk (some 11) (EOp.mv (Opd.t 1)) none, EOper.mk (some 12) (EOp.mv (Opd.t 0)) none, EOper.mk (some 13) (EOp.mv (Opd.t 5)) none, EOper.mk (some 14) (EOp.ixs 1 (Opd.t
  12) (Opd.t 13)) none, EOper.mk (some 15) (EOp.ld false 1 (Opd.t 14)) none, EOper.mk (some 16) (EOp.bin .eql (Opd.t 11) (Opd.t 15)) none]) (EC.cond (Opd.t 16) (EC.seq
  (EC.ops false [EOper.mk (some 17) (EOp.mv (Opd.t 5)) none, EOper.mk (some 4) (EOp.mv (Opd.t 17)) none]) EC.ret) EC.skip)))
def l79_0p3 : EC := EC.ops false [EOper.mk (some 18) (EOp.bin .add (Opd.t 8) (Opd.c (V.int .i64 (1)))) none, EOper.mk (some 8) (EOp.mv (Opd.t 18)) none]
def l79_0r3 : EC := l79_0p3
def l79_0r2 : EC := EC.seq l79_0p2 l79_0r3
def l79_0r1 : EC := EC.seq l79_0p1 l79_0r2
def l79_0r0 : EC := EC.seq l79_0p0 l79_0r1
def l79_0 : EC := l79_0r0
def b79_0 : EC := EC.ops false [EOper.mk (some 4) (EOp.mv (Opd.c (V.int .i64 (0)))) none]
def b79_1 : EC := EC.seq (EC.ops false [EOper.mk (some 6) (EOp.mv (Opd.t 0)) none, EOper.mk (some 7) (EOp.len false (Opd.t 6)) none, EOper.mk (some 8) (EOp.mv (Opd.c
  (V.int .i64 (0)))) none]) (EC.block 0 (EC.loop l79_0))
def b79_2 : EC := EC.ops false [EOper.mk (some 4) (EOp.mv (Opd.c (V.int .i64 (-1)))) none]
def b79_3 : EC := EC.ret
def r79_3 : EC := b79_3
def r79_2 : EC := EC.seq b79_2 r79_3
def r79_1 : EC := EC.seq b79_1 r79_2
def r79_0 : EC := EC.seq b79_0 r79_1
def e79 : EFun := EFun.mk 19 [ERes.t 4] r79_0
theorem c79 : cFun Tryd.prog 1 (fun _ => false) Tryd.f79 = some e79 := by kernel_rfl
theorem x79 : Tryd.prog.funcs[79]? = some Tryd.f79 := by kernel_rfl
theorem n79 : (Tryd.f79.name == "runtime.NumGoroutine") = false := by kernel_rfl
end Go.Ev
