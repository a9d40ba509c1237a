/- dev: forms (printed by forms.py) -/
import Derived.Test.YtmdkhaoppklokaaDoorChecked
import Derived.Test.YtmdkhaoppklokaaDoorEvU
set_option linter.all false
namespace Go.Ev
open Go Go.Proofs
set_option maxRecDepth 1000000
/-! 8: septumlaw01.WordEnds -/
def l8X_2p0 : EC := EC.seq (EC.ops false [EOper.mk (some 47) (EOp.mv (Opd.t 6)) none, EOper.mk (some 48) (EOp.bin .lss (Opd.t 47) (Opd.c (V.int .i64 (4)))) none]) (EC.cond
  (Opd.t 48) EC.skip (EC.exit 4))
def l8X_2p1 : EC := EC.block 5 (EC.seq (EC.opsX (Sch.sil (EOper.mk (some 51) (EOp.mv (Opd.t 2)) none) (Sch.sil (EOper.mk (some 52) (EOp.mv (Opd.t 5)) none) (Sch.sil
  (EOper.mk (some 53) (EOp.ixs 1 (Opd.t 51) (Opd.t 52)) none) (Sch.sil (EOper.mk (some 55) (EOp.mv (Opd.t 4)) none) (Sch.sil (EOper.mk (some 56) (EOp.mv (Opd.t 6)) none)
  (Sch.sil (EOper.mk (some 57) (EOp.slcs (Opd.t 55) none (some (Opd.t 56))) none) (Sch.op (EOper.mk (some 54) (EOp.ld false 1 (Opd.t 53)) none) (Sch.sil (EOper.mk (some
  58) (EOp.bin .add (Opd.t 54) (Opd.t 57)) none) (Sch.op (EOper.mk (some 59) (EOp.call (Opd.f 10) [Opd.t 58]) none) (Sch.sil (EOper.mk (some 60) (EOp.un .not (Opd.t 59))
  none) Sch.done))))))))))) (EC.cond (Opd.t 60) (EC.seq (EC.ops false [EOper.mk (some 0) (EOp.mv (Opd.c (V.bool false))) none]) EC.ret) EC.skip))
def l8X_2p2 : EC := EC.ops false [EOper.mk (some 49) (EOp.mv (Opd.t 6)) none, EOper.mk (some 50) (EOp.bin .add (Opd.t 49) (Opd.c (V.int .i64 (1)))) none, EOper.mk (some 6)
  (EOp.mv (Opd.t 50)) none]
def l8X_2r2 : EC := l8X_2p2
def l8X_2r1 : EC := EC.seq l8X_2p1 l8X_2r2
def l8X_2r0 : EC := EC.seq l8X_2p0 l8X_2r1
def l8X_2 : EC := l8X_2r0
def l8X_1p0 : EC := EC.seq (EC.ops false [EOper.mk (some 41) (EOp.mv (Opd.t 5)) none, EOper.mk (some 42) (EOp.mv (Opd.t 2)) none, EOper.mk (some 43) (EOp.len false (Opd.t
  42)) none, EOper.mk (some 44) (EOp.bin .lss (Opd.t 41) (Opd.t 43)) none]) (EC.cond (Opd.t 44) EC.skip (EC.exit 2))
def l8X_1p1 : EC := EC.block 3 (EC.seq (EC.ops false [EOper.mk (some 6) (EOp.mv (Opd.c (V.int .i64 (0)))) none]) (EC.block 4 (EC.loop l8X_2)))
def l8X_1p2 : EC := EC.ops false [EOper.mk (some 45) (EOp.mv (Opd.t 5)) none, EOper.mk (some 46) (EOp.bin .add (Opd.t 45) (Opd.c (V.int .i64 (1)))) none, EOper.mk (some 5)
  (EOp.mv (Opd.t 46)) none]
def l8X_1r2 : EC := l8X_1p2
def l8X_1r1 : EC := EC.seq l8X_1p1 l8X_1r2
def l8X_1r0 : EC := EC.seq l8X_1p0 l8X_1r1
def l8X_1 : EC := l8X_1r0
def l8X_0p0 : EC := EC.seq (EC.ops false [EOper.mk (some 12) (EOp.mv (Opd.t 3)) none, EOper.mk (some 13) (EOp.bin .lss (Opd.t 12) (Opd.c (V.int .i64 (1331)))) none])
  (EC.cond (Opd.t 13) EC.skip (EC.exit 0))
def l8X_0p1 : EC := EC.block 1 (EC.seq (EC.ops true [EOper.mk (some 16) (EOp.mv (Opd.t 1)) none, EOper.mk (some 17) (EOp.mv (Opd.t 3)) none, EOper.mk (some 18) (EOp.bin
  .rem (Opd.t 17) (Opd.c (V.int .i64 (11)))) none, EOper.mk (some 19) (EOp.mv (Opd.t 3)) none, EOper.mk (some 20) (EOp.bin .rem (Opd.t 19) (Opd.c (V.int .i64 (11)))) none,
  EOper.mk (some 21) (EOp.bin .add (Opd.t 20) (Opd.c (V.int .i64 (1)))) none, EOper.mk (some 22) (EOp.slcs (Opd.t 16) (some (Opd.t 18)) (some (Opd.t 21))) none, EOper.mk
  (some 23) (EOp.mv (Opd.t 1)) none, EOper.mk (some 24) (EOp.mv (Opd.t 3)) none, EOper.mk (some 25) (EOp.bin .quo (Opd.t 24) (Opd.c (V.int .i64 (11)))) none, EOper.mk
  (some 26) (EOp.bin .rem (Opd.t 25) (Opd.c (V.int .i64 (11)))) none, EOper.mk (some 27) (EOp.mv (Opd.t 3)) none, EOper.mk (some 28) (EOp.bin .quo (Opd.t 27) (Opd.c (V.int
  .i64 (11)))) none, EOper.mk (some 29) (EOp.bin .rem (Opd.t 28) (Opd.c (V.int .i64 (11)))) none, EOper.mk (some 30) (EOp.bin .add (Opd.t 29) (Opd.c (V.int .i64 (1))))
  none, EOper.mk (some 31) (EOp.slcs (Opd.t 23) (some (Opd.t 26)) (some (Opd.t 30))) none, EOper.mk (some 32) (EOp.bin .add (Opd.t 22) (Opd.t 31)) none, EOper.mk (some 33)
  (EOp.mv (Opd.t 1)) none, EOper.mk (some 34) (EOp.mv (Opd.t 3)) none, EOper.mk (some 35) (EOp.bin .quo (Opd.t 34) (Opd.c (V.int .i64 (121)))) none, EOper.mk (some 36)
  (EOp.mv (Opd.t 3)) none, EOper.mk (some 37) (EOp.bin .quo (Opd.t 36) (Opd.c (V.int .i64 (121)))) none, EOper.mk (some 38) (EOp.bin .add (Opd.t 37) (Opd.c (V.int .i64
  (1)))) none, EOper.mk (some 39) (EOp.slcs (Opd.t 33) (some (Opd.t 35)) (some (Opd.t 38))) none, EOper.mk (some 40) (EOp.bin .add (Opd.t 32) (Opd.t 39)) none, EOper.mk
  (some 4) (EOp.mv (Opd.t 40)) none]) (EC.seq (EC.ops false [EOper.mk (some 5) (EOp.mv (Opd.c (V.int .i64 (0)))) none]) (EC.block 2 (EC.loop l8X_1))))
def l8X_0p2 : EC := EC.ops false [EOper.mk (some 14) (EOp.mv (Opd.t 3)) none, EOper.mk (some 15) (EOp.bin .add (Opd.t 14) (Opd.c (V.int .i64 (1)))) none, EOper.mk (some 3)
  (EOp.mv (Opd.t 15)) none]
def l8X_0r2 : EC := l8X_0p2
def l8X_0r1 : EC := EC.seq l8X_0p1 l8X_0r2
def l8X_0r0 : EC := EC.seq l8X_0p0 l8X_0r1
def l8X_0 : EC := l8X_0r0
def l8X_3p0 : EC := EC.seq (EC.ops false [EOper.mk (some 61) (EOp.mv (Opd.t 7)) none, EOper.mk (some 62) (EOp.bin .lss (Opd.t 61) (Opd.c (V.int .i64 (32)))) none]) (EC.cond
  (Opd.t 62) EC.skip (EC.exit 6))
def l8X_3p1 : EC := EC.block 7 (EC.seq (EC.ops false [EOper.mk (some 65) (EOp.mv (Opd.t 7)) none, EOper.mk (some 66) (EOp.bin .shl (Opd.c (V.int .u32 (1))) (Opd.t 65))
  none, EOper.mk (some 8) (EOp.mv (Opd.t 66)) none]) (EC.seq (EC.opsX (Sch.sil (EOper.mk (some 67) (EOp.mv (Opd.t 8)) none) (Sch.sil (EOper.mk (some 68) (EOp.mv (Opd.t 8))
  none) (Sch.sil (EOper.mk (some 69) (EOp.bin .sub (Opd.c (V.int .u32 (4294967295))) (Opd.t 68)) none) (Sch.op (EOper.mk (some 70) (EOp.call (Opd.f 6) [Opd.t 67, Opd.t
  69]) none) (Sch.sil (EOper.mk (some 71) (EOp.un .not (Opd.t 70)) none) (Sch.sil (EOper.mk (some 72) (EOp.mv (Opd.t 71)) none) (Sch.sil (EOper.mk (some 73) (EOp.mv (Opd.t
  8)) (some (72, false))) (Sch.sil (EOper.mk (some 74) (EOp.bin .sub (Opd.c (V.int .u32 (4294967295))) (Opd.t 73)) (some (72, false))) (Sch.sil (EOper.mk (some 75) (EOp.mv
  (Opd.t 8)) (some (72, false))) (Sch.sil (EOper.mk (some 76) (EOp.mv (Opd.t 8)) (some (72, false))) (Sch.sil (EOper.mk (some 77) (EOp.bin .add (Opd.t 75) (Opd.t 76))
  (some (72, false))) (Sch.op (EOper.mk (some 78) (EOp.call (Opd.f 6) [Opd.t 74, Opd.t 77]) (some (72, false))) (Sch.sil (EOper.mk (some 79) (EOp.un .not (Opd.t 78)) (some
  (72, false))) (Sch.sil (EOper.mk (some 80) (EOp.pick (Opd.t 72) (Opd.c (V.bool true)) (Opd.t 79)) none) (Sch.sil (EOper.mk (some 81) (EOp.mv (Opd.t 80)) none) (Sch.sil
  (EOper.mk (some 82) (EOp.mv (Opd.t 8)) (some (81, false))) (Sch.sil (EOper.mk (some 84) (EOp.mv (Opd.t 8)) (some (81, false))) (Sch.sil (EOper.mk (some 85) (EOp.bin .sub
  (Opd.t 84) (Opd.c (V.int .u32 (1)))) (some (81, false))) (Sch.op (EOper.mk (some 83) (EOp.call (Opd.f 11) [Opd.t 82]) (some (81, false))) (Sch.op (EOper.mk (some 86)
  (EOp.call (Opd.f 3) [Opd.t 83, Opd.t 85]) (some (81, false))) (Sch.sil (EOper.mk (some 87) (EOp.un .not (Opd.t 86)) (some (81, false))) (Sch.sil (EOper.mk (some 88)
  (EOp.pick (Opd.t 81) (Opd.c (V.bool true)) (Opd.t 87)) none) (Sch.sil (EOper.mk (some 89) (EOp.mv (Opd.t 88)) none) (Sch.sil (EOper.mk (some 90) (EOp.mv (Opd.t 8)) (some
  (89, false))) (Sch.sil (EOper.mk (some 91) (EOp.bin .sub (Opd.t 90) (Opd.c (V.int .u32 (1)))) (some (89, false))) (Sch.sil (EOper.mk (some 92) (EOp.mv (Opd.t 7)) (some
  (89, false))) (Sch.sil (EOper.mk (some 93) (EOp.bin .rem (Opd.t 92) (Opd.c (V.int .i64 (6)))) (some (89, false))) (Sch.sil (EOper.mk (some 94) (EOp.mv (Opd.t 8)) (some
  (89, false))) (Sch.op (EOper.mk (some 95) (EOp.call (Opd.f 19) [Opd.t 94, Opd.c (V.int .i64 (4))]) (some (89, false))) (Sch.op (EOper.mk (some 96) (EOp.call (Opd.f 14)
  [Opd.t 91, Opd.t 93, Opd.t 95]) (some (89, false))) (Sch.sil (EOper.mk (some 97) (EOp.un .not (Opd.t 96)) (some (89, false))) (Sch.sil (EOper.mk (some 98) (EOp.pick
  (Opd.t 89) (Opd.c (V.bool true)) (Opd.t 97)) none) (Sch.sil (EOper.mk (some 99) (EOp.mv (Opd.t 98)) none) (Sch.sil (EOper.mk (some 100) (EOp.mv (Opd.t 8)) (some (99,
  false))) (Sch.sil (EOper.mk (some 101) (EOp.mv (Opd.t 7)) (some (99, false))) (Sch.sil (EOper.mk (some 102) (EOp.bin .rem (Opd.t 101) (Opd.c (V.int .i64 (4)))) (some
  (99, false))) (Sch.sil (EOper.mk (some 103) (EOp.bin .shl (Opd.c (V.int .i64 (1))) (Opd.t 102)) (some (99, false))) (Sch.sil (EOper.mk (some 104) (EOp.mv (Opd.t 7))
  (some (99, false))) (Sch.op (EOper.mk (some 105) (EOp.mksl 5 [V.int .u8 (0)] 1 (Opd.t 104) (Opd.t 104)) (some (99, false))) (Sch.op (EOper.mk (some 106) (EOp.call (Opd.f
  14) [Opd.t 100, Opd.t 103, Opd.t 105]) (some (99, false))) (Sch.sil (EOper.mk (some 107) (EOp.un .not (Opd.t 106)) (some (99, false))) (Sch.sil (EOper.mk (some 108)
  (EOp.pick (Opd.t 99) (Opd.c (V.bool true)) (Opd.t 107)) none) Sch.done))))))))))))))))))))))))))))))))))))))))))) (EC.cond (Opd.t 108) (EC.seq (EC.ops false [EOper.mk
  (some 0) (EOp.mv (Opd.c (V.bool false))) none]) EC.ret) EC.skip)))
def l8X_3p2 : EC := EC.ops false [EOper.mk (some 63) (EOp.mv (Opd.t 7)) none, EOper.mk (some 64) (EOp.bin .add (Opd.t 63) (Opd.c (V.int .i64 (1)))) none, EOper.mk (some 7)
  (EOp.mv (Opd.t 64)) none]
def l8X_3r2 : EC := l8X_3p2
def l8X_3r1 : EC := EC.seq l8X_3p1 l8X_3r2
def l8X_3r0 : EC := EC.seq l8X_3p0 l8X_3r1
def l8X_3 : EC := l8X_3r0
def l8X_4p0 : EC := EC.seq (EC.ops false [EOper.mk (some 110) (EOp.mv (Opd.t 10)) none, EOper.mk (some 111) (EOp.mv (Opd.t 9)) none, EOper.mk (some 112) (EOp.len false
  (Opd.t 111)) none, EOper.mk (some 113) (EOp.bin .lss (Opd.t 110) (Opd.t 112)) none]) (EC.cond (Opd.t 113) EC.skip (EC.exit 8))
def l8X_4p1 : EC := EC.block 9 (EC.seq (EC.ops false [EOper.mk (some 116) (EOp.mv (Opd.t 9)) none, EOper.mk (some 117) (EOp.mv (Opd.t 10)) none, EOper.mk (some 118)
  (EOp.ixs 1 (Opd.t 116) (Opd.t 117)) none, EOper.mk (some 119) (EOp.ld false 1 (Opd.t 118)) none, EOper.mk (some 120) (EOp.call (Opd.f 14) [Opd.c (V.int .u32
  (4275878552)), Opd.t 119, Opd.c (V.sl none 0 0)]) none, EOper.mk (some 121) (EOp.un .not (Opd.t 120)) none]) (EC.cond (Opd.t 121) (EC.seq (EC.ops false [EOper.mk (some
  0) (EOp.mv (Opd.c (V.bool false))) none]) EC.ret) EC.skip))
def l8X_4p2 : EC := EC.ops false [EOper.mk (some 114) (EOp.mv (Opd.t 10)) none, EOper.mk (some 115) (EOp.bin .add (Opd.t 114) (Opd.c (V.int .i64 (1)))) none, EOper.mk (some
  10) (EOp.mv (Opd.t 115)) none]
def l8X_4r2 : EC := l8X_4p2
def l8X_4r1 : EC := EC.seq l8X_4p1 l8X_4r2
def l8X_4r0 : EC := EC.seq l8X_4p0 l8X_4r1
def l8X_4 : EC := l8X_4r0
def b8X_0 : EC := EC.ops false [EOper.mk (some 0) (EOp.mv (Opd.c (V.bool false))) none]
def b8X_1 : EC := EC.ops false [EOper.mk (some 1) (EOp.mv (Opd.c (V.str (ByteArray.mk (Array.mk [UInt8.ofNat 48, UInt8.ofNat 49, UInt8.ofNat 57, UInt8.ofNat 97, UInt8.ofNat
  102, UInt8.ofNat 70, UInt8.ofNat 120, UInt8.ofNat 32, UInt8.ofNat 45, UInt8.ofNat 43, UInt8.ofNat 95]))))) none]
def b8X_2 : EC := EC.ops false [EOper.mk (some 11) (EOp.bslice 9 6 [V.str (ByteArray.mk (Array.mk [])), V.str (ByteArray.mk (Array.mk [])), V.str (ByteArray.mk (Array.mk
  [])), V.str (ByteArray.mk (Array.mk [])), V.str (ByteArray.mk (Array.mk [])), V.str (ByteArray.mk (Array.mk []))] [(0, 1, Opd.c (V.str (ByteArray.mk (Array.mk [])))),
  (1, 1, Opd.c (V.str (ByteArray.mk (Array.mk [UInt8.ofNat 48, UInt8.ofNat 120])))), (2, 1, Opd.c (V.str (ByteArray.mk (Array.mk [UInt8.ofNat 52, UInt8.ofNat 50,
  UInt8.ofNat 57, UInt8.ofNat 52, UInt8.ofNat 57, UInt8.ofNat 54, UInt8.ofNat 55, UInt8.ofNat 50, UInt8.ofNat 57])))), (3, 1, Opd.c (V.str (ByteArray.mk (Array.mk
  [UInt8.ofNat 48, UInt8.ofNat 120, UInt8.ofNat 102, UInt8.ofNat 102, UInt8.ofNat 102, UInt8.ofNat 102, UInt8.ofNat 102, UInt8.ofNat 102, UInt8.ofNat 102])))), (4, 1,
  Opd.c (V.str (ByteArray.mk (Array.mk [UInt8.ofNat 48, UInt8.ofNat 120, UInt8.ofNat 48, UInt8.ofNat 48, UInt8.ofNat 48, UInt8.ofNat 48])))), (5, 1, Opd.c (V.str
  (ByteArray.mk (Array.mk [UInt8.ofNat 52, UInt8.ofNat 50, UInt8.ofNat 57, UInt8.ofNat 52, UInt8.ofNat 57, UInt8.ofNat 54, UInt8.ofNat 55]))))]) none, EOper.mk (some 2)
  (EOp.mv (Opd.t 11)) none]
def b8X_3 : EC := EC.seq (EC.ops false [EOper.mk (some 3) (EOp.mv (Opd.c (V.int .i64 (0)))) none]) (EC.block 0 (EC.loop l8X_0))
def b8X_4 : EC := EC.seq (EC.ops false [EOper.mk (some 7) (EOp.mv (Opd.c (V.int .i64 (0)))) none]) (EC.block 6 (EC.loop l8X_3))
def b8X_5 : EC := EC.ops false [EOper.mk (some 109) (EOp.bslice 3 10 [V.int .i64 (0), V.int .i64 (0), V.int .i64 (0), V.int .i64 (0), V.int .i64 (0), V.int .i64 (0), V.int
  .i64 (0), V.int .i64 (0), V.int .i64 (0), V.int .i64 (0)] [(0, 1, Opd.c (V.int .i64 (-9223372036854775808))), (1, 1, Opd.c (V.int .i64 (-1))), (2, 1, Opd.c (V.int .i64
  (0))), (3, 1, Opd.c (V.int .i64 (1))), (4, 1, Opd.c (V.int .i64 (2))), (5, 1, Opd.c (V.int .i64 (3))), (6, 1, Opd.c (V.int .i64 (4))), (7, 1, Opd.c (V.int .i64 (5))),
  (8, 1, Opd.c (V.int .i64 (8))), (9, 1, Opd.c (V.int .i64 (9223372036854775807)))]) none, EOper.mk (some 9) (EOp.mv (Opd.t 109)) none]
def b8X_6 : EC := EC.seq (EC.ops false [EOper.mk (some 10) (EOp.mv (Opd.c (V.int .i64 (0)))) none]) (EC.block 8 (EC.loop l8X_4))
def b8X_7 : EC := EC.ops false [EOper.mk (some 122) (EOp.call (Opd.f 6) [Opd.c (V.int .u32 (0)), Opd.c (V.int .u32 (0))]) none, EOper.mk (some 123) (EOp.mv (Opd.t 122))
  none, EOper.mk (some 124) (EOp.call (Opd.f 9) []) (some (123, true)), EOper.mk (some 125) (EOp.pick (Opd.t 123) (Opd.t 124) (Opd.c (V.bool false))) none, EOper.mk (some
  0) (EOp.mv (Opd.t 125)) none]
def b8X_8 : EC := EC.ret
def r8X_8 : EC := b8X_8
def r8X_7 : EC := EC.seq b8X_7 r8X_8
def r8X_6 : EC := EC.seq b8X_6 r8X_7
def r8X_5 : EC := EC.seq b8X_5 r8X_6
def r8X_4 : EC := EC.seq b8X_4 r8X_5
def r8X_3 : EC := EC.seq b8X_3 r8X_4
def r8X_2 : EC := EC.seq b8X_2 r8X_3
def r8X_1 : EC := EC.seq b8X_1 r8X_2
def r8X_0 : EC := EC.seq b8X_0 r8X_1
def e8X : EFun := EFun.mk 126 [ERes.t 0] r8X_0
theorem c8X : cFun Tryd.prog 2 (fun d => d == 3000000) Tryd.f8 = some e8X := by kernel_rfl
theorem n8 : (Tryd.f8.name == "runtime.NumGoroutine") = false := by kernel_rfl
end Go.Ev
