/- dev -/
import Derived.Test.YtpfkniffkbajpaaDefs
set_option linter.all false
namespace Go.Ev
open Go Go.Proofs
set_option maxRecDepth 4000
def e6 : EFun := EFun.mk 24 [ERes.t 2] (EC.seq (EC.ops false [EOper.mk (some 2) (EOp.mv (Opd.c (V.bool false))) none]) (EC.seq (EC.seq (EC.ops false [EOper.mk (some 4)
  (EOp.mv (Opd.t 0)) none, EOper.mk (some 5) (EOp.len false (Opd.t 4)) none, EOper.mk (some 6) (EOp.bin .gtr (Opd.t 5) (Opd.c (V.int .i64 (200))))
  none]) (EC.cond (Opd.t 6) (EC.seq (EC.ops false [EOper.mk (some 7) (EOp.call (Opd.f 18) []) none, EOper.mk (some 2) (EOp.mv (Opd.t 7)) none]) EC.ret)
  EC.skip)) (EC.seq (EC.ops false [EOper.mk (some 8) (EOp.bslice 24 0 [] []) none, EOper.mk (some 9) (EOp.mv (Opd.t 0)) none, EOper.mk (some 10)
  (EOp.app 24 2 8 [V.int .u32 (0), V.int .u32 (0)] (Opd.t 8) (Opd.t 9)) none, EOper.mk (some 3) (EOp.mv (Opd.t 10)) none]) (EC.seq (EC.ops false
  [EOper.mk (some 11) (EOp.mv (Opd.t 3)) none, EOper.mk (some 12) (EOp.call (Opd.f 22) [Opd.t 11]) none, EOper.mk (some 13) (EOp.mv (Opd.t 0)) none,
  EOper.mk (some 14) (EOp.call (Opd.f 23) [Opd.t 13]) none, EOper.mk (some 15) (EOp.eqb false (Opd.t 12) (Opd.t 14)) none, EOper.mk (some 16) (EOp.mv
  (Opd.t 15)) none, EOper.mk (some 17) (EOp.mv (Opd.t 3)) (some (16, true)), EOper.mk (some 18) (EOp.mv (Opd.t 0)) (some (16, true)), EOper.mk (some
  19) (EOp.call (Opd.f 24) [Opd.t 17, Opd.t 18]) (some (16, true)), EOper.mk (some 20) (EOp.pick (Opd.t 16) (Opd.t 19) (Opd.c (V.bool false))) none,
  EOper.mk (some 21) (EOp.mv (Opd.t 20)) none, EOper.mk (some 22) (EOp.call (Opd.f 18) []) (some (21, true)), EOper.mk (some 23) (EOp.pick (Opd.t 21)
  (Opd.t 22) (Opd.c (V.bool false))) none, EOper.mk (some 2) (EOp.mv (Opd.t 23)) none]) EC.ret))))
theorem c6 : cFun Try.prog 0 (fun _ => false) Try.f6 = some e6 := by kernel_rfl
theorem x6 : Try.prog.funcs[6]? = some Try.f6 := by kernel_rfl
theorem n6 : (Try.f6.name == "runtime.NumGoroutine") = false := by kernel_rfl
end Go.Ev
