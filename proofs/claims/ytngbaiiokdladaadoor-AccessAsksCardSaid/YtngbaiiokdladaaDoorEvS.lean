/- Ev: steps that read a memory that is not laid open. -/
import Derived.Test.YtngbaiiokdladaaDoorEvQ
namespace Go.Ev

theorem ld_step {tm : List SV} {L : List LB} {H : List B} {e g : Bool} {agg : Bool} {n : Nat} {x : Opd} {K : KV} {i o : Nat} {cs : List V} {v : V} (hx : x.ev tm = .v (.ptr (some (i, o)))) (hr : rd H i o n = some cs) (hu : unV agg cs = some v)
    (hK : K (.v v) L H e g) : (match memOp tm L H e g (.ld agg n x) with
      | some (v, L', H', e', g') => K v L' H' e' g'
      | none => False) := by
  simp only [memOp, hx, hr, hu]
  exact hK

theorem lds_step {tm : List SV} {L : List LB} {H : List B} {e g : Bool} {agg : Bool} {n : Nat} {x : Opd} {K : SV → Prop} {i o : Nat} {cs : List V} {v : V} (hx : x.ev tm = .v (.ptr (some (i, o)))) (hr : rd H i o n = some cs) (hu : unV agg cs = some v)
    (hK : K (.v v)) : (match memOp tm L H e g (.ld agg n x) with
      | some (v, _) => K v
      | none => False) := by
  simp only [memOp, hx, hr, hu]
  exact hK
end Go.Ev
