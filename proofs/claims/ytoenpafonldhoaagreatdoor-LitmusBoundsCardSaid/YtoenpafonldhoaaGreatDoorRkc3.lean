/- An abstract machine for the model's programs, its runs, and what they say of the model (part Rkc3). No condition. -/
import Derived.Test.YtoenpafonldhoaaGreatDoorKn
namespace Go.Proofs.YtoenpafonldhoaaGreatDoor
open Go Go.AM
theorem kc3_run : ∀ ω, gives kc3.v (run (E.by ω kc3.n) 1000 (.call kc3.f kc3.args none) (frzC kc3)) = true :=
  orcO_all fun a ω => by
    cases a with
    | zero => kernel_rfl
    | succ a => kernel_rfl
end Go.Proofs.YtoenpafonldhoaaGreatDoor

