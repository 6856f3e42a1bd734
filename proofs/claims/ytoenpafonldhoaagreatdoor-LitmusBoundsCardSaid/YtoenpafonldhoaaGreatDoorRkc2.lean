/- An abstract machine for the model's programs, its runs, and what they say of the model (part Rkc2). No condition. -/
import Derived.Test.YtoenpafonldhoaaGreatDoorKn
namespace Go.Proofs.YtoenpafonldhoaaGreatDoor
open Go Go.AM
theorem kc2_run : ∀ ω, gives kc2.v (run (E.by ω kc2.n) 1000 (.call kc2.f kc2.args none) (frzC kc2)) = true :=
  orcO_all fun a ω => by
    cases a with
    | zero => kernel_rfl
    | succ a => kernel_rfl
end Go.Proofs.YtoenpafonldhoaaGreatDoor

