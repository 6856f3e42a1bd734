/- An abstract machine for the model's programs, its runs, and what they say of the model (part Rkc1). No condition. -/
import Derived.Test.YtoenpafonldhoaaGreatDoorKn
namespace Go.Proofs.YtoenpafonldhoaaGreatDoor
open Go Go.AM
theorem kc1_run : ∀ ω, gives kc1.v (run (E.by ω kc1.n) 1000 (.call kc1.f kc1.args none) (frzC kc1)) = true :=
  orcO_all fun a ω => by
    cases a with
    | zero => kernel_rfl
    | succ a => kernel_rfl
end Go.Proofs.YtoenpafonldhoaaGreatDoor

