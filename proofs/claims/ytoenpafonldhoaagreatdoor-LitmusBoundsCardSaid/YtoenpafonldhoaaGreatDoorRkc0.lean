/- An abstract machine for the model's programs, its runs, and what they say of the model (part Rkc0). No condition. -/
import Derived.Test.YtoenpafonldhoaaGreatDoorKn
namespace Go.Proofs.YtoenpafonldhoaaGreatDoor
open Go Go.AM
theorem kc0_run : ∀ ω, gives kc0.v (run (E.by ω kc0.n) 1000 (.call kc0.f kc0.args none) (frzC kc0)) = true :=
  orcO_all fun a ω => by
    cases a with
    | zero => kernel_rfl
    | succ a => kernel_rfl
end Go.Proofs.YtoenpafonldhoaaGreatDoor

