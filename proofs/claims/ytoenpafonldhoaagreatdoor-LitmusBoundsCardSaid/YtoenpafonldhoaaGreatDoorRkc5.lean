/- An abstract machine for the model's programs, its runs, and what they say of the model (part Rkc5). No condition. -/
import Derived.Test.YtoenpafonldhoaaGreatDoorKn
namespace Go.Proofs.YtoenpafonldhoaaGreatDoor
open Go Go.AM
theorem kc5_run : ∀ ω, gives kc5.v (run (E.by ω kc5.n) 1000 (.call kc5.f kc5.args none) (frzC kc5)) = true :=
  orcO_all fun a ω => by
    cases a with
    | zero => kernel_rfl
    | succ a => kernel_rfl
end Go.Proofs.YtoenpafonldhoaaGreatDoor

