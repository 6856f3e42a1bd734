/- An abstract machine for the model's programs, its runs, and what they say of the model (part Rkc4). No condition. -/
import Derived.Test.YtoenpafonldhoaaGreatDoorKn
namespace Go.Proofs.YtoenpafonldhoaaGreatDoor
open Go Go.AM
theorem kc4_run : ∀ ω, gives kc4.v (run (E.by ω kc4.n) 1000 (.call kc4.f kc4.args none) (frzC kc4)) = true :=
  orcO_all fun a ω => by
    cases a with
    | zero => kernel_rfl
    | succ a => kernel_rfl
end Go.Proofs.YtoenpafonldhoaaGreatDoor

