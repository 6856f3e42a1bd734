/- An abstract machine for the model's programs, its runs, and what they say of the model (part Rkc7). No condition. -/
import Derived.Test.YtoenpafonldhoaaGreatDoorKn
namespace Go.Proofs.YtoenpafonldhoaaGreatDoor
open Go Go.AM
theorem kc7_run : ∀ ω, gives kc7.v (run (E.by ω kc7.n) 1000 (.call kc7.f kc7.args none) (frzC kc7)) = true :=
  orcO_all fun a ω => by
    cases a with
    | zero => kernel_rfl
    | succ a => kernel_rfl
end Go.Proofs.YtoenpafonldhoaaGreatDoor

