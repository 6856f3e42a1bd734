/- An abstract machine for the model's programs, its runs, and what they say of the model (part Rkc6). No condition. -/
import Derived.Test.YtoenpafonldhoaaGreatDoorKn
namespace Go.Proofs.YtoenpafonldhoaaGreatDoor
open Go Go.AM
theorem kc6_run : ∀ ω, gives kc6.v (run (E.by ω kc6.n) 1000 (.call kc6.f kc6.args none) (frzC kc6)) = true :=
  orcO_all fun a ω => by
    cases a with
    | zero => kernel_rfl
    | succ a => kernel_rfl
end Go.Proofs.YtoenpafonldhoaaGreatDoor

