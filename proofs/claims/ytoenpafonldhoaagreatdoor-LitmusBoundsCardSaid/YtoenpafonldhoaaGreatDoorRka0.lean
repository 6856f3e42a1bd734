/- An abstract machine for the model's programs, its runs, and what they say of the model (part Rka0). No condition. -/
import Derived.Test.YtoenpafonldhoaaGreatDoorKn
namespace Go.Proofs.YtoenpafonldhoaaGreatDoor
open Go Go.AM
theorem ka0_run : gives ka0.v (runQ E (ovElse (ovO [kc0]) (ovS 224 265 226)) 1000 (.call ka0.f ka0.args none) (frzS ka0)) = true := by kernel_rfl
end Go.Proofs.YtoenpafonldhoaaGreatDoor

