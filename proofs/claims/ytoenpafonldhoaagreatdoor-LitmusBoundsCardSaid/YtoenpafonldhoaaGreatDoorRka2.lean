/- An abstract machine for the model's programs, its runs, and what they say of the model (part Rka2). No condition. -/
import Derived.Test.YtoenpafonldhoaaGreatDoorKn
namespace Go.Proofs.YtoenpafonldhoaaGreatDoor
open Go Go.AM
theorem ka2_run : gives ka2.v (runQ E (ovElse (ovO [kc2]) (ovS 224 265 226)) 1000 (.call ka2.f ka2.args none) (frzS ka2)) = true := by kernel_rfl
end Go.Proofs.YtoenpafonldhoaaGreatDoor

