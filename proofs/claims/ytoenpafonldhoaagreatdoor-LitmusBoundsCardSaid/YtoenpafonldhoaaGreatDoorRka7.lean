/- An abstract machine for the model's programs, its runs, and what they say of the model (part Rka7). No condition. -/
import Derived.Test.YtoenpafonldhoaaGreatDoorKn
namespace Go.Proofs.YtoenpafonldhoaaGreatDoor
open Go Go.AM
theorem ka7_run : gives ka7.v (runQ E (ovElse (ovO [kc7]) (ovS 224 265 226)) 1000 (.call ka7.f ka7.args none) (frzS ka7)) = true := by kernel_rfl
end Go.Proofs.YtoenpafonldhoaaGreatDoor

