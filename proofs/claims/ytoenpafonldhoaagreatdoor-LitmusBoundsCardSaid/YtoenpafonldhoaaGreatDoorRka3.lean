/- An abstract machine for the model's programs, its runs, and what they say of the model (part Rka3). No condition. -/
import Derived.Test.YtoenpafonldhoaaGreatDoorKn
namespace Go.Proofs.YtoenpafonldhoaaGreatDoor
open Go Go.AM
theorem ka3_run : gives ka3.v (runQ E (ovElse (ovO [kc3]) (ovS 224 265 226)) 1000 (.call ka3.f ka3.args none) (frzS ka3)) = true := by kernel_rfl
end Go.Proofs.YtoenpafonldhoaaGreatDoor

