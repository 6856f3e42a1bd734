/- An abstract machine for the model's programs, its runs, and what they say of the model (part Rka5). No condition. -/
import Derived.Test.YtoenpafonldhoaaGreatDoorKn
namespace Go.Proofs.YtoenpafonldhoaaGreatDoor
open Go Go.AM
theorem ka5_run : gives ka5.v (runQ E (ovElse (ovO [kc5]) (ovS 224 265 226)) 1000 (.call ka5.f ka5.args none) (frzS ka5)) = true := by kernel_rfl
end Go.Proofs.YtoenpafonldhoaaGreatDoor

