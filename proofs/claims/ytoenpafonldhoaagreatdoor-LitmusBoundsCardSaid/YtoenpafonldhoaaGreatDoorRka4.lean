/- An abstract machine for the model's programs, its runs, and what they say of the model (part Rka4). No condition. -/
import Derived.Test.YtoenpafonldhoaaGreatDoorKn
namespace Go.Proofs.YtoenpafonldhoaaGreatDoor
open Go Go.AM
theorem ka4_run : gives ka4.v (runQ E (ovElse (ovO [kc4]) (ovS 224 265 226)) 1000 (.call ka4.f ka4.args none) (frzS ka4)) = true := by kernel_rfl
end Go.Proofs.YtoenpafonldhoaaGreatDoor

