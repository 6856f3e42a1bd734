/- An abstract machine for the model's programs, its runs, and what they say of the model (part Rka1). No condition. -/
import Derived.Test.YtoenpafonldhoaaGreatDoorKn
namespace Go.Proofs.YtoenpafonldhoaaGreatDoor
open Go Go.AM
theorem ka1_run : gives ka1.v (runQ E (ovElse (ovO [kc1]) (ovS 224 265 226)) 1000 (.call ka1.f ka1.args none) (frzS ka1)) = true := by kernel_rfl
end Go.Proofs.YtoenpafonldhoaaGreatDoor

