/- An abstract machine for the model's programs, its runs, and what they say of the model (part Rka6). No condition. -/
import Derived.Test.YtoenpafonldhoaaGreatDoorKn
namespace Go.Proofs.YtoenpafonldhoaaGreatDoor
open Go Go.AM
theorem ka6_run : gives ka6.v (runQ E (ovElse (ovO [kc6]) (ovS 224 265 226)) 1000 (.call ka6.f ka6.args none) (frzS ka6)) = true := by kernel_rfl
end Go.Proofs.YtoenpafonldhoaaGreatDoor

