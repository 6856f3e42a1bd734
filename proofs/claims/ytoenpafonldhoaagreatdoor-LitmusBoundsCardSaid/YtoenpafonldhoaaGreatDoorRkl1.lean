/- An abstract machine for the model's programs, its runs, and what they say of the model (part Rkl1). No condition. -/
import Derived.Test.YtoenpafonldhoaaGreatDoorKn
namespace Go.Proofs.YtoenpafonldhoaaGreatDoor
open Go Go.AM
theorem kl1_run : gives kl1.v (runQ E (ovO [ka4, ka5, ka6, ka7, ks0, ks1, ks2, ks3, ks4, kt1]) 1000 (.call kl1.f kl1.args none) (frzS kl1)) = true := by kernel_rfl
end Go.Proofs.YtoenpafonldhoaaGreatDoor

