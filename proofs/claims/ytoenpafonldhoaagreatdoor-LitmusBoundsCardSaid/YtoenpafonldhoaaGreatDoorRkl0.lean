/- An abstract machine for the model's programs, its runs, and what they say of the model (part Rkl0). No condition. -/
import Derived.Test.YtoenpafonldhoaaGreatDoorKn
namespace Go.Proofs.YtoenpafonldhoaaGreatDoor
open Go Go.AM
theorem kl0_run : gives kl0.v (runQ E (ovO [ka0, ka1, ka2, ka3, ks0, ks1, ks2, ks3, kt0]) 1000 (.call kl0.f kl0.args none) (frzS kl0)) = true := by kernel_rfl
end Go.Proofs.YtoenpafonldhoaaGreatDoor

