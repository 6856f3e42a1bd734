/- An abstract machine for the model's programs, its runs, and what they say of the model (part Rl). No condition. -/
import Derived.Test.YtoenpafonldhoaaGreatDoorRw
namespace Go.Proofs.YtoenpafonldhoaaGreatDoor
open Go Go.AM
theorem bounds_run : gives (.bool true) (runQ E (ovO [kb0, kb1, kb2, kb3, kb4, kb5, kb6, kb7, kb8, kb9, kw]) 1000 (.call 5 [] none) ⟨.leaf, 8, []⟩) = true := by kernel_rfl
end Go.Proofs.YtoenpafonldhoaaGreatDoor

