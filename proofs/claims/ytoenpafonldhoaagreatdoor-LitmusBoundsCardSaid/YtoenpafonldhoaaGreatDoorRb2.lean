/- An abstract machine for the model's programs, its runs, and what they say of the model (part Rb2). No condition. -/
import Derived.Test.YtoenpafonldhoaaGreatDoorRw
namespace Go.Proofs.YtoenpafonldhoaaGreatDoor
open Go Go.AM
theorem kb5_run : gives kb5.v (runQ E (ovO []) 1000 (.call kb5.f kb5.args none) (frzS kb5)) = true := by kernel_rfl
theorem kb6_run : gives kb6.v (runQ E (ovO []) 1000 (.call kb6.f kb6.args none) (frzS kb6)) = true := by kernel_rfl
theorem kb7_run : gives kb7.v (runQ E (ovO []) 1000 (.call kb7.f kb7.args none) (frzS kb7)) = true := by kernel_rfl
theorem kb8_run : gives kb8.v (runQ E (ovO []) 1000 (.call kb8.f kb8.args none) (frzS kb8)) = true := by kernel_rfl
theorem kb9_run : gives kb9.v (runQ E (ovO []) 1000 (.call kb9.f kb9.args none) (frzS kb9)) = true := by kernel_rfl
end Go.Proofs.YtoenpafonldhoaaGreatDoor

