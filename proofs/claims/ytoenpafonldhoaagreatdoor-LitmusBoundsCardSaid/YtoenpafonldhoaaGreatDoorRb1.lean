/- An abstract machine for the model's programs, its runs, and what they say of the model (part Rb1). No condition. -/
import Derived.Test.YtoenpafonldhoaaGreatDoorRw
namespace Go.Proofs.YtoenpafonldhoaaGreatDoor
open Go Go.AM
theorem kb0_run : gives kb0.v (runQ E (ovO []) 1000 (.call kb0.f kb0.args none) (frzS kb0)) = true := by kernel_rfl
theorem kb1_run : gives kb1.v (runQ E (ovO []) 1000 (.call kb1.f kb1.args none) (frzS kb1)) = true := by kernel_rfl
theorem kb2_run : gives kb2.v (runQ E (ovO []) 1000 (.call kb2.f kb2.args none) (frzS kb2)) = true := by kernel_rfl
theorem kb3_run : gives kb3.v (runQ E (ovO []) 1000 (.call kb3.f kb3.args none) (frzS kb3)) = true := by kernel_rfl
theorem kb4_run : gives kb4.v (runQ E (ovO []) 1000 (.call kb4.f kb4.args none) (frzS kb4)) = true := by kernel_rfl
end Go.Proofs.YtoenpafonldhoaaGreatDoor

