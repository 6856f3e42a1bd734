/- An abstract machine for the model's programs, its runs, and what they say of the model (part Rp). No condition. -/
import Derived.Test.YtoenpafonldhoaaGreatDoorKn
namespace Go.Proofs.YtoenpafonldhoaaGreatDoor
open Go Go.AM
theorem ks0_run : gives ks0.v (runQ E (ovO []) 1000 (.call ks0.f ks0.args none) (frzS ks0)) = true := by kernel_rfl
theorem ks1_run : gives ks1.v (runQ E (ovO []) 1000 (.call ks1.f ks1.args none) (frzS ks1)) = true := by kernel_rfl
theorem ks2_run : gives ks2.v (runQ E (ovO []) 1000 (.call ks2.f ks2.args none) (frzS ks2)) = true := by kernel_rfl
theorem ks3_run : gives ks3.v (runQ E (ovO []) 1000 (.call ks3.f ks3.args none) (frzS ks3)) = true := by kernel_rfl
theorem kt0_run : gives kt0.v (runQ E (ovO []) 1000 (.call kt0.f kt0.args none) (frzS kt0)) = true := by kernel_rfl
theorem ks4_run : gives ks4.v (runQ E (ovO []) 1000 (.call ks4.f ks4.args none) (frzS ks4)) = true := by kernel_rfl
theorem kt1_run : gives kt1.v (runQ E (ovO []) 1000 (.call kt1.f kt1.args none) (frzS kt1)) = true := by kernel_rfl
end Go.Proofs.YtoenpafonldhoaaGreatDoor

