/- An abstract machine for the model's programs, its runs, and what they say of the model (part K2). No condition. -/
import Derived.Test.YtoenpafonldhoaaGreatDoorEnv
import Derived.Test.YtoenpafonldhoaaGreatDoorRows
namespace Go.Proofs.YtoenpafonldhoaaGreatDoor
open Go
theorem k_unfollowed : (Rows.litmusBoundsRow.unfollowed == Tryz.prog.unfollowed 5) = true := by kernel_rfl
end Go.Proofs.YtoenpafonldhoaaGreatDoor

