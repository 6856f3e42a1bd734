/- An abstract machine for the model's programs, its runs, and what they say of the model (part K4). No condition. -/
import Derived.Test.YtoenpafonldhoaaGreatDoorEnv
import Derived.Test.YtoenpafonldhoaaGreatDoorRows
namespace Go.Proofs.YtoenpafonldhoaaGreatDoor
open Go
theorem k_named : (Rows.litmusBoundsRow.named == Tryz.prog.varsNamed 5) = true := by kernel_rfl
end Go.Proofs.YtoenpafonldhoaaGreatDoor

