/- An abstract machine for the model's programs, its runs, and what they say of the model (part K). No condition. -/
import Derived.Test.YtoenpafonldhoaaGreatDoorK1
import Derived.Test.YtoenpafonldhoaaGreatDoorK2
import Derived.Test.YtoenpafonldhoaaGreatDoorK3
import Derived.Test.YtoenpafonldhoaaGreatDoorK4
import Derived.JoinedOf
set_option linter.all false
namespace Go.Proofs.YtoenpafonldhoaaGreatDoor
open Go
theorem closed5 : joinedFacts Tryz.prog 5 Tryz.f5 Rows.litmusBoundsSpec Rows.litmusBoundsRow = true := by
  unfold joinedFacts
  rw [k_inPlace, k_unfollowed, k_recurses, k_named]
  kernel_rfl
end Go.Proofs.YtoenpafonldhoaaGreatDoor

