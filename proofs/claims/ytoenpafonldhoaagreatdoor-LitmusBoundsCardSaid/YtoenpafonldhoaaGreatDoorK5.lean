/- An abstract machine for the model's programs, its runs, and what they say of the model (part K5). No condition. -/
import Derived.Test.YtoenpafonldhoaaGreatDoorRows
import Derived.SevenTiedAt
import Derived.KernelRfl
namespace Go.Proofs.YtoenpafonldhoaaGreatDoor
open Go
theorem k_looks : true = Tryz.pinned.checked.prog.looks [] := by kernel_rfl
end Go.Proofs.YtoenpafonldhoaaGreatDoor

