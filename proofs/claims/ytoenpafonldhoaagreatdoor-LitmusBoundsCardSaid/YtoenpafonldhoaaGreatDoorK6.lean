/- An abstract machine for the model's programs, its runs, and what they say of the model (part K6). No condition. -/
import Derived.Test.YtoenpafonldhoaaGreatDoorRows
import Derived.SevenTiedAt
import Derived.KernelRfl
namespace Go.Proofs.YtoenpafonldhoaaGreatDoor
open Go
theorem k_goes : false = Rows.litmusBoundsRow.goesBy Tryz.pinned.checked.prog := by kernel_rfl
theorem k_main : Tryz.pinned.checked.prog.mainIs = some (true, "9bd9f53e159ef81f0dd348efca9026319f0511cec34f5bfdeb39d8e428c0258b".toList) := by kernel_rfl
end Go.Proofs.YtoenpafonldhoaaGreatDoor

