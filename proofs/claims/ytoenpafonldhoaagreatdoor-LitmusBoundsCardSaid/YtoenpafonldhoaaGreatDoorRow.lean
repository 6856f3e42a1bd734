/- An abstract machine for the model's programs, its runs, and what they say of the model (part Row). No condition. -/
import Derived.Test.YtoenpafonldhoaaGreatDoorLaw
import Derived.Test.YtoenpafonldhoaaGreatDoorK
set_option linter.all false
namespace Go.Proofs.YtoenpafonldhoaaGreatDoor
open Go Go.AM Go.ChangeShapes Go.WideShapes Go.RowKit
theorem row_holds : Rows.LitmusBoundsSaid :=
  OpenClaim.holds_of_wide 5 Tryz.f5 rfl rfl rfl rfl rfl rfl rfl ⟨rfl, rfl, rfl, rfl, rfl⟩ rfl rfl rfl rfl rfl (by kernel_rfl) Tryz.func5 closed5
    (of_decide_eq_true (by kernel_rfl)) (by unfold Func.isWrapper; rw [if_neg (of_decide_eq_false (by kernel_rfl))]; exact ⟨rfl, rfl⟩)
    (fun os started H enc _ => law_lifted os started H enc)

end Go.Proofs.YtoenpafonldhoaaGreatDoor

