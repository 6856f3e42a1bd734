/- An abstract machine for the model's programs, its runs, and what they say of the model (part Card). No condition. -/
import Derived.Test.YtoenpafonldhoaaGreatDoorRow
import Derived.Test.YtoenpafonldhoaaGreatDoorK5
import Derived.Test.YtoenpafonldhoaaGreatDoorK6
set_option linter.all false
namespace Go.Proofs.YtoenpafonldhoaaGreatDoor
open Go Go.AM Go.ChangeShapes Go.WideShapes Go.RowKit
theorem card_holds : Rows.LitmusBoundsCardSaid :=
  Claim7.holds_tied_plain_at .later [] [.data, .data, .data, .data, .sentinel, .sentinel, .pinned] true (true, "9bd9f53e159ef81f0dd348efca9026319f0511cec34f5bfdeb39d8e428c0258b") true
    row_holds (fun _ h => by cases h) (by kernel_rfl) (fun _ h => by cases h) litmusBounds_row_tie rfl ⟨rfl, rfl⟩ k_main rfl
    (fun f fn hf hfn => by
      obtain rfl : f = 5 := Option.some.inj ((show Tryz.prog.funcNamed "quadrille/quadrillelaw09.LitmusBounds" = some 5 by kernel_rfl).symm.trans hf) |>.symm
      obtain rfl : fn = Tryz.f5 := (Option.some.inj (Tryz.func5.symm.trans hfn)).symm
      exact ⟨k_looks, fun j t ht => by
        rw [Tryz.params5] at ht
        simp at ht⟩)
    k_goes
#print axioms card_holds
end Go.Proofs.YtoenpafonldhoaaGreatDoor

