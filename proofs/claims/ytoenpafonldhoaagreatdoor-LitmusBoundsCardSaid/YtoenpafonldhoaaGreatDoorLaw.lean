/- An abstract machine for the model's programs, its runs, and what they say of the model (part Law). No condition. -/
import Derived.Test.YtoenpafonldhoaaGreatDoorRows
import Derived.Test.YtoenpafonldhoaaGreatDoorCards
import Derived.Test.YtoenpafonldhoaaGreatDoorTie
import Derived.Test.YtoenpafonldhoaaGreatDoorJ
import Derived.ChangeVars
import Derived.JoinedOf
import Derived.RowKitTokens
import Derived.LaidLaws
import Derived.LaidHandle
import Derived.Lay
import Derived.Stop.Joined
import Derived.SevenTiedAt
set_option linter.all false
namespace Go.Proofs.YtoenpafonldhoaaGreatDoor
open Go Go.AM Go.ChangeShapes Go.WideShapes Go.RowKit

theorem Tryz.own : ownKnob Tryz.prog.godebug = none := by kernel_rfl
theorem Tryz.laidOut : laidOutB Tryz.prog = true := by kernel_rfl

theorem laidWorld_met (os : Os) (args : Array Value) : laidMetH Tryz.prog Rows.litmusBoundsRow.laid ((World.laidAll Tryz.prog os Rows.litmusBoundsRow.laid).forCall (fun _ _ => 0) ⟨#[], args, []⟩).memory :=
  laidMetH_of_parts (laidMet_laidAll _ (by kernel_rfl) (by kernel_rfl)) (by kernel_rfl)

theorem heap_size {W : World} (h : W.ShapedOpen Tryz.prog) : E.ng ≤ W.heap.size := by
  obtain ⟨zero, t, hz⟩ : ∃ zero t, ((begin Tryz.prog (fun _ _ => 0) default).world.heap[7]?).bind Obj.row? = some (zero, t) := by
    refine Option.isSome_iff_exists.1 (?_ : (((begin Tryz.prog (fun _ _ => 0) default).world.heap[7]?).bind Obj.row?).isSome = true) |>.elim fun ⟨a, b⟩ h => ⟨a, b, h⟩
    kernel_rfl
  obtain ⟨cs, h1, _⟩ := h.1 7 zero t (of_decide_eq_true (by kernel_rfl)) hz
  rcases Nat.lt_or_ge 7 W.heap.size with h | h
  · exact h
  · rw [Array.getElem?_eq_none h] at h1; cases h1

set_option maxRecDepth 100000 in
theorem law_run (W : World) (hsz : 8 ≤ W.heap.size) :
    Calls Tryz.prog 5 #[] W fun e W' => e = .returned (.bool true) ∧ Below W.heap.size W W' := by
  obtain ⟨_, rc, s, hrun⟩ := gives_spec bounds_run
  exact law_calls0 bounds_self hsz rfl trivial hrun

set_option maxRecDepth 100000 in
theorem law_lifted (os : Os) (started : os.Started) (H : Type) (enc : TypeId × Value → H) :
    ReturnsInHanded {} Tryz.checked os 5 .any (fun w args => (Rows.litmusBoundsSpec.pre enc Tryz.prog Tryz.f5 [] false w args ∧ laidMetH Tryz.prog Rows.litmusBoundsRow.laid w) ∧ sizedMet enc Tryz.prog Tryz.f5 (OpenSpec.ofChange Rows.litmusBoundsSpec) false w args)
      (Rows.litmusBoundsSpec.post enc Tryz.prog Tryz.f5 false true false false) := by
  refine returnsInHanded_of_calls Tryz.own started (by kernel_rfl)
    (ChangeSpec.witness_shaped (enc := enc) (C := Tryz.checked) (fn := Tryz.f5) (s := Rows.litmusBoundsSpec) (conds := []) (apart := false) (os := os) (X := fun w _ => laidMetH Tryz.prog Rows.litmusBoundsRow.laid w) false (World.laidAll Tryz.prog os Rows.litmusBoundsRow.laid)
      #[] 30
      (World.laidAll_os _ _ _) (World.shaped_of_ZipB (by kernel_rfl) (by kernel_rfl)) (by kernel_rfl) (by kernel_rfl) (by kernel_rfl) (laidWorld_met os _)) ?_
  intro w tape i _ hsh _ hok hpre _
  obtain ⟨_, _, _, fn', hfn', _, _, _, hsz0, hval0⟩ := hok
  obtain rfl : fn' = Tryz.f5 := Option.some.inj (hfn'.symm.trans Tryz.func5)
  obtain ⟨⟨⟨ds, gs, before, hw, hc⟩, hx⟩, _⟩ := hpre
  have hW' := DataW.Whole.of_heap (w' := w.forCall tape i) (by rfl) hw
  have hW2 := hW'
  obtain ⟨p, q, hA0, _, _, _, _⟩ := hW2
  have hA : DataW.TrodAll enc Tryz.prog (w.forCall tape i) 0 (fun _ => true) true Tryz.f5.params.toList i.args.toList ds p := hA0
  have hz : i.args = #[] := Array.eq_empty_of_size_eq_zero (by rw [hsz0, Tryz.params5]; rfl)
  rw [Tryz.params5, hz] at hA
  obtain rfl : ds = [] := by
    cases ds with
    | nil => rfl
    | cons d ds => simp [DataW.TrodAll] at hA
  rw [hz] at hW' ⊢
  refine (law_run (w.forCall tape i) (heap_size hsh)).mono fun e W' ⟨he, hb⟩ => ?_
  subst he
  exact ChangeSpec.post_blind (law_post (tb := 4) Tryz.laidOut (by rw [Tryz.params5]; intro t ht; simp at ht) (by kernel_rfl) Tryz.underlying4 rfl rfl hW' hb)

end Go.Proofs.YtoenpafonldhoaaGreatDoor

