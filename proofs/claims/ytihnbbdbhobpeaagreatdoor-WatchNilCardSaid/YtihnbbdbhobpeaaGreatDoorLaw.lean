/- WatchNil: a watch that is not there answers ErrNil; one without a memory is none: for every Did, every number. No condition. -/
import Derived.Test.YtihnbbdbhobpeaaGreatDoorRows
import Derived.Test.YtihnbbdbhobpeaaGreatDoorCards
import Derived.Test.YtihnbbdbhobpeaaGreatDoorTie
import Derived.Test.YtihnbbdbhobpeaaGreatDoorRun
import Derived.ChangeVars
import Derived.JoinedOf
import Derived.RowKitTokens
import Derived.LaidLaws
import Derived.LaidHandle
import Derived.Lay
import Derived.Stop.Joined
import Derived.SevenTiedAt
namespace Go.Proofs.YtihnbbdbhobpeaaGreatDoor
open Go Go.AM Go.ChangeShapes Go.WideShapes Go.RowKit

theorem Tryz.own : ownKnob Tryz.prog.godebug = none := by kernel_rfl
theorem Tryz.laidOut : laidOutB Tryz.prog = true := by kernel_rfl

theorem laidWorld_met (os : Os) (args : Array Value) : laidMetH Tryz.prog Rows.watchNilRow.laid ((World.laidAll Tryz.prog os Rows.watchNilRow.laid).forCall (fun _ _ => 0) ⟨#[], args, []⟩).memory :=
  laidMetH_of_parts (laidMet_laidAll _ (by kernel_rfl) (by kernel_rfl)) (by kernel_rfl)

theorem cells36 : Tryz.prog.cellTypes Tryz.prog.depth 36 = some [22, 3, 23, 23, 24, 23, 3, 23, 25, 4, 4, 23, 4, 3, 23, 30, 23, 3, 23, 3] := by kernel_rfl

set_option maxRecDepth 100000 in
theorem law_run (args : Array Value) (W : World) (base : Nat) (h0 : ∀ v, args[0]? = some v → Value.okWide Tryz.prog W .any base 36 v) (h1 : ∀ v, args[1]? = some v → Value.okWide Tryz.prog W .any base 3 v) (hs : args.size = 2) :
    Calls Tryz.prog 3 args W fun e W' => e = .returned (.bool true) ∧ Below W.heap.size W W' := by
  obtain ⟨v0, v1, rfl⟩ : ∃ v0 v1, args = #[v0, v1] := by
    rcases args with ⟨l⟩
    match l, hs with
    | [v0, v1], _ => exact ⟨v0, v1, rfl⟩
  obtain ⟨l, e0, hl⟩ := open_agg (N := W.heap.size) Tryz.underlying36 cells36 (by kernel_rfl) (ds := [.int .i64, .int .i64, .int .u32, .int .u32, .int .i64, .int .u32, .int .i64, .int .u32, .int .i64, .bool, .bool, .int .u32, .bool, .int .i64, .int .u32, .int .i64, .int .u32, .int .i64, .int .u32, .int .i64]) (by kernel_rfl) rfl (h0 v0 rfl)
  obtain ⟨n, e1, _⟩ := open_num (N := W.heap.size) Tryz.underlying3 (h1 v1 rfl)
  obtain ⟨a1, _, rfl, a2, _, rfl, a3, _, rfl, a4, _, rfl, a5, _, rfl, a6, _, rfl, a7, _, rfl, a8, _, rfl, a9, _, rfl, b1, _, rfl, b2, _, rfl, a12, _, rfl, b3, _, rfl, a14, _, rfl, a15, _, rfl, a16, _, rfl, a17, _, rfl, a18, _, rfl, a19, _, rfl, a20, _, rfl, rfl⟩ := hl
  have hargs : toVA W.heap.size #[v0, v1] = [didV a1 a2 a3 a4 a5 a6 a7 a8 a9 a12 a14 a15 a16 a17 a18 a19 a20 b1 b2 b3, .int .i64 n] := by
    show [toV W.heap.size v0, toV W.heap.size v1] = _
    rw [e0, e1]; rfl
  obtain ⟨s, hrun⟩ := isT_ret (wn_any a1 a2 a3 a4 a5 a6 a7 a8 a9 a12 a14 a15 a16 a17 a18 a19 a20 b1 b2 b3 n)
  exact law_calls0 (runO_ok E_ok known_ov 60) (Nat.zero_le _) hargs (did_nums a1 a2 a3 a4 a5 a6 a7 a8 a9 a12 a14 a15 a16 a17 a18 a19 a20 b1 b2 b3 n) hrun

set_option maxRecDepth 100000 in
theorem law_lifted (os : Os) (started : os.Started) (H : Type) (enc : TypeId × Value → H) :
    ReturnsInHanded {} Tryz.checked os 3 .any (fun w args => (Rows.watchNilSpec.pre enc Tryz.prog Tryz.f3 [] false w args ∧ laidMetH Tryz.prog Rows.watchNilRow.laid w) ∧ sizedMet enc Tryz.prog Tryz.f3 (OpenSpec.ofChange Rows.watchNilSpec) false w args)
      (Rows.watchNilSpec.post enc Tryz.prog Tryz.f3 false true false false) := by
  refine returnsInHanded_of_change_and (C := Tryz.checked) (X := fun w _ => laidMetH Tryz.prog Rows.watchNilRow.laid w) (fun _ _ _ hh h => h.of_heap hh) Tryz.own started (by kernel_rfl) Tryz.func3
    (ChangeSpec.witness_shaped (enc := enc) (C := Tryz.checked) (os := os) (X := fun w _ => laidMetH Tryz.prog Rows.watchNilRow.laid w) false (World.laidAll Tryz.prog os Rows.watchNilRow.laid)
      #[.agg #[.int .i64 0, .int .i64 0, .int .u32 0, .int .u32 0, .int .i64 0, .int .u32 0, .int .i64 0, .int .u32 0, .int .i64 0, .bool false, .bool false, .int .u32 0, .bool false, .int .i64 0, .int .u32 0, .int .i64 0, .int .u32 0, .int .i64 0, .int .u32 0, .int .i64 0], .int .i64 0] 30
      (World.laidAll_os _ _ _) (World.shaped_of_ZipB (by kernel_rfl) (by kernel_rfl)) (by kernel_rfl) (by kernel_rfl) (by kernel_rfl) (laidWorld_met os _)) ?_
  intro W base args ds gs before hval0 hW _ _ _ _
  have hval : ∀ (j : Nat) t v, Tryz.f3.params[j]? = some t → args[j]? = some v → Value.okWide Tryz.prog W .any base t v := hval0
  have hW' := hW
  obtain ⟨p, q, hA0, _, _, _, _⟩ := hW
  have hA : DataW.TrodAll enc Tryz.prog W 0 (fun _ => true) true Tryz.f3.params.toList args.toList ds p := hA0
  rw [Tryz.params3] at hA hval
  obtain ⟨v0, v1, d0, d1, p0, p1, rfl, rfl, rfl, _, _⟩ := trodAll_two hA
  refine (law_run #[v0, v1] W base (fun v hv => hval 0 36 v rfl hv) (fun v hv => hval 1 3 v rfl hv) rfl).mono fun e W' ⟨he, hb⟩ => ?_
  subst he
  exact ⟨_, rfl, law_post (tb := 4) Tryz.laidOut (by rw [Tryz.params3]; intro t ht; simp at ht; rcases ht with rfl | rfl <;> exact ⟨by kernel_rfl, of_decide_eq_true (by kernel_rfl)⟩) (by kernel_rfl) Tryz.underlying4 rfl rfl hW' hb⟩

theorem row_holds : Rows.WatchNilSaid :=
  OpenClaim.holds_of_wide 3 Tryz.f3 rfl rfl rfl rfl rfl rfl rfl ⟨rfl, rfl, rfl, rfl, rfl⟩ rfl rfl rfl rfl rfl (by kernel_rfl) Tryz.func3 (by kernel_rfl)
    (of_decide_eq_true (by kernel_rfl)) (by unfold Func.isWrapper; rw [if_neg (of_decide_eq_false (by kernel_rfl))]; exact ⟨rfl, rfl⟩)
    (fun os started H enc _ => law_lifted os started H enc)

theorem card_holds : Rows.WatchNilCardSaid :=
  Claim7.holds_tied_plain_at .later [] [.data, .data, .data, .listed, .data] true (true, "0c47c6d19c54f05d11f1917434a56c849bc8f8998da327874595a97c3b1d19bc") true
    row_holds (fun _ h => by cases h) (by kernel_rfl) (fun _ h => by cases h) watchNil_row_tie rfl ⟨rfl, rfl⟩ (by kernel_rfl) rfl
    (fun f fn hf hfn => by
      obtain rfl : f = 3 := Option.some.inj ((show Tryz.prog.funcNamed "quadrille/quadrillelaw17.WatchNil" = some 3 by kernel_rfl).symm.trans hf) |>.symm
      obtain rfl : fn = Tryz.f3 := (Option.some.inj (Tryz.func3.symm.trans hfn)).symm
      exact ⟨by kernel_rfl, fun j t ht => by
        rw [Tryz.params3] at ht
        rcases j with _ | _ | j
        · obtain rfl : t = 36 := by simpa using ht.symm
          exact (show Tryz.prog.wantsStandIn 36 = false by kernel_rfl)
        · obtain rfl : t = 3 := by simpa using ht.symm
          exact (show Tryz.prog.wantsStandIn 3 = false by kernel_rfl)
        · simp at ht⟩)
    (by kernel_rfl)
#print axioms card_holds
end Go.Proofs.YtihnbbdbhobpeaaGreatDoor
