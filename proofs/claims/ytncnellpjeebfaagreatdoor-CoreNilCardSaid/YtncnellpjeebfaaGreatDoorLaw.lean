/- CoreNil: a core, a cache that is not there answers ErrNil: for every number, every code. No condition. -/
import Derived.Test.YtncnellpjeebfaaGreatDoorRows
import Derived.Test.YtncnellpjeebfaaGreatDoorCards
import Derived.Test.YtncnellpjeebfaaGreatDoorTie
import Derived.Test.YtncnellpjeebfaaGreatDoorRun
import Derived.ChangeVars
import Derived.JoinedOf
import Derived.RowKitTokens
import Derived.LaidLaws
import Derived.LaidHandle
import Derived.LaidSub
import Derived.Lay
import Derived.Stop.Joined
import Derived.SevenTiedAt
namespace Go.Proofs.YtncnellpjeebfaaGreatDoor
open Go Go.AM Go.ChangeShapes Go.WideShapes Go.RowKit

set_option maxRecDepth 100000
theorem Tryz.own : ownKnob Tryz.prog.godebug = none := by kernel_rfl
theorem Tryz.laidOut : laidOutB Tryz.prog = true := by kernel_rfl

theorem laidWorld_met (os : Os) (args : Array Value) : laidMetH Tryz.prog Rows.coreNilRow.laid ((World.laidAll Tryz.prog os Rows.coreNilRow.laid).forCall (fun _ _ => 0) ⟨#[], args, []⟩).memory :=
  laidMetH_of_parts (laidMet_laidAll _ (by kernel_rfl) (by kernel_rfl)) (by kernel_rfl)

theorem space_tab {W : World} (h : laidMetH Tryz.prog Rows.coreNilRow.laid W) : Lib.TabIs Tryz.prog W "strings.asciiSpace" .u8 spaceZ := by
  have e : (Rows.coreNilRow.laid.filter (fun x => x.1 == "strings.asciiSpace")) = [("strings.asciiSpace", Lib.tabData .u8 spaceZ)] := by kernel_rfl
  have h1 : laidMetH Tryz.prog [("strings.asciiSpace", Lib.tabData .u8 spaceZ)] W := by rw [← e]; exact h.filter _
  have h2 : laidMet Tryz.prog [("strings.asciiSpace", Lib.tabData .u8 spaceZ)] W := h1
  exact Lib.tabIs_of_head (g := 0) (t := 218) (e := 5) (n := 256) (by kernel_rfl) (by kernel_rfl) Tryz.underlying218 Tryz.underlying5 (by kernel_rfl) (by kernel_rfl) h2

theorem heap_size {W : World} (h : W.ShapedOpen Tryz.prog) : E.ng ≤ W.heap.size := by
  obtain ⟨zero, t, hz⟩ : ∃ zero t, ((begin Tryz.prog (fun _ _ => 0) default).world.heap[6]?).bind Obj.row? = some (zero, t) := by
    refine Option.isSome_iff_exists.1 (?_ : (((begin Tryz.prog (fun _ _ => 0) default).world.heap[6]?).bind Obj.row?).isSome = true) |>.elim fun ⟨a, b⟩ h => ⟨a, b, h⟩
    kernel_rfl
  obtain ⟨cs, h1, _⟩ := h.1 6 zero t (of_decide_eq_true (by kernel_rfl)) hz
  rcases Nat.lt_or_ge 6 W.heap.size with h | h
  · exact h
  · rw [Array.getElem?_eq_none h] at h1; cases h1

theorem space_rel {W : World} (hng : E.ng ≤ W.heap.size) (h : Lib.TabIs Tryz.prog W "strings.asciiSpace" .u8 spaceZ) : Rel (globMap E.ng) ⟨laidH spaceG, E.ng, []⟩ W :=
  tab_rel (name := "strings.asciiSpace") (by kernel_rfl) (show (0 : Nat) < 7 from Nat.zero_lt_succ 6) hng h

theorem law_run {H : Type} {enc : TypeId × Value → H} (v0 v1 : Value) (d1 : DataW H) (p1 : List MemPlace) (W : World) (base : Nat) (h0 : Value.okWide Tryz.prog W .any base 3 v0) (h1 : Value.okWide Tryz.prog W .any base 22 v1)
    (hd : DataW.Trod enc Tryz.prog W 0 (fun _ => true) true 22 v1 d1 p1) (hl : laidMetH Tryz.prog Rows.coreNilRow.laid W) (hsh : W.ShapedOpen Tryz.prog) :
    Calls Tryz.prog 3 #[v0, v1] W fun e W' => e = .returned (.bool true) ∧ Below W.heap.size W W' := by
  have hng := heap_size hsh
  have hrel : Rel (globMap E.ng) ⟨laidH spaceG, E.ng, []⟩ W := space_rel hng (space_tab hl)
  have hs : SelfOk E Tryz.prog (runO E [kKnown] 60) := runO_ok E_ok known_ok 60
  obtain ⟨pick, rfl, _⟩ : ∃ n, v0 = .int .i64 n ∧ True := by
    obtain ⟨n, h⟩ := okWide_int Tryz.underlying3 h0
    exact ⟨n, h, trivial⟩
  rcases open_nums Tryz.underlying22 Tryz.underlying25 (by kernel_rfl) h1 hd with rfl | ⟨b, o, len, cap, x, arr, el, fz, rfl, hle, hb, hcs⟩
  · obtain ⟨_, rc, s', hr⟩ := gives_spec (law_nil pick)
    have ha : VRL (globMap E.ng) [.int .i64 pick, .slice none 0 (.exact 0)] [Value.int .i64 pick, .slice none 0 0] := ⟨_, _, rfl, rfl, _, _, rfl, ⟨0, rfl, rfl⟩, rfl⟩
    exact law_callsR hs (globMap_ok E.ng) hrel globMap_ro ha hr
  · have hlt : b < W.heap.size := by
      rcases Nat.lt_or_ge b W.heap.size with h | h
      · exact h
      · rw [Array.getElem?_eq_none h] at hb; cases hb
    have hrel' : ∀ n, n ≤ len → Rel ((globMap E.ng).upd E.ng ⟨b, o, 0, 0, true⟩) (lawS x n) W := fun n hn =>
      hrel.addRo globMap_ro rfl hlt ⟨arr, el, fz, hb, fun j c hj => by
        obtain ⟨h1, rfl⟩ := cellsFrom_get hj
        exact ⟨_, hcs j (by omega), by rw [Nat.zero_add]; rfl⟩, fun h => absurd rfl h, fun h => by cases h⟩
    have hext : ∀ id l, globMap E.ng id = some l → (globMap E.ng).upd E.ng ⟨b, o, 0, 0, true⟩ id = some l := Map.upd_ext hrel.fresh
    have hargs : VRL ((globMap E.ng).upd E.ng ⟨b, o, 0, 0, true⟩) [.int .i64 pick, .slice (some (7, 0)) len (.exact cap)] [Value.int .i64 pick, .slice (some ⟨b, o, none⟩) len cap] :=
      ⟨_, _, rfl, rfl, _, _, rfl, ⟨_, Map.upd_self, rfl⟩, rfl⟩
    by_cases h60 : len ≤ 60
    · obtain ⟨_, rc, s', hr⟩ := gives_spec (law_short pick x cap len h60)
      exact law_callsR hs ((globMap_ok E.ng).mono hext) (hrel' len (Nat.le_refl _)) (upd_ro globMap_ro rfl) hargs hr
    · obtain ⟨m, rfl⟩ : ∃ m, len = m + 61 := ⟨len - 61, by omega⟩
      obtain ⟨_, rc, s', hr⟩ := gives_spec (law_long pick x cap m)
      exact law_callsR hs ((globMap_ok E.ng).mono hext) (hrel' 0 (Nat.zero_le _)) (upd_ro globMap_ro rfl) hargs hr

set_option maxRecDepth 100000 in
theorem law_lifted (os : Os) (started : os.Started) (H : Type) (enc : TypeId × Value → H) :
    ReturnsInHanded {} Tryz.checked os 3 .any (fun w args => (Rows.coreNilSpec.pre enc Tryz.prog Tryz.f3 [] false w args ∧ laidMetH Tryz.prog Rows.coreNilRow.laid w) ∧ sizedMet enc Tryz.prog Tryz.f3 (OpenSpec.ofChange Rows.coreNilSpec) false w args)
      (Rows.coreNilSpec.post enc Tryz.prog Tryz.f3 false true false false) := by
  refine returnsInHanded_of_calls Tryz.own started (by kernel_rfl)
    (ChangeSpec.witness_shaped (enc := enc) (C := Tryz.checked) (fn := Tryz.f3) (s := Rows.coreNilSpec) (conds := []) (apart := false) (os := os) (X := fun w _ => laidMetH Tryz.prog Rows.coreNilRow.laid w) false (World.laidAll Tryz.prog os Rows.coreNilRow.laid)
      #[.int .i64 0, .slice none 0 0] 30
      (World.laidAll_os _ _ _) (World.shaped_of_ZipB (by kernel_rfl) (by kernel_rfl)) (by kernel_rfl) (by kernel_rfl) (by kernel_rfl) (laidWorld_met os _)) ?_
  intro w tape i _ hsh _ hok hpre _
  obtain ⟨_, _, _, fn', hfn', _, _, _, _, hval0⟩ := hok
  obtain rfl : fn' = Tryz.f3 := Option.some.inj (hfn'.symm.trans Tryz.func3)
  obtain ⟨⟨⟨ds, gs, before, hw, hc⟩, hx⟩, _⟩ := hpre
  have hW' := DataW.Whole.of_heap (w' := w.forCall tape i) (by rfl) hw
  have hl : laidMetH Tryz.prog Rows.coreNilRow.laid (w.forCall tape i) := laidMetH.of_heap (by rfl) hx
  have hval : ∀ (j : Nat) t v, Tryz.f3.params[j]? = some t → i.args[j]? = some v → Value.okWide Tryz.prog (w.forCall tape i) .any w.heap.size t v := hval0
  have hW2 := hW'
  obtain ⟨p, q, hA0, _, _, _, _⟩ := hW2
  have hA : DataW.TrodAll enc Tryz.prog (w.forCall tape i) 0 (fun _ => true) true Tryz.f3.params.toList i.args.toList ds p := hA0
  rw [Tryz.params3] at hA hval
  obtain ⟨v0, v1, d0, d1, p0, p1, hargs, rfl, rfl, _, h1⟩ := trodAll_two hA
  rw [hargs] at hval hW' ⊢
  refine (law_run v0 v1 d1 p1 (w.forCall tape i) w.heap.size (hval 0 3 v0 rfl rfl) (hval 1 22 v1 rfl rfl) h1 hl hsh).mono fun e W' ⟨he, hb⟩ => ?_
  subst he
  exact ChangeSpec.post_blind (law_post (tb := 4) Tryz.laidOut (by rw [Tryz.params3]; intro t ht; simp at ht; rcases ht with rfl | rfl <;> exact ⟨by kernel_rfl, of_decide_eq_true (by kernel_rfl)⟩) (by kernel_rfl) Tryz.underlying4 rfl rfl hW' hb)

theorem row_holds : Rows.CoreNilSaid :=
  OpenClaim.holds_of_wide 3 Tryz.f3 rfl rfl rfl rfl rfl rfl rfl ⟨rfl, rfl, rfl, rfl, rfl⟩ rfl rfl rfl rfl rfl (by kernel_rfl) Tryz.func3 (by kernel_rfl)
    (of_decide_eq_true (by kernel_rfl)) (by unfold Func.isWrapper; rw [if_neg (of_decide_eq_false (by kernel_rfl))]; exact ⟨rfl, rfl⟩)
    (fun os started H enc _ => law_lifted os started H enc)

theorem card_holds : Rows.CoreNilCardSaid :=
  Claim7.holds_tied_plain_at .later [] [.data, .data, .data, .listed, .data] true (true, "b546cba5cb653617ae880c0bcab8d6eb575998ee7d5f049246d5196997ecf5aa") true
    row_holds (fun _ h => by cases h) (by kernel_rfl) (fun _ h => by cases h) coreNil_row_tie rfl ⟨rfl, rfl⟩ (by kernel_rfl) rfl
    (fun f fn hf hfn => by
      obtain rfl : f = 3 := Option.some.inj ((show Tryz.prog.funcNamed "quadrille/quadrillelaw15.CoreNil" = some 3 by kernel_rfl).symm.trans hf) |>.symm
      obtain rfl : fn = Tryz.f3 := (Option.some.inj (Tryz.func3.symm.trans hfn)).symm
      exact ⟨by kernel_rfl, fun j t ht => by
        rw [Tryz.params3] at ht
        rcases j with _ | _ | j
        · obtain rfl : t = 3 := by simpa using ht.symm
          exact (show Tryz.prog.wantsStandIn 3 = false by kernel_rfl)
        · obtain rfl : t = 22 := by simpa using ht.symm
          exact (show Tryz.prog.wantsStandIn 22 = false by kernel_rfl)
        · simp at ht⟩)
    (by kernel_rfl)
#print axioms card_holds
end Go.Proofs.YtncnellpjeebfaaGreatDoor
