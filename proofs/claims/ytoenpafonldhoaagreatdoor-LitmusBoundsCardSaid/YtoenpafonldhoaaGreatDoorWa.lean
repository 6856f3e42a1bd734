/- An abstract machine for the model's programs, its runs, and what they say of the model (part Wa). No condition. -/
import Derived.Test.YtoenpafonldhoaaGreatDoorWz
import Derived.Test.YtoenpafonldhoaaGreatDoorAmG
set_option linter.all false
namespace Go.Proofs.YtoenpafonldhoaaGreatDoor
open Go Go.AM
set_option linter.unusedSimpArgs false
set_option linter.unusedVariables false
set_option maxRecDepth 100000
set_option maxHeartbeats 4000000
attribute [local simp] run_succ task callTask ev evSeq evRegion_f evOps evCond evBlock exec1 guardOk guardNot notIs exec opMove opPick pickOf opAlloc allocOf opBox boxOf opBuild buildOf opLoad loadAt opStore storeAt putCells opNilCheck nilCheckOf
  opUn unOf opConvert convOf opIface ifaceOf opMakeFunc opMakeSlice makeSliceOf opSlice sliceOf sliceSl sub3 bounds3 boundOf bothOr opFieldAddr fieldAddrOf opField fieldOf opIndexAddr indexAddrOf opIndex indexOf inside opLookup opMapUpdate opExtract extractOf opPanic panicOf makeMapOf
  retV Q.val Q.opt Q.run after setTm putTm opd opds tmV Tr.get_put leaf_get ofV ofVA ofVL opBin binAt binOf binInt binStr eqOp eqInt eqBool eqPtr eqSlice eqMap eqFunc eqIface eqStr eqAgg isNilIface boolIs optV
  opBuildSlice buildSliceOf Env.desc fillV repl pairs opCall callOf extCall builtinOf type1 type2 head1 head2 builtinAppend isIntD lenOf srcOf appendAt roomOk dropN takeN noMore appendOn appendNew lenAt capAt builtinCopy
  afterBody AM.unwind resultsOf one afterCall orRet listTm takeN_all isShift kindEq intOp iAdd iSub iMul iLss iLeq iGtr iGeq iEql iNeq iShl iShr iQuo iRem V.cells V.isCell allCells partOf splice over placeOfField elemPlace knownFs aggOpt zeroOf isU8 isIface
  afterLoop afterScope asCode strOp undefV isConst not_false_eq_true
  List.getElem?_cons_succ List.getElem?_cons_zero S.new S.rd S.wr nat_ne ble_t ble_f beq_t beq_f ltI_t ltI_f eqI_t eqI_f isub_def iadd_def imul_def wrapQ_i64 wrapQ_u32 wrapQ_u8 iAnd_pred inside_in bytes_len bytes_all bytesOf_cells over_bytes repl_len1
attribute [local simp] by_fn by_ty by_ext by_ng by_oid by_orc ng_eq
attribute [local simp] fiOfFn fn224 bd224 rs224 nt224 body224 Tryz.f224 fn225 bd225 rs225 nt225 body225 Tryz.f225 fn263 bd263 rs263 nt263 body263 Tryz.f263 fn264 bd264 rs264 nt264 body264 Tryz.f264 fn283 bd283 rs283 nt283 body283 Tryz.f283 fn284 bd284 rs284 nt284 body284 Tryz.f284 fn320 bd320 rs320 nt320 body320 Tryz.f320 fn265 bd265 rs265 nt265 body265 Tryz.f265 fn226 bd226 rs226 nt226 body226 Tryz.f226 fn106 bd106 rs106 nt106 body106 Tryz.f106 ty3 t3 ty4 t4 ty166 t166 ty181 t181 ty230 t230 ty268 t268 ty214 t214
attribute [local simp] byEq3 loopN loops drawN draws rangN rangs
theorem cmp226 (ω : Nat → Nat) (i k : Nat) (s : S) (a b c d : Int) (hk : 1 ≤ k) : ∃ s', run (E.by ω i) k (.call 226 [.agg [.int .i64 a, .int .i64 b], .agg [.int .i64 c, .int .i64 d]] none) s = .ret (.int .i64 (wrapQ .i64 (if a = c then b - d else a - c))) false s' ∧ Ext s s' := by
  obtain ⟨k, rfl⟩ : ∃ j, k = j + 1 := ⟨k - 1, by omega⟩
  by_cases h : a = c
  · subst h
    refine ⟨_, by simp (maxSteps := 1000000) (disch := omega) [ext226] <;> first | done | exact rfl | exact ⟨rfl, rfl⟩ | exact ⟨rfl, rfl, rfl⟩, ⟨by simp only; omega, fun i hi => by simp (disch := omega)⟩⟩
  · refine ⟨_, by simp (maxSteps := 1000000) (disch := omega) [ext226, h] <;> first | done | exact rfl | exact ⟨rfl, rfl⟩ | exact ⟨rfl, rfl, rfl⟩, ⟨by simp only; omega, fun i hi => by simp (disch := omega)⟩⟩
end Go.Proofs.YtoenpafonldhoaaGreatDoor

namespace Go.Proofs.YtoenpafonldhoaaGreatDoor
open Go Go.AM
set_option linter.unusedSimpArgs false
set_option linter.unusedVariables false
set_option maxRecDepth 100000
set_option maxHeartbeats 4000000
attribute [local simp] run_succ task callTask ev evSeq evRegion_f evOps evCond evBlock exec1 guardOk guardNot notIs exec opMove opPick pickOf opAlloc allocOf opBox boxOf opBuild buildOf opLoad loadAt opStore storeAt putCells opNilCheck nilCheckOf
  opUn unOf opConvert convOf opIface ifaceOf opMakeFunc opMakeSlice makeSliceOf opSlice sliceOf sliceSl sub3 bounds3 boundOf bothOr opFieldAddr fieldAddrOf opField fieldOf opIndexAddr indexAddrOf opIndex indexOf inside opLookup opMapUpdate opExtract extractOf opPanic panicOf makeMapOf
  retV Q.val Q.opt Q.run after setTm putTm opd opds tmV Tr.get_put leaf_get ofV ofVA ofVL opBin binAt binOf binInt binStr eqOp eqInt eqBool eqPtr eqSlice eqMap eqFunc eqIface eqStr eqAgg isNilIface boolIs optV
  opBuildSlice buildSliceOf Env.desc fillV repl pairs opCall callOf extCall builtinOf type1 type2 head1 head2 builtinAppend isIntD lenOf srcOf appendAt roomOk dropN takeN noMore appendOn appendNew lenAt capAt builtinCopy
  afterBody AM.unwind resultsOf one afterCall orRet listTm takeN_all isShift kindEq intOp iAdd iSub iMul iLss iLeq iGtr iGeq iEql iNeq iShl iShr iQuo iRem V.cells V.isCell allCells partOf splice over placeOfField elemPlace knownFs aggOpt zeroOf isU8 isIface
  afterLoop afterScope asCode strOp undefV isConst not_false_eq_true
  List.getElem?_cons_succ List.getElem?_cons_zero S.new S.rd S.wr nat_ne ble_t ble_f beq_t beq_f ltI_t ltI_f eqI_t eqI_f isub_def iadd_def imul_def wrapQ_i64 wrapQ_u32 wrapQ_u8 iAnd_pred inside_in bytes_len bytes_all bytesOf_cells over_bytes repl_len1
attribute [local simp] by_fn by_ty by_ext by_ng by_oid by_orc ng_eq
attribute [local simp] fiOfFn fn224 bd224 rs224 nt224 body224 Tryz.f224 fn225 bd225 rs225 nt225 body225 Tryz.f225 fn263 bd263 rs263 nt263 body263 Tryz.f263 fn264 bd264 rs264 nt264 body264 Tryz.f264 fn283 bd283 rs283 nt283 body283 Tryz.f283 fn284 bd284 rs284 nt284 body284 Tryz.f284 fn320 bd320 rs320 nt320 body320 Tryz.f320 fn265 bd265 rs265 nt265 body265 Tryz.f265 fn226 bd226 rs226 nt226 body226 Tryz.f226 fn106 bd106 rs106 nt106 body106 Tryz.f106 ty3 t3 ty4 t4 ty166 t166 ty181 t181 ty230 t230 ty268 t268 ty214 t214
attribute [local simp] byEq3 loopN loops drawN draws rangN rangs
theorem wrap_small (n : Int) (h0 : -1000000 ≤ n) (h : n ≤ 1000000) : wrapQ .i64 n = n := by
  cases n with
  | ofNat m => exact wrapQ_i64 _ (Int.natCast_nonneg m) (by simp at h ⊢; omega)
  | negSucc m =>
    have e : ∀ x : Int, IntKind.wrap .i64 x = (if (decide (x % 18446744073709551616 ≥ 9223372036854775808)) then x % 18446744073709551616 - 18446744073709551616 else x % 18446744073709551616) := fun x => rfl
    show IntKind.wrap .i64 (Int.negSucc m) = _
    rw [e]
    have h1 : Int.negSucc m % 18446744073709551616 = 18446744073709551616 - (m + 1) := by omega
    have hm : (m : Int) < 1000000 := by omega
    rw [h1, if_pos (by simp only [decide_eq_true_eq]; omega)]
    omega

theorem flat_len : ∀ l : List (Int × Int), (flatP l).length = l.length * 2
  | [] => rfl
  | _ :: l => by simp [flatP, flat_len l]; omega
theorem flat_app : ∀ l m : List (Int × Int), flatP (l ++ m) = flatP l ++ flatP m
  | [], _ => rfl
  | _ :: l, m => by simp [flatP, flat_app l m]

/-- a slice of pairs that grew by appends -/
inductive Cur (lo : Nat) (s : S) : V → List (Int × Int) → Prop where
  | none : Cur lo s (.slice .none 0 (.exact 0)) []
  | some (a n : Nat) (l : List (Int × Int)) (h0 : lo ≤ a) (h1 : a < s.n) (hn : n = l.length) (hn1 : 1 ≤ n) (h2 : s.h.get a = .some (.cells (flatP l) 2 false)) : Cur lo s (.slice (.some (a, 0)) n (.opn 0)) l

noncomputable def A283 : Code := (rangN body283 0).1
noncomputable def B283 : Code := (rangN body283 0).2
theorem round_none (ω : Nat → Nat) (i k : Nat) (s : S) (L X df : Nat) (tm : Tr V) (a b : Int) (hL : s.h.get L = some (.loop .ready none 283 tm 13 [7] A283 B283 df)) (h2 : tm.get 2 = some (.ptr (some (X, 0))))
   (hX : s.h.get X = some (.cells [.slice none 0 (.exact 0)] 0 false)) (hLX : L ≠ X) (hLn : L < s.n) (hXn : X < s.n) :
   ∃ s' d, run (E.by ω i) (k + 1) (.round L [.agg [.int .i64 a, .int .i64 b]]) s = .ret (.bool true) false s' ∧ s'.h.get L = s.h.get L ∧ s'.h.get X = some (.cells [.slice (some (d, 0)) 1 (.opn 0)] 0 false) ∧
     s.n ≤ d ∧ d < s'.n ∧ s'.h.get d = some (.cells (flatP [(a, b)]) 2 false) ∧ s.n ≤ s'.n ∧ ∀ i, i < s.n → i ≠ L → i ≠ X → s'.h.get i = s.h.get i := by
  refine ⟨_, s.n + 2, by simp (maxSteps := 1000000) (disch := omega) [hL, h2, hX, roundIn, paramTm, beginRound, afterAssign, afterRound, endRound, noDs, A283, B283]; exact rfl, ?_⟩
  refine ⟨by simp (maxSteps := 1000000) (disch := omega) [hL]; exact ⟨rfl, rfl⟩, by simp (maxSteps := 1000000) (disch := omega), by omega, by simp only; omega, by simp (maxSteps := 1000000) (disch := omega) [flatP], by simp only; omega, fun i hi h1 h2 => by simp (maxSteps := 1000000) (disch := omega)⟩
theorem round_some (ω : Nat → Nat) (i k : Nat) (s : S) (L X df : Nat) (tm : Tr V) (a b : Int) (c n : Nat) (l : List (Int × Int)) (hL : s.h.get L = some (.loop .ready none 283 tm 13 [7] A283 B283 df)) (h2 : tm.get 2 = some (.ptr (some (X, 0))))
   (hX : s.h.get X = some (.cells [.slice (some (c, 0)) n (.opn 0)] 0 false)) (hc : s.h.get c = some (.cells (flatP l) 2 false)) (hn : n = l.length) (hn1 : 1 ≤ n) (hn2 : n ≤ 1000) (hLX : L ≠ X) (hcL : c ≠ L) (hcX : c ≠ X) (hLn : L < s.n) (hXn : X < s.n) (hcn : c < s.n) :
   ∃ s' d, run (E.by ω i) (k + 1) (.round L [.agg [.int .i64 a, .int .i64 b]]) s = .ret (.bool true) false s' ∧ s'.h.get L = s.h.get L ∧ s'.h.get X = some (.cells [.slice (some (d, 0)) (n + 1) (.opn 0)] 0 false) ∧
     s.n ≤ d ∧ d < s'.n ∧ s'.h.get d = some (.cells (flatP (l ++ [(a, b)])) 2 false) ∧ s.n ≤ s'.n ∧ ∀ i, i < s.n → i ≠ L → i ≠ X → i ≠ c → s'.h.get i = s.h.get i := by
  have e1 : splice (n * 2) (flatP l) [.int .i64 a, .int .i64 b] = none := by rw [hn, ← flat_len]; exact splice_end _ _ _
  have e2 : takeN (n * 2) (flatP l) = some (flatP l) := by rw [hn, ← flat_len]; exact takeN_all _
  have e3 : flatP (l ++ [(a, b)]) = flatP l ++ [.int .i64 a, .int .i64 b] := by rw [flat_app]; rfl
  refine ⟨_, s.n + 2, by simp (maxSteps := 1000000) (disch := omega) [hL, h2, hX, hc, e1, e2, roundIn, paramTm, beginRound, afterAssign, afterRound, endRound, noDs, A283, B283]; exact rfl, ?_⟩
  refine ⟨by simp (maxSteps := 1000000) (disch := omega) [hL]; exact ⟨rfl, rfl⟩, by simp (maxSteps := 1000000) (disch := omega), by omega, by simp only; omega, by simp (maxSteps := 1000000) (disch := omega) [e3], by simp only; omega, fun i hi h1 h2 h3 => by simp (maxSteps := 1000000) (disch := omega)⟩
end Go.Proofs.YtoenpafonldhoaaGreatDoor

namespace Go.Proofs.YtoenpafonldhoaaGreatDoor
open Go Go.AM
set_option linter.unusedSimpArgs false
set_option linter.unusedVariables false
set_option maxRecDepth 100000
set_option maxHeartbeats 4000000
attribute [local simp] run_succ task callTask ev evSeq evRegion_f evOps evCond evBlock exec1 guardOk guardNot notIs exec opMove opPick pickOf opAlloc allocOf opBox boxOf opBuild buildOf opLoad loadAt opStore storeAt putCells opNilCheck nilCheckOf
  opUn unOf opConvert convOf opIface ifaceOf opMakeFunc opMakeSlice makeSliceOf opSlice sliceOf sliceSl sub3 bounds3 boundOf bothOr opFieldAddr fieldAddrOf opField fieldOf opIndexAddr indexAddrOf opIndex indexOf inside opLookup opMapUpdate opExtract extractOf opPanic panicOf makeMapOf
  retV Q.val Q.opt Q.run after setTm putTm opd opds tmV Tr.get_put leaf_get ofV ofVA ofVL opBin binAt binOf binInt binStr eqOp eqInt eqBool eqPtr eqSlice eqMap eqFunc eqIface eqStr eqAgg isNilIface boolIs optV
  opBuildSlice buildSliceOf Env.desc fillV repl pairs opCall callOf extCall builtinOf type1 type2 head1 head2 builtinAppend isIntD lenOf srcOf appendAt roomOk dropN takeN noMore appendOn appendNew lenAt capAt builtinCopy
  afterBody AM.unwind resultsOf one afterCall orRet listTm takeN_all isShift kindEq intOp iAdd iSub iMul iLss iLeq iGtr iGeq iEql iNeq iShl iShr iQuo iRem V.cells V.isCell allCells partOf splice over placeOfField elemPlace knownFs aggOpt zeroOf isU8 isIface
  afterLoop afterScope asCode strOp undefV isConst not_false_eq_true
  List.getElem?_cons_succ List.getElem?_cons_zero S.new S.rd S.wr nat_ne ble_t ble_f beq_t beq_f ltI_t ltI_f eqI_t eqI_f isub_def iadd_def imul_def wrapQ_i64 wrapQ_u32 wrapQ_u8 iAnd_pred inside_in bytes_len bytes_all bytesOf_cells over_bytes repl_len1
attribute [local simp] by_fn by_ty by_ext by_ng by_oid by_orc ng_eq
attribute [local simp] fiOfFn fn224 bd224 rs224 nt224 body224 Tryz.f224 fn225 bd225 rs225 nt225 body225 Tryz.f225 fn263 bd263 rs263 nt263 body263 Tryz.f263 fn264 bd264 rs264 nt264 body264 Tryz.f264 fn283 bd283 rs283 nt283 body283 Tryz.f283 fn284 bd284 rs284 nt284 body284 Tryz.f284 fn320 bd320 rs320 nt320 body320 Tryz.f320 fn265 bd265 rs265 nt265 body265 Tryz.f265 fn226 bd226 rs226 nt226 body226 Tryz.f226 fn106 bd106 rs106 nt106 body106 Tryz.f106 ty3 t3 ty4 t4 ty166 t166 ty181 t181 ty230 t230 ty268 t268 ty214 t214
attribute [local simp] byEq3 loopN loops drawN draws rangN rangs
theorem round283 {ω : Nat → Nat} {i k : Nat} {s : S} {L X df lo : Nat} {tm : Tr V} {a b : Int} {cur : V} {l : List (Int × Int)} {r : TR} (hr : run (E.by ω i) k (.round L [.agg [.int .i64 a, .int .i64 b]]) s = r) (hk : 1 ≤ k)
   (hL : s.h.get L = some (.loop .ready none 283 tm 13 [7] A283 B283 df)) (h2 : tm.get 2 = some (.ptr (some (X, 0)))) (hX : s.h.get X = some (.cells [cur] 0 false)) (hc : Cur lo s cur l) (hl : l.length ≤ 1000)
   (hLX : L ≠ X) (hLlo : L < lo) (hXlo : X < lo) (hlo : lo ≤ s.n) :
   ∃ s' cur', r = .ret (.bool true) false s' ∧ s'.h.get L = s.h.get L ∧ s'.h.get X = some (.cells [cur'] 0 false) ∧ Cur lo s' cur' (l ++ [(a, b)]) ∧ s.n ≤ s'.n ∧ ∀ i, i < lo → i ≠ L → i ≠ X → s'.h.get i = s.h.get i := by
  subst hr
  obtain ⟨k, rfl⟩ : ∃ j, k = j + 1 := ⟨k - 1, by omega⟩
  cases hc with
  | none =>
    obtain ⟨s', d, e1, e2, e3, e4, e5, e6, e7, e8⟩ := round_none ω i k s L X df tm a b hL h2 hX hLX (by omega) (by omega)
    exact ⟨s', _, e1, e2, e3, .some d 1 _ (by omega) e5 rfl (Nat.le_refl _) e6, e7, fun i h1 h2 h3 => e8 i (by omega) h2 h3⟩
  | some c n _ h0 h1 hn hn1 hc =>
    obtain ⟨s', d, e1, e2, e3, e4, e5, e6, e7, e8⟩ := round_some ω i k s L X df tm a b c n l hL h2 hX hc hn hn1 (by omega) hLX (by omega) (by omega) (by omega) (by omega) h1
    exact ⟨s', _, e1, e2, e3, .some d (n + 1) _ (by omega) e5 (by simp [hn]) (by omega) e6, e7, fun i h1 h2 h3 => e8 i (by omega) h2 h3 (by omega)⟩

/-! what is left of a map's entries -/
theorem left_filter (seen : List Nat) : ∀ es, leftOf seen es = es.filter fun e => !seenN e.2.2 seen
  | [] => rfl
  | e :: es => by
    simp only [leftOf, List.filter_cons, left_filter seen es]
    cases seenN e.2.2 seen <;> rfl
theorem seen_app (b x : Nat) : ∀ seen : List Nat, seenN x (seen ++ [b]) = (seenN x seen || Nat.beq b x)
  | [] => by
    simp only [List.nil_append, seenN]
    cases Nat.beq b x <;> rfl
  | y :: seen => by
    simp only [List.cons_append, seenN, seen_app b x seen]
    cases Nat.beq y x <;> rfl
theorem left_app (b : Nat) (seen : List Nat) (es : List (V × V × Nat)) : leftOf (seen ++ [b]) es = (leftOf seen es).filter fun e => !(Nat.beq b e.2.2) := by
  rw [left_filter, left_filter, List.filter_filter]
  congr 1
  funext e
  rw [seen_app]
  cases seenN e.2.2 seen <;> cases Nat.beq b e.2.2 <;> rfl
theorem left_perm {e : V × V × Nat} : ∀ {l : List (V × V × Nat)}, (l.map (·.2.2)).Nodup → e ∈ l → l.Perm (e :: l.filter fun x => !(Nat.beq e.2.2 x.2.2))
  | [], _, h => by simp at h
  | x :: l, hn, h => by
    simp only [List.map_cons, List.nodup_cons] at hn
    rcases List.mem_cons.1 h with rfl | h
    · have hf : l.filter (fun x => !(Nat.beq e.2.2 x.2.2)) = l := List.filter_eq_self.2 fun y hy => by
        have : y.2.2 ≠ e.2.2 := fun h => hn.1 (h ▸ List.mem_map_of_mem hy)
        simp [beq_f _ _ (Ne.symm this)]
      simp [List.filter_cons, hf]
    · have hne : x.2.2 ≠ e.2.2 := fun h' => hn.1 (h' ▸ List.mem_map_of_mem h)
      have ih := left_perm hn.2 h
      simp only [List.filter_cons, beq_f _ _ (Ne.symm hne), Bool.not_false, if_true]
      exact (List.Perm.cons x ih).trans (List.Perm.swap e x _)
theorem pick_mem : ∀ {l : List (V × V × Nat)} {n : Nat} {e : V × V × Nat}, pickAt l n = some e → e ∈ l := fun h => by
  rw [pickAt_eq] at h; exact List.mem_of_getElem? h
theorem pick_some {l : List (V × V × Nat)} {n : Nat} (h : l ≠ []) : ∃ e, pickAt l n = some e := by
  rw [pickAt_eq]
  have : 0 < l.length := List.length_pos_iff.2 h
  exact ⟨_, List.getElem?_eq_getElem (by omega)⟩
end Go.Proofs.YtoenpafonldhoaaGreatDoor

namespace Go.Proofs.YtoenpafonldhoaaGreatDoor
open Go Go.AM
set_option linter.unusedSimpArgs false
set_option linter.unusedVariables false
set_option maxRecDepth 100000
set_option maxHeartbeats 4000000
attribute [local simp] run_succ task callTask ev evSeq evRegion_f evOps evCond evBlock exec1 guardOk guardNot notIs exec opMove opPick pickOf opAlloc allocOf opBox boxOf opBuild buildOf opLoad loadAt opStore storeAt putCells opNilCheck nilCheckOf
  opUn unOf opConvert convOf opIface ifaceOf opMakeFunc opMakeSlice makeSliceOf opSlice sliceOf sliceSl sub3 bounds3 boundOf bothOr opFieldAddr fieldAddrOf opField fieldOf opIndexAddr indexAddrOf opIndex indexOf inside opLookup opMapUpdate opExtract extractOf opPanic panicOf makeMapOf
  retV Q.val Q.opt Q.run after setTm putTm opd opds tmV Tr.get_put leaf_get ofV ofVA ofVL opBin binAt binOf binInt binStr eqOp eqInt eqBool eqPtr eqSlice eqMap eqFunc eqIface eqStr eqAgg isNilIface boolIs optV
  opBuildSlice buildSliceOf Env.desc fillV repl pairs opCall callOf extCall builtinOf type1 type2 head1 head2 builtinAppend isIntD lenOf srcOf appendAt roomOk dropN takeN noMore appendOn appendNew lenAt capAt builtinCopy
  afterBody AM.unwind resultsOf one afterCall orRet listTm takeN_all isShift kindEq intOp iAdd iSub iMul iLss iLeq iGtr iGeq iEql iNeq iShl iShr iQuo iRem V.cells V.isCell allCells partOf splice over placeOfField elemPlace knownFs aggOpt zeroOf isU8 isIface
  afterLoop afterScope asCode strOp undefV isConst not_false_eq_true
  List.getElem?_cons_succ List.getElem?_cons_zero S.new S.rd S.wr nat_ne ble_t ble_f beq_t beq_f ltI_t ltI_f eqI_t eqI_f isub_def iadd_def imul_def wrapQ_i64 wrapQ_u32 wrapQ_u8 iAnd_pred inside_in bytes_len bytes_all bytesOf_cells over_bytes repl_len1
attribute [local simp] by_fn by_ty by_ext by_ng by_oid by_orc ng_eq
attribute [local simp] fiOfFn fn224 bd224 rs224 nt224 body224 Tryz.f224 fn225 bd225 rs225 nt225 body225 Tryz.f225 fn263 bd263 rs263 nt263 body263 Tryz.f263 fn264 bd264 rs264 nt264 body264 Tryz.f264 fn283 bd283 rs283 nt283 body283 Tryz.f283 fn284 bd284 rs284 nt284 body284 Tryz.f284 fn320 bd320 rs320 nt320 body320 Tryz.f320 fn265 bd265 rs265 nt265 body265 Tryz.f265 fn226 bd226 rs226 nt226 body226 Tryz.f226 fn106 bd106 rs106 nt106 body106 Tryz.f106 ty3 t3 ty4 t4 ty166 t166 ty181 t181 ty230 t230 ty268 t268 ty214 t214
attribute [local simp] byEq3 loopN loops drawN draws rangN rangs
attribute [local simp] opNext nextAt nextIn takeEnt ext265
noncomputable def C265 : Code := loopN body265 0
section
variable (ω : Nat → Nat) (n : Nat)
theorem many_end (r m since last clock : Nat) (seen : List Nat) (es : List (V × V × Nat)) (h1 : allOld since es = true) (h2 : wasThere last es = true) (h : leftOf seen es = []) : nextMany (E.by ω n) r m since seen last clock es = retV overV := by
  simp [nextMany, h1, h2, h]
theorem many_one (r m since last clock : Nat) (seen : List Nat) (es : List (V × V × Nat)) (e) (h1 : allOld since es = true) (h2 : wasThere last es = true) (h : leftOf seen es = [e]) : nextMany (E.by ω n) r m since seen last clock es = takeEnt r m since clock seen e := by
  simp [nextMany, h1, h2, h]
theorem many_two (r m since last clock : Nat) (seen : List Nat) (es : List (V × V × Nat)) (e e' l) (h1 : allOld since es = true) (h2 : wasThere last es = true) (h : leftOf seen es = e :: e' :: l) :
    nextMany (E.by ω n) r m since seen last clock es = .rd n fun o => match o with
      | .cnt c => (match pickAt (e :: e' :: l) (ω c) with
        | some e => .wr n (.cnt (Nat.succ c)) (takeEnt r m since clock seen e)
        | none => .fail "next: oracle")
      | _ => .fail "next: no counter" := by
  simp [nextMany, h1, h2, h, pickEnt]
  rfl
theorem loop265_end (k : Nat) (s : S) (tm : Tr V) (it m since last clock g : Nat) (seen : List Nat) (x y : V × V × Nat) (es : List (V × V × Nat)) (t5 : tm.get 5 = some (.ptr (some (it, 0))))
   (hit : s.h.get it = some (.mapIter (some m) since seen last)) (hm : s.h.get m = some (.map (x :: y :: es) clock true))
   (h1 : allOld since (x :: y :: es) = true) (h2 : wasThere last (x :: y :: es) = true) (h : leftOf seen (x :: y :: es) = []) :
   ∃ s' tm', run (E.by ω n) (k + 1) (.loop ⟨265, 14, none, none⟩ C265 ⟨tm, [], false, g⟩) s = .code (.ok (.exit 0) ⟨tm', [], false, g⟩ s') ∧ s'.n = s.n ∧ ∀ i, s'.h.get i = s.h.get i := by
  have e := many_end ω n it m since last clock seen (x :: y :: es) h1 h2 h
  obtain ⟨x1, x2, x3⟩ := x
  refine ⟨_, _, by simp (maxSteps := 1000000) (disch := omega) [C265, t5, hit, hm, e, overV]; exact ⟨rfl, rfl⟩, ?_⟩
  exact ⟨rfl, fun i => rfl⟩
theorem lastN_app (b : Nat) : ∀ l : List Nat, lastN (l ++ [b]) = some b
  | [] => rfl
  | [_] => rfl
  | _ :: y :: l => by
    have := lastN_app b (y :: l)
    simpa [lastN] using this
theorem born_find {b : Nat} {k v : V} : ∀ {es : List (V × V × Nat)}, (es.map (·.2.2)).Nodup → (k, v, b) ∈ es → bornFind b es = some (.tuple [k, v])
  | [], _, h => by simp at h
  | (k', w, c) :: es, hn, h => by
    simp only [List.map_cons, List.nodup_cons] at hn
    simp only [bornFind]
    rcases List.mem_cons.1 h with h | h
    · cases h; simp
    · have hne : c ≠ b := fun h' => hn.1 (h' ▸ List.mem_map_of_mem (f := fun e : V × V × Nat => e.2.2) h)
      rw [beq_f _ _ hne]; exact born_find hn.2 h
attribute [local simp] opEntry entryAt
/-- one entry goes by -/
theorem loop265_one {k : Nat} {s : S} {tm : Tr V} {it m L since last clock g : Nat} {seen : List Nat} {x y : V × V × Nat} {es : List (V × V × Nat)} {e : V × V × Nat} {a b : Int} (t5 : tm.get 5 = some (.ptr (some (it, 0)))) (t0 : tm.get 0 = some (.yield L))
   (hit : s.h.get it = some (.mapIter (some m) since seen last)) (hm : s.h.get m = some (.map (x :: y :: es) clock true)) (hmi : m ≠ it) (hitn : it < s.n) (hmn : m < s.n)
   (h1 : allOld since (x :: y :: es) = true) (h2 : wasThere last (x :: y :: es) = true) (h : leftOf seen (x :: y :: es) = [e]) (he : e.1 = .agg [.int .i64 a, .int .i64 b]) (hn : ((x :: y :: es).map (·.2.2)).Nodup) (hme : e ∈ x :: y :: es) :
   ∃ s1 tm', (∀ s2, run (E.by ω n) k (.round L [.agg [.int .i64 a, .int .i64 b]]) s1 = .ret (.bool true) false s2 → run (E.by ω n) (k + 1) (.loop ⟨265, 14, none, none⟩ C265 ⟨tm, [], false, g⟩) s = run (E.by ω n) k (.loop ⟨265, 14, none, none⟩ C265 ⟨tm', [], false, g⟩) s2) ∧
     tm'.get 5 = tm.get 5 ∧ tm'.get 0 = tm.get 0 ∧ s1.n = s.n + 1 ∧ s1.h.get it = some (.mapIter (some m) since (seen ++ [e.2.2]) clock) ∧ ∀ i, i < s.n → i ≠ it → s1.h.get i = s.h.get i := by
  have q := many_one ω n it m since last clock seen (x :: y :: es) e h1 h2 h
  obtain ⟨e1, e2, e3⟩ := e
  simp only at he; subst he
  have hb := born_find hn hme
  generalize hX : x :: y :: es = X at *
  obtain ⟨x1, x2, x3⟩ := x
  subst hX
  have hl := lastN_app e3 seen
  refine ⟨⟨((s.h.put it (some (Ob.mapIter (some m) since (seen ++ [e3]) clock))).put s.n (some (Ob.cells [V.int IntKind.i64 0, V.int IntKind.i64 0] 0 false))).put s.n (some (Ob.cells [V.int IntKind.i64 a, V.int IntKind.i64 b] 0 false)), s.n + 1,
    (s.n, false) :: (s.n, true) :: (s.n, false) :: (s.n, true) :: (m, false) :: (it, false) :: (it, true) :: (m, false) :: (it, false) :: s.lg⟩, _, fun s2 hr => by simp (maxSteps := 1000000) (disch := omega) [C265, t5, t0, hit, hm, q, hb, hl, hr]; exact rfl, ?_⟩
  exact ⟨by simp (maxSteps := 1000000) (disch := omega), by simp (maxSteps := 1000000) (disch := omega), rfl, by simp (maxSteps := 1000000) (disch := omega), fun i h1 h2 => by simp (maxSteps := 1000000) (disch := omega)⟩
/-- one of several goes by, and the counter goes on -/
theorem loop265_two {k : Nat} {s : S} {tm : Tr V} {it m L since last clock g c : Nat} {seen : List Nat} {x y : V × V × Nat} {es : List (V × V × Nat)} {e e0 e' : V × V × Nat} {l : List (V × V × Nat)} {a b : Int} (t5 : tm.get 5 = some (.ptr (some (it, 0)))) (t0 : tm.get 0 = some (.yield L))
   (hit : s.h.get it = some (.mapIter (some m) since seen last)) (hm : s.h.get m = some (.map (x :: y :: es) clock true)) (hc : s.h.get n = some (.cnt c)) (hmi : m ≠ it) (hni : n ≠ it) (hnm : n ≠ m) (hitn : it < s.n) (hmn : m < s.n) (hnn : n < s.n)
   (h1 : allOld since (x :: y :: es) = true) (h2 : wasThere last (x :: y :: es) = true) (h : leftOf seen (x :: y :: es) = e0 :: e' :: l) (hp : pickAt (e0 :: e' :: l) (ω c) = some e) (he : e.1 = .agg [.int .i64 a, .int .i64 b]) (hn : ((x :: y :: es).map (·.2.2)).Nodup) (hme : e ∈ x :: y :: es) :
   ∃ s1 tm', (∀ s2, run (E.by ω n) k (.round L [.agg [.int .i64 a, .int .i64 b]]) s1 = .ret (.bool true) false s2 → run (E.by ω n) (k + 1) (.loop ⟨265, 14, none, none⟩ C265 ⟨tm, [], false, g⟩) s = run (E.by ω n) k (.loop ⟨265, 14, none, none⟩ C265 ⟨tm', [], false, g⟩) s2) ∧
     tm'.get 5 = tm.get 5 ∧ tm'.get 0 = tm.get 0 ∧ s1.n = s.n + 1 ∧ s1.h.get it = some (.mapIter (some m) since (seen ++ [e.2.2]) clock) ∧ s1.h.get n = some (.cnt (c + 1)) ∧ ∀ i, i < s.n → i ≠ it → i ≠ n → s1.h.get i = s.h.get i := by
  have q := many_two ω n it m since last clock seen (x :: y :: es) e0 e' l h1 h2 h
  obtain ⟨e1, e2, e3⟩ := e
  simp only at he; subst he
  have hb := born_find hn hme
  generalize hX : x :: y :: es = X at *
  obtain ⟨x1, x2, x3⟩ := x
  subst hX
  have hl := lastN_app e3 seen
  refine ⟨⟨(((s.h.put n (some (.cnt (c + 1)))).put it (some (Ob.mapIter (some m) since (seen ++ [e3]) clock))).put s.n (some (Ob.cells [V.int IntKind.i64 0, V.int IntKind.i64 0] 0 false))).put s.n (some (Ob.cells [V.int IntKind.i64 a, V.int IntKind.i64 b] 0 false)), s.n + 1,
    (s.n, false) :: (s.n, true) :: (s.n, false) :: (s.n, true) :: (m, false) :: (it, false) :: (it, true) :: (n, true) :: (n, false) :: (m, false) :: (it, false) :: s.lg⟩, _, fun s2 hr => by simp (maxSteps := 1000000) (disch := omega) [C265, t5, t0, hit, hm, hc, q, hp, hb, hl, hr]; exact rfl, ?_⟩
  exact ⟨by simp (maxSteps := 1000000) (disch := omega), by simp (maxSteps := 1000000) (disch := omega), rfl, by simp (maxSteps := 1000000) (disch := omega), by simp (maxSteps := 1000000) (disch := omega), fun i h1 h2 h3 => by simp (maxSteps := 1000000) (disch := omega)⟩
end
end Go.Proofs.YtoenpafonldhoaaGreatDoor

namespace Go.Proofs.YtoenpafonldhoaaGreatDoor
open Go Go.AM
set_option linter.unusedSimpArgs false
set_option linter.unusedVariables false
set_option maxRecDepth 100000
set_option maxHeartbeats 4000000
attribute [local simp] run_succ task callTask ev evSeq evRegion_f evOps evCond evBlock exec1 guardOk guardNot notIs exec opMove opPick pickOf opAlloc allocOf opBox boxOf opBuild buildOf opLoad loadAt opStore storeAt putCells opNilCheck nilCheckOf
  opUn unOf opConvert convOf opIface ifaceOf opMakeFunc opMakeSlice makeSliceOf opSlice sliceOf sliceSl sub3 bounds3 boundOf bothOr opFieldAddr fieldAddrOf opField fieldOf opIndexAddr indexAddrOf opIndex indexOf inside opLookup opMapUpdate opExtract extractOf opPanic panicOf makeMapOf
  retV Q.val Q.opt Q.run after setTm putTm opd opds tmV Tr.get_put leaf_get ofV ofVA ofVL opBin binAt binOf binInt binStr eqOp eqInt eqBool eqPtr eqSlice eqMap eqFunc eqIface eqStr eqAgg isNilIface boolIs optV
  opBuildSlice buildSliceOf Env.desc fillV repl pairs opCall callOf extCall builtinOf type1 type2 head1 head2 builtinAppend isIntD lenOf srcOf appendAt roomOk dropN takeN noMore appendOn appendNew lenAt capAt builtinCopy
  afterBody AM.unwind resultsOf one afterCall orRet listTm takeN_all isShift kindEq intOp iAdd iSub iMul iLss iLeq iGtr iGeq iEql iNeq iShl iShr iQuo iRem V.cells V.isCell allCells partOf splice over placeOfField elemPlace knownFs aggOpt zeroOf isU8 isIface
  afterLoop afterScope asCode strOp undefV isConst not_false_eq_true
  List.getElem?_cons_succ List.getElem?_cons_zero S.new S.rd S.wr nat_ne ble_t ble_f beq_t beq_f ltI_t ltI_f eqI_t eqI_f isub_def iadd_def imul_def wrapQ_i64 wrapQ_u32 wrapQ_u8 iAnd_pred inside_in bytes_len bytes_all bytesOf_cells over_bytes repl_len1
attribute [local simp] by_fn by_ty by_ext by_ng by_oid by_orc ng_eq
attribute [local simp] fiOfFn fn224 bd224 rs224 nt224 body224 Tryz.f224 fn225 bd225 rs225 nt225 body225 Tryz.f225 fn263 bd263 rs263 nt263 body263 Tryz.f263 fn264 bd264 rs264 nt264 body264 Tryz.f264 fn283 bd283 rs283 nt283 body283 Tryz.f283 fn284 bd284 rs284 nt284 body284 Tryz.f284 fn320 bd320 rs320 nt320 body320 Tryz.f320 fn265 bd265 rs265 nt265 body265 Tryz.f265 fn226 bd226 rs226 nt226 body226 Tryz.f226 fn106 bd106 rs106 nt106 body106 Tryz.f106 ty3 t3 ty4 t4 ty166 t166 ty181 t181 ty230 t230 ty268 t268 ty214 t214
attribute [local simp] byEq3 loopN loops drawN draws rangN rangs
def keyP (e : V × V × Nat) : Int × Int := match e.1 with
  | .agg l => match l with
    | .int _ a :: .int _ b :: _ => (a, b)
    | _ => (0, 0)
  | _ => (0, 0)
theorem left_mem {seen : List Nat} {es : List (V × V × Nat)} {e} (h : e ∈ leftOf seen es) : e ∈ es := by
  rw [left_filter] at h; exact (List.mem_filter.1 h).1
theorem left_nodup {seen : List Nat} {es : List (V × V × Nat)} (h : (es.map (·.2.2)).Nodup) : ((leftOf seen es).map (·.2.2)).Nodup := by
  rw [left_filter]; exact h.sublist (List.Sublist.map _ List.filter_sublist)

/-- what stays, while keys are gathered -/
structure Gath (s : S) (n m it L X df lo since last clock : Nat) (seen : List Nat) (es : List (V × V × Nat)) (tmL : Tr V) (cur : V) (l : List (Int × Int)) : Prop where
  it : s.h.get it = some (.mapIter (some m) since seen last)
  m : s.h.get m = some (.map es clock true)
  c : ∃ c, s.h.get n = some (.cnt c)
  L : s.h.get L = some (.loop .ready none 283 tmL 13 [7] A283 B283 df)
  x : s.h.get X = some (.cells [cur] 0 false)
  cur : Cur lo s cur l
  lo : lo ≤ s.n
  last : wasThere last es = true

theorem loop265 (ω : Nat → Nat) (n m it L X df lo since clock g : Nat) (x y : V × V × Nat) (es : List (V × V × Nat)) (tmL : Tr V) (t2 : tmL.get 2 = some (.ptr (some (X, 0))))
   (hb : n < lo ∧ m < lo ∧ it < lo ∧ L < lo ∧ X < lo) (hd : n ≠ m ∧ n ≠ it ∧ n ≠ L ∧ n ≠ X ∧ m ≠ it ∧ m ≠ L ∧ m ≠ X ∧ it ≠ L ∧ it ≠ X ∧ L ≠ X)
   (h1 : allOld since (x :: y :: es) = true) (h2 : wasThere clock (x :: y :: es) = true) (hn : ((x :: y :: es).map (·.2.2)).Nodup) (hkey : ∀ e ∈ x :: y :: es, ∃ a b, e.1 = .agg [.int .i64 a, .int .i64 b]) :
   ∀ (j k : Nat) (s : S) (tm : Tr V) (last : Nat) (seen : List Nat) (cur : V) (l : List (Int × Int)), (leftOf seen (x :: y :: es)).length = j → j + 2 ≤ k → l.length + j ≤ 1000 → tm.get 5 = some (.ptr (some (it, 0))) → tm.get 0 = some (.yield L) →
   Gath s n m it L X df lo since last clock seen (x :: y :: es) tmL cur l →
   ∃ s' tm' cur' l', run (E.by ω n) k (.loop ⟨265, 14, none, none⟩ C265 ⟨tm, [], false, g⟩) s = .code (.ok (.exit 0) ⟨tm', [], false, g⟩ s') ∧ s'.h.get X = some (.cells [cur'] 0 false) ∧ Cur lo s' cur' (l ++ l') ∧ l'.Perm ((leftOf seen (x :: y :: es)).map keyP) ∧
     s'.h.get m = s.h.get m ∧ s'.h.get L = s.h.get L ∧ s.n ≤ s'.n ∧ ∀ i, i < lo → i ≠ n → i ≠ it → i ≠ L → i ≠ X → s'.h.get i = s.h.get i
  | 0, k, s, tm, last, seen, cur, l, hj, hk, hl, t5, t0, G => by
    obtain ⟨k, rfl⟩ : ∃ j, k = j + 1 := ⟨k - 1, by omega⟩
    have h0 : leftOf seen (x :: y :: es) = [] := List.length_eq_zero_iff.1 hj
    obtain ⟨s', tm', e1, e2, e3⟩ := loop265_end ω n k s tm it m since last clock g seen x y es t5 G.it G.m h1 G.last h0
    refine ⟨s', tm', cur, [], e1, by rw [e3, G.x], ?_, by rw [h0]; simp, e3 _, e3 _, by omega, fun i _ _ _ _ _ => e3 i⟩
    rw [List.append_nil]
    have hc := G.cur
    cases hc with
    | none => exact .none
    | some a n l q0 q1 qn qn1 q2 => exact .some a n l q0 (by omega) qn qn1 (by rw [e3, q2])
  | j + 1, k, s, tm, last, seen, cur, l, hj, hk, hl, t5, t0, G => by
    obtain ⟨k, rfl⟩ : ∃ j, k = j + 1 := ⟨k - 1, by omega⟩
    obtain ⟨b1, b2, b3, b4, b5⟩ := hb
    obtain ⟨d1, d2, d3, d4, d5, d6, d7, d8, d9, d10⟩ := hd
    have glo := G.lo
    obtain ⟨c, hc⟩ := G.c
    -- the entry that goes by
    obtain ⟨e, a, b, s1, tm', hmem, he, hstep, u5, u0, hn1, g1, g2, g3⟩ : ∃ e a b s1 tm', e ∈ leftOf seen (x :: y :: es) ∧ e.1 = .agg [.int .i64 a, .int .i64 b] ∧
        (∀ s2, run (E.by ω n) k (.round L [.agg [.int .i64 a, .int .i64 b]]) s1 = .ret (.bool true) false s2 → run (E.by ω n) (k + 1) (.loop ⟨265, 14, none, none⟩ C265 ⟨tm, [], false, g⟩) s = run (E.by ω n) k (.loop ⟨265, 14, none, none⟩ C265 ⟨tm', [], false, g⟩) s2) ∧
        tm'.get 5 = tm.get 5 ∧ tm'.get 0 = tm.get 0 ∧ s1.n = s.n + 1 ∧ s1.h.get it = some (.mapIter (some m) since (seen ++ [e.2.2]) clock) ∧ (∃ c, s1.h.get n = some (.cnt c)) ∧ ∀ i, i < s.n → i ≠ it → i ≠ n → s1.h.get i = s.h.get i := by
      cases hleft : leftOf seen (x :: y :: es) with
      | nil => rw [hleft] at hj; simp at hj
      | cons e0 rest =>
        cases rest with
        | nil =>
          have hin : e0 ∈ leftOf seen (x :: y :: es) := by rw [hleft]; simp
          obtain ⟨a, b, hab⟩ := hkey e0 (left_mem hin)
          obtain ⟨s1, tm', q1, q2, q3, q4, q5, q6⟩ := loop265_one ω n (k := k) (g := g) t5 t0 G.it G.m d5 (by omega) (by omega) h1 G.last hleft hab hn (left_mem hin)
          exact ⟨e0, a, b, s1, tm', by simp, hab, q1, q2, q3, q4, q5, ⟨c, by rw [q6 n (by omega) d2, hc]⟩, fun i h1 h2 _ => q6 i h1 h2⟩
        | cons e1 rest =>
          obtain ⟨e, hp⟩ := pick_some (l := e0 :: e1 :: rest) (n := ω c) (by simp)
          have hin : e ∈ leftOf seen (x :: y :: es) := by rw [hleft]; exact pick_mem hp
          obtain ⟨a, b, hab⟩ := hkey e (left_mem hin)
          obtain ⟨s1, tm', q1, q2, q3, q4, q5, q6, q7⟩ := loop265_two ω n (k := k) (g := g) t5 t0 G.it G.m hc d5 d2 d1 (by omega) (by omega) (by omega) h1 G.last hleft hp hab hn (left_mem hin)
          exact ⟨e, a, b, s1, tm', hleft ▸ hin, hab, q1, q2, q3, q4, q5, ⟨_, q6⟩, q7⟩
    have cur1 : Cur lo s1 cur l := by
      have hc := G.cur
      cases hc with
      | none => exact .none
      | some a n l q0 q1 qn qn1 q2 => exact .some a n l q0 (by omega) qn qn1 (by rw [g3 a q1 (by omega) (by omega), q2])
    obtain ⟨s2, cur', r1, r2, r3, r4, r5, r6⟩ := round283 (r := run (E.by ω n) k (.round L [.agg [.int .i64 a, .int .i64 b]]) s1) (lo := lo) rfl (by omega) (by rw [g3 L (by omega) (Ne.symm d8) (Ne.symm d3), G.L]) t2 (by rw [g3 X (by omega) (Ne.symm d9) (Ne.symm d4), G.x]) cur1 (by omega) d10 b4 b5 (by omega)
    rw [hstep s2 r1]
    have hlast : leftOf (seen ++ [e.2.2]) (x :: y :: es) = (leftOf seen (x :: y :: es)).filter fun z => !(Nat.beq e.2.2 z.2.2) := left_app _ _ _
    have hperm := left_perm (left_nodup (seen := seen) hn) hmem
    rw [← hlast] at hperm
    have hlen : (leftOf (seen ++ [e.2.2]) (x :: y :: es)).length = j := by
      have := hperm.length_eq
      simp only [List.length_cons] at this; omega
    have G2 : Gath s2 n m it L X df lo since clock clock (seen ++ [e.2.2]) (x :: y :: es) tmL cur' (l ++ [(a, b)]) :=
      ⟨by rw [r6 it b3 d8 d9, g1], by rw [r6 m b2 d6 d7, g3 m (by omega) d5 (Ne.symm d1), G.m], g2.imp fun c hc => by rw [r6 n b1 d3 d4, hc], by rw [r2, g3 L (by omega) (Ne.symm d8) (Ne.symm d3), G.L], r3, r4, by omega, h2⟩
    obtain ⟨s', tm2, cur2, l', z1, z2, z3, z4, z5, z6, z7, z8⟩ := loop265 ω n m it L X df lo since clock g x y es tmL t2 ⟨b1, b2, b3, b4, b5⟩ ⟨d1, d2, d3, d4, d5, d6, d7, d8, d9, d10⟩ h1 h2 hn hkey j k s2 tm' clock (seen ++ [e.2.2]) cur' (l ++ [(a, b)]) hlen (by omega) (by simp; omega) (u5.trans t5) (u0.trans t0) G2
    refine ⟨s', tm2, cur2, (a, b) :: l', z1, z2, by simpa using z3, ?_, ?_, ?_, by omega, fun i q1 q2 q3 q4 q5 => by rw [z8 i q1 q2 q3 q4 q5, r6 i q1 q4 q5, g3 i (by omega) q3 q2]⟩
    · have hk : keyP e = (a, b) := by simp [keyP, he]
      have := (hperm.map keyP).symm
      simp only [List.map_cons, hk] at this
      exact (List.Perm.cons _ z4).trans this
    · rw [z5, r6 m b2 d6 d7, g3 m (by omega) d5 (Ne.symm d1)]
    · rw [z6, r2, g3 L (by omega) (Ne.symm d8) (Ne.symm d3)]
end Go.Proofs.YtoenpafonldhoaaGreatDoor

namespace Go.Proofs.YtoenpafonldhoaaGreatDoor
open Go Go.AM
set_option linter.unusedSimpArgs false
set_option linter.unusedVariables false
set_option maxRecDepth 100000
set_option maxHeartbeats 4000000
attribute [local simp] run_succ task callTask ev evSeq evRegion_f evOps evCond evBlock exec1 guardOk guardNot notIs exec opMove opPick pickOf opAlloc allocOf opBox boxOf opBuild buildOf opLoad loadAt opStore storeAt putCells opNilCheck nilCheckOf
  opUn unOf opConvert convOf opIface ifaceOf opMakeFunc opMakeSlice makeSliceOf opSlice sliceOf sliceSl sub3 bounds3 boundOf bothOr opFieldAddr fieldAddrOf opField fieldOf opIndexAddr indexAddrOf opIndex indexOf inside opLookup opMapUpdate opExtract extractOf opPanic panicOf makeMapOf
  retV Q.val Q.opt Q.run after setTm putTm opd opds tmV Tr.get_put leaf_get ofV ofVA ofVL opBin binAt binOf binInt binStr eqOp eqInt eqBool eqPtr eqSlice eqMap eqFunc eqIface eqStr eqAgg isNilIface boolIs optV
  opBuildSlice buildSliceOf Env.desc fillV repl pairs opCall callOf extCall builtinOf type1 type2 head1 head2 builtinAppend isIntD lenOf srcOf appendAt roomOk dropN takeN noMore appendOn appendNew lenAt capAt builtinCopy
  afterBody AM.unwind resultsOf one afterCall orRet listTm takeN_all isShift kindEq intOp iAdd iSub iMul iLss iLeq iGtr iGeq iEql iNeq iShl iShr iQuo iRem V.cells V.isCell allCells partOf splice over placeOfField elemPlace knownFs aggOpt zeroOf isU8 isIface
  afterLoop afterScope asCode strOp undefV isConst not_false_eq_true
  List.getElem?_cons_succ List.getElem?_cons_zero S.new S.rd S.wr nat_ne ble_t ble_f beq_t beq_f ltI_t ltI_f eqI_t eqI_f isub_def iadd_def imul_def wrapQ_i64 wrapQ_u32 wrapQ_u8 iAnd_pred inside_in bytes_len bytes_all bytesOf_cells over_bytes repl_len1
attribute [local simp] by_fn by_ty by_ext by_ng by_oid by_orc ng_eq
attribute [local simp] fiOfFn fn224 bd224 rs224 nt224 body224 Tryz.f224 fn225 bd225 rs225 nt225 body225 Tryz.f225 fn263 bd263 rs263 nt263 body263 Tryz.f263 fn264 bd264 rs264 nt264 body264 Tryz.f264 fn283 bd283 rs283 nt283 body283 Tryz.f283 fn284 bd284 rs284 nt284 body284 Tryz.f284 fn320 bd320 rs320 nt320 body320 Tryz.f320 fn265 bd265 rs265 nt265 body265 Tryz.f265 fn226 bd226 rs226 nt226 body226 Tryz.f226 fn106 bd106 rs106 nt106 body106 Tryz.f106 ty3 t3 ty4 t4 ty166 t166 ty181 t181 ty230 t230 ty268 t268 ty214 t214
attribute [local simp] byEq3 loopN loops drawN draws rangN rangs
attribute [local simp] opRange rangeAt
theorem left_nil : ∀ es : List (V × V × Nat), leftOf [] es = es
  | [] => rfl
  | e :: es => by simp [leftOf, seenN, left_nil es]
theorem loop265h {ω : Nat → Nat} {n m it L X df lo since clock g k last : Nat} {x y : V × V × Nat} {es : List (V × V × Nat)} {tmL tm : Tr V} {s : S} {seen : List Nat} {cur : V} {l : List (Int × Int)} {r : TR}
   (hr : run (E.by ω n) k (.loop ⟨265, 14, none, none⟩ C265 ⟨tm, [], false, g⟩) s = r) (t2 : tmL.get 2 = some (.ptr (some (X, 0))))
   (hb : n < lo ∧ m < lo ∧ it < lo ∧ L < lo ∧ X < lo) (hd : n ≠ m ∧ n ≠ it ∧ n ≠ L ∧ n ≠ X ∧ m ≠ it ∧ m ≠ L ∧ m ≠ X ∧ it ≠ L ∧ it ≠ X ∧ L ≠ X)
   (h1 : allOld since (x :: y :: es) = true) (h2 : wasThere clock (x :: y :: es) = true) (hn : ((x :: y :: es).map (·.2.2)).Nodup) (hkey : ∀ e ∈ x :: y :: es, ∃ a b, e.1 = .agg [.int .i64 a, .int .i64 b])
   (hk : (leftOf seen (x :: y :: es)).length + 2 ≤ k) (hl : l.length + (leftOf seen (x :: y :: es)).length ≤ 1000) (t5 : tm.get 5 = some (.ptr (some (it, 0)))) (t0 : tm.get 0 = some (.yield L))
   (G : Gath s n m it L X df lo since last clock seen (x :: y :: es) tmL cur l) :
   ∃ s' tm' cur' l', r = .code (.ok (.exit 0) ⟨tm', [], false, g⟩ s') ∧ s'.h.get X = some (.cells [cur'] 0 false) ∧ Cur lo s' cur' (l ++ l') ∧ l'.Perm ((leftOf seen (x :: y :: es)).map keyP) ∧
     s'.h.get m = s.h.get m ∧ s'.h.get L = s.h.get L ∧ s.n ≤ s'.n ∧ ∀ i, i < lo → i ≠ n → i ≠ it → i ≠ L → i ≠ X → s'.h.get i = s.h.get i := by
  subst hr
  exact loop265 ω n m it L X df lo since clock g x y es tmL t2 hb hd h1 h2 hn hkey _ k s tm last seen cur l rfl hk hl t5 t0 G
theorem call265 {ω : Nat → Nat} {n m b L X df clock k : Nat} {s : S} {x y : V × V × Nat} {es : List (V × V × Nat)} {tmL : Tr V} {opn : Nat} {ro : Bool} {r : TR} (hr : run (E.by ω n) k (.call 265 [.yield L, .ptr (some (b, 0))] none) s = r) (t2 : tmL.get 2 = some (.ptr (some (X, 0))))
   (hk : es.length + 5 ≤ k) (hes : es.length ≤ 900) (ob : s.h.get b = some (.cells [.map (some m)] opn ro)) (om : s.h.get m = some (.map (x :: y :: es) clock true)) (oc : ∃ c, s.h.get n = some (.cnt c)) (oL : s.h.get L = some (.loop .ready none 283 tmL 13 [7] A283 B283 df))
   (oX : s.h.get X = some (.cells [.slice none 0 (.exact 0)] 0 false)) (hb : n < s.n ∧ m < s.n ∧ L < s.n ∧ X < s.n) (hd : n ≠ m ∧ n ≠ L ∧ n ≠ X ∧ m ≠ L ∧ m ≠ X ∧ L ≠ X)
   (h1 : allOld clock (x :: y :: es) = true) (hn : ((x :: y :: es).map (·.2.2)).Nodup) (hkey : ∀ e ∈ x :: y :: es, ∃ a b, e.1 = .agg [.int .i64 a, .int .i64 b]) :
   ∃ s' cur' l', r = .ret (.tuple []) false s' ∧ s'.h.get X = some (.cells [cur'] 0 false) ∧ Cur (s.n + 1) s' cur' l' ∧ l'.Perm ((x :: y :: es).map keyP) ∧ s'.h.get m = s.h.get m ∧ s'.h.get L = s.h.get L ∧ s.n ≤ s'.n ∧ ∀ i, i < s.n → i ≠ n → i ≠ L → i ≠ X → s'.h.get i = s.h.get i := by
  subst hr
  obtain ⟨k, rfl⟩ : ∃ j, k = j + 1 := ⟨k - 1, by omega⟩
  obtain ⟨b1, b2, b3, b4⟩ := hb
  obtain ⟨d1, d2, d3, d4, d5, d6⟩ := hd
  have h2 : wasThere clock (x :: y :: es) = true := by
    obtain ⟨x1, x2, x3⟩ := x
    simp only [allOld] at h1
    simp only [wasThere]
    cases hh : Nat.ble (Nat.succ x3) clock with
    | true => rfl
    | false => rw [hh] at h1; cases h1
  simp (maxSteps := 1000000) (disch := omega) [ob, om]
  generalize hr : run (E.by ω n) k (.loop _ _ _) _ = r
  obtain ⟨s', tm', cur', l', rfl, z2, z3, z4, z5, z6, z7, z8⟩ := loop265h (lo := s.n + 1) (m := m) (it := s.n) (L := L) (X := X) (df := df) (since := clock) (clock := clock) (last := clock) (seen := []) (cur := .slice none 0 (.exact 0)) (l := []) hr t2
    ⟨by omega, by omega, by omega, by omega, by omega⟩ ⟨d1, by omega, d2, d3, by omega, d4, d5, by omega, by omega, d6⟩ h1 h2 hn hkey (by rw [left_nil]; simp only [List.length_cons]; omega) (by rw [left_nil]; simp only [List.length_cons, List.length_nil]; omega) (by simp (maxSteps := 1000000) (disch := omega)) (by simp (maxSteps := 1000000) (disch := omega))
    ⟨by simp (maxSteps := 1000000) (disch := omega), by simp (maxSteps := 1000000) (disch := omega) [om], by obtain ⟨c, hc⟩ := oc; exact ⟨c, by simp (maxSteps := 1000000) (disch := omega) [hc]⟩, by simp (maxSteps := 1000000) (disch := omega) [oL], by simp (maxSteps := 1000000) (disch := omega) [oX], .none, by simp only; omega, h2⟩
  clear hr
  rw [left_nil] at z4
  refine ⟨_, by simp (maxSteps := 1000000) (disch := omega) <;> first | done | exact rfl | exact ⟨rfl, rfl⟩ | exact ⟨rfl, rfl, rfl⟩, cur', z2, l', by simpa using z3, by simpa using z4, ?_, ?_, ?_, fun i q1 q2 q3 q4 => ?_⟩
  · rw [z5]; simp (maxSteps := 1000000) (disch := omega) [om]
  · rw [z6]; simp (maxSteps := 1000000) (disch := omega)
  · simp only at z7; omega
  · rw [z8 i (by omega) q2 (by omega) q3 q4]; simp (maxSteps := 1000000) (disch := omega)
end Go.Proofs.YtoenpafonldhoaaGreatDoor

namespace Go.Proofs.YtoenpafonldhoaaGreatDoor
open Go Go.AM
set_option linter.unusedSimpArgs false
set_option linter.unusedVariables false
set_option maxRecDepth 100000
set_option maxHeartbeats 4000000
attribute [local simp] run_succ task callTask ev evSeq evRegion_f evOps evCond evBlock exec1 guardOk guardNot notIs exec opMove opPick pickOf opAlloc allocOf opBox boxOf opBuild buildOf opLoad loadAt opStore storeAt putCells opNilCheck nilCheckOf
  opUn unOf opConvert convOf opIface ifaceOf opMakeFunc opMakeSlice makeSliceOf opSlice sliceOf sliceSl sub3 bounds3 boundOf bothOr opFieldAddr fieldAddrOf opField fieldOf opIndexAddr indexAddrOf opIndex indexOf inside opLookup opMapUpdate opExtract extractOf opPanic panicOf makeMapOf
  retV Q.val Q.opt Q.run after setTm putTm opd opds tmV Tr.get_put leaf_get ofV ofVA ofVL opBin binAt binOf binInt binStr eqOp eqInt eqBool eqPtr eqSlice eqMap eqFunc eqIface eqStr eqAgg isNilIface boolIs optV
  opBuildSlice buildSliceOf Env.desc fillV repl pairs opCall callOf extCall builtinOf type1 type2 head1 head2 builtinAppend isIntD lenOf srcOf appendAt roomOk dropN takeN noMore appendOn appendNew lenAt capAt builtinCopy
  afterBody AM.unwind resultsOf one afterCall orRet listTm takeN_all isShift kindEq intOp iAdd iSub iMul iLss iLeq iGtr iGeq iEql iNeq iShl iShr iQuo iRem V.cells V.isCell allCells partOf splice over placeOfField elemPlace knownFs aggOpt zeroOf isU8 isIface
  afterLoop afterScope asCode strOp undefV isConst not_false_eq_true
  List.getElem?_cons_succ List.getElem?_cons_zero S.new S.rd S.wr nat_ne ble_t ble_f beq_t beq_f ltI_t ltI_f eqI_t eqI_f isub_def iadd_def imul_def wrapQ_i64 wrapQ_u32 wrapQ_u8 iAnd_pred inside_in bytes_len bytes_all bytesOf_cells over_bytes repl_len1
attribute [local simp] by_fn by_ty by_ext by_ng by_oid by_orc ng_eq
attribute [local simp] fiOfFn fn224 bd224 rs224 nt224 body224 Tryz.f224 fn225 bd225 rs225 nt225 body225 Tryz.f225 fn263 bd263 rs263 nt263 body263 Tryz.f263 fn264 bd264 rs264 nt264 body264 Tryz.f264 fn283 bd283 rs283 nt283 body283 Tryz.f283 fn284 bd284 rs284 nt284 body284 Tryz.f284 fn320 bd320 rs320 nt320 body320 Tryz.f320 fn265 bd265 rs265 nt265 body265 Tryz.f265 fn226 bd226 rs226 nt226 body226 Tryz.f226 fn106 bd106 rs106 nt106 body106 Tryz.f106 ty3 t3 ty4 t4 ty166 t166 ty181 t181 ty230 t230 ty268 t268 ty214 t214
attribute [local simp] byEq3 loopN loops drawN draws rangN rangs
attribute [local simp] evRange iterIn isNoneX afterIter ext265 endLoop stateOk jumpOf
theorem get_w1 (h : Tr Ob) (i : Nat) (o : Option Ob) : (h.put i o).get i = o := by rw [Tr.get_put, if_pos rfl]
theorem call283 {ω : Nat → Nat} {n m b clock k : Nat} {s : S} {x y : V × V × Nat} {es : List (V × V × Nat)} {opn : Nat} {ro : Bool} {r : TR} (hr : run (E.by ω n) k (.call 283 [.slice none 0 (.exact 0), .func 265 [] [.ptr (some (b, 0))]] none) s = r)
   (hk : es.length + 6 ≤ k) (hes : es.length ≤ 900) (ob : s.h.get b = some (.cells [.map (some m)] opn ro)) (om : s.h.get m = some (.map (x :: y :: es) clock true)) (oc : ∃ c, s.h.get n = some (.cnt c))
   (hb : n < s.n ∧ m < s.n ∧ b < s.n) (hd : n ≠ m)
   (h1 : allOld clock (x :: y :: es) = true) (hn : ((x :: y :: es).map (·.2.2)).Nodup) (hkey : ∀ e ∈ x :: y :: es, ∃ a b, e.1 = .agg [.int .i64 a, .int .i64 b]) :
   ∃ s' cur' l', r = .ret cur' false s' ∧ Cur (s.n + 1) s' cur' l' ∧ l'.Perm ((x :: y :: es).map keyP) ∧ (∀ i, i < s.n → i ≠ n → s'.h.get i = s.h.get i) ∧ s.n ≤ s'.n := by
  subst hr
  obtain ⟨k, rfl⟩ : ∃ j, k = j + 1 := ⟨k - 1, by omega⟩
  obtain ⟨b1, b2, b3⟩ := hb
  simp (maxSteps := 1000000) (disch := omega)
  generalize hr : run (E.by ω n) k (.call 265 _ _) _ = r
  obtain ⟨s', cur', l', rfl, z2, z3, z4, z5, z6, z7, z8⟩ := call265 (m := m) (L := s.n + 1 + 1) (X := s.n) (df := s.n + 1) (clock := clock) (x := x) (y := y) (es := es) (opn := opn) (ro := ro) hr (by simp (maxSteps := 1000000) (disch := omega)) (by omega) hes (by simp (maxSteps := 1000000) (disch := omega) [ob]) (by simp (maxSteps := 1000000) (disch := omega) [om]) (by obtain ⟨c, hc⟩ := oc; exact ⟨c, by simp (maxSteps := 1000000) (disch := omega) [hc]⟩) (get_w1 _ _ _) (by simp (maxSteps := 1000000) (disch := omega))
    ⟨by simp only; omega, by simp only; omega, by simp only; omega, by simp only; omega⟩ ⟨hd, by omega, by omega, by omega, by omega, by omega⟩ h1 hn hkey
  clear hr
  simp only at z5 z6 z7 z8
  rw [get_w1] at z6
  have zd : s'.h.get (s.n + 1) = some .defd := by rw [z8 (s.n + 1) (by omega) (by omega) (by omega) (by omega)]; simp (maxSteps := 1000000) (disch := omega)
  simp (maxSteps := 1000000) (disch := omega) [z6, z2, zd, isDefd]
  refine ⟨_, _, ⟨rfl, rfl⟩, l', ?_, by simpa using z4, fun i q1 q2 => ?_, ?_⟩
  · simp only at z3 z7
    cases z3 with
    | none => exact .none
    | some a n' _ q0 q1 qn qn1 q2 => exact .some a n' _ (by omega) q1 qn qn1 (by simp (maxSteps := 1000000) (disch := omega) [q2])
  · simp (maxSteps := 1000000) (disch := omega)
    rw [z8 i (by omega) q2 (by omega) (by omega)]; simp (maxSteps := 1000000) (disch := omega)
  · simp only at z7 ⊢; omega

attribute [local simp] ext283 ext263
theorem call263 {ω : Nat → Nat} {n m b clock k : Nat} {s : S} {x y : V × V × Nat} {es : List (V × V × Nat)} {opn : Nat} {ro : Bool} {r : TR} (hr : run (E.by ω n) k (.call 263 [.func 265 [] [.ptr (some (b, 0))]] none) s = r)
   (hk : es.length + 7 ≤ k) (hes : es.length ≤ 900) (ob : s.h.get b = some (.cells [.map (some m)] opn ro)) (om : s.h.get m = some (.map (x :: y :: es) clock true)) (oc : ∃ c, s.h.get n = some (.cnt c))
   (hb : n < s.n ∧ m < s.n ∧ b < s.n) (hd : n ≠ m)
   (h1 : allOld clock (x :: y :: es) = true) (hn : ((x :: y :: es).map (·.2.2)).Nodup) (hkey : ∀ e ∈ x :: y :: es, ∃ a b, e.1 = .agg [.int .i64 a, .int .i64 b]) :
   ∃ s' cur' l', r = .ret cur' false s' ∧ Cur (s.n + 1) s' cur' l' ∧ l'.Perm ((x :: y :: es).map keyP) ∧ (∀ i, i < s.n → i ≠ n → s'.h.get i = s.h.get i) ∧ s.n ≤ s'.n := by
  subst hr
  obtain ⟨k, rfl⟩ : ∃ j, k = j + 1 := ⟨k - 1, by omega⟩
  simp (maxSteps := 1000000) (disch := omega)
  generalize hr : run (E.by ω n) k (.call 283 _ _) _ = r
  obtain ⟨s', cur', l', rfl, z2, z3, z4, z5⟩ := call283 hr (by omega) hes ob om oc hb hd h1 hn hkey
  clear hr
  simp (maxSteps := 1000000) (disch := omega)
  exact ⟨_, _, ⟨rfl, rfl⟩, l', z2, by simpa using z3, z4, z5⟩
theorem call263_nil (ω : Nat → Nat) (n m b clock k : Nat) (s : S) (opn : Nat) (ro : Bool) (ob : s.h.get b = some (.cells [.map (some m)] opn ro)) (om : s.h.get m = some (.map [] clock true)) (hk : 5 ≤ k) (hb : n < s.n ∧ m < s.n ∧ b < s.n) :
   ∃ s', run (E.by ω n) k (.call 263 [.func 265 [] [.ptr (some (b, 0))]] none) s = .ret (.slice none 0 (.exact 0)) false s' ∧ (∀ i, i < s.n → i ≠ n → s'.h.get i = s.h.get i) ∧ s.n ≤ s'.n := by
  obtain ⟨k, rfl⟩ : ∃ j, k = j + 5 := ⟨k - 5, by omega⟩
  obtain ⟨b1, b2, b3⟩ := hb
  refine ⟨_, by simp (maxSteps := 1000000) (disch := omega) [ob, om, overV, isDefd, opRange, rangeAt, opNext, nextAt, nextIn, takeEnt]; exact rfl, ?_⟩
  exact ⟨fun i h1 h2 => by simp (maxSteps := 1000000) (disch := omega), by simp only; omega⟩

theorem call263_one (ω : Nat → Nat) (n m b clock k c : Nat) (s : S) (opn : Nat) (ro : Bool) (x y : Int) (v : V) (ob : s.h.get b = some (.cells [.map (some m)] opn ro)) (om : s.h.get m = some (.map [(.agg [.int .i64 x, .int .i64 y], v, c)] clock true)) (hc : c < clock) (hk : 7 ≤ k) (hb : n < s.n ∧ m < s.n ∧ b < s.n) :
   ∃ s' cur', run (E.by ω n) k (.call 263 [.func 265 [] [.ptr (some (b, 0))]] none) s = .ret cur' false s' ∧ Cur (s.n + 1) s' cur' [(x, y)] ∧ (∀ i, i < s.n → i ≠ n → s'.h.get i = s.h.get i) ∧ s.n ≤ s'.n := by
  obtain ⟨k, rfl⟩ : ∃ j, k = j + 7 := ⟨k - 7, by omega⟩
  obtain ⟨b1, b2, b3⟩ := hb
  have q1 : Nat.ble (Nat.succ c) clock = true := ble_t _ _ hc
  have q2 : Nat.beq c c = true := beq_t _ _ rfl
  refine ⟨_, .slice (some (s.n + 7, 0)) 1 (.opn 0), by simp (maxSteps := 1000000) (disch := omega) [ob, om, q1, q2, overV, isDefd, opRange, rangeAt, opNext, nextAt, nextIn, takeEnt, opEntry, entryAt, lastN, bornFind, roundIn, paramTm, beginRound, afterAssign, afterRound, endRound, noDs] <;> first | done | exact rfl | exact ⟨rfl, rfl⟩ | exact ⟨rfl, rfl, rfl⟩, ?_⟩
  exact ⟨.some _ 1 _ (by omega) (by simp only; omega) rfl (Nat.le_refl _) (by simp (maxSteps := 1000000) (disch := omega) [flatP]), fun i h1 h2 => by simp (maxSteps := 1000000) (disch := omega), by simp only; omega⟩
end Go.Proofs.YtoenpafonldhoaaGreatDoor

