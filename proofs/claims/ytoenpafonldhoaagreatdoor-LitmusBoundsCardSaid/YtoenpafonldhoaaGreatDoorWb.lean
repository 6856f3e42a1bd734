/- An abstract machine for the model's programs, its runs, and what they say of the model (part Wb). No condition. -/
import Derived.Test.YtoenpafonldhoaaGreatDoorWa
set_option linter.all false
namespace Go.Proofs.YtoenpafonldhoaaGreatDoor
open Go Go.AM
set_option linter.unusedSimpArgs false
set_option linter.unusedVariables false
set_option maxRecDepth 100000
set_option maxHeartbeats 4000000
attribute [local simp] run_succ task callTask ev evSeq evRegion_f evOps evCond evBlock exec1 guardOk guardNot notIs exec opMove opPick pickOf opAlloc allocOf opBox boxOf opBuild buildOf opLoad loadAt opStore storeAt putCells opNilCheck nilCheckOf
  opUn unOf opConvert convOf opIface ifaceOf opMakeFunc opMakeSlice makeSliceOf opSlice sliceOf sliceSl sub3 bounds3 boundOf bothOr opFieldAddr fieldAddrOf opField fieldOf opIndexAddr indexAddrOf opIndex indexOf inside opLookup opMapUpdate opExtract extractOf opPanic panicOf makeMapOf
  retV Q.val Q.opt Q.run after setTm putTm opd opds tmV Tr.get_put leaf_get ofV ofVA ofVL opBin binAt binOf binInt binStr eqOp eqInt eqBool eqPtr eqSlice eqMap eqFunc eqIface eqStr eqAgg isNilIface boolIs optV
  opBuildSlice buildSliceOf Env.desc fillV repl pairs opCall callOf extCall builtinOf type1 type2 head1 head2 builtinAppend isIntD lenOf srcOf appendAt roomOk dropN takeN noMore appendOn appendNew lenAt capAt builtinCopy
  afterBody AM.unwind resultsOf one afterCall orRet listTm takeN_all isShift kindEq intOp iAdd iSub iMul iLss iLeq iGtr iGeq iEql iNeq iShl iShr iQuo iRem V.cells V.isCell allCells partOf splice over placeOfField elemPlace knownFs aggOpt zeroOf isU8 isIface
  afterLoop afterScope asCode strOp undefV isConst not_false_eq_true
  List.getElem?_cons_succ List.getElem?_cons_zero S.new S.rd S.wr nat_ne ble_t ble_f beq_t beq_f ltI_t ltI_f eqI_t eqI_f isub_def iadd_def imul_def wrapQ_i64 wrapQ_u32 wrapQ_u8 iAnd_pred inside_in bytes_len bytes_all bytesOf_cells over_bytes repl_len1
attribute [local simp] by_fn by_ty by_ext by_ng by_oid by_orc ng_eq
attribute [local simp] fiOfFn fn224 bd224 rs224 nt224 body224 Tryz.f224 fn225 bd225 rs225 nt225 body225 Tryz.f225 fn263 bd263 rs263 nt263 body263 Tryz.f263 fn264 bd264 rs264 nt264 body264 Tryz.f264 fn283 bd283 rs283 nt283 body283 Tryz.f283 fn284 bd284 rs284 nt284 body284 Tryz.f284 fn320 bd320 rs320 nt320 body320 Tryz.f320 fn265 bd265 rs265 nt265 body265 Tryz.f265 fn226 bd226 rs226 nt226 body226 Tryz.f226 fn106 bd106 rs106 nt106 body106 Tryz.f106 ty3 t3 ty4 t4 ty166 t166 ty181 t181 ty230 t230 ty268 t268 ty214 t214
attribute [local simp] byEq3 loopN loops drawN draws rangN rangs
def SmallP (p : Int × Int) : Prop := 0 ≤ p.1 ∧ p.1 ≤ 1000000 ∧ 0 ≤ p.2 ∧ p.2 ≤ 1000000
noncomputable def R320a : Array Oper := drawN body320 0
noncomputable def R320b : Array Oper := drawN body320 1
section
variable (ω : Nat → Nat) (i : Nat)
theorem reg320_first (self : Self) (s : S) (tm : Tr V) (g : Nat) (t9 : tm.get 9 = some (.int .i64 0)) (t1 : tm.get 1 = some (.int .i64 0)) (hi : i < s.n) :
   ∃ tm' s', evRegion R320a true (E.by ω i) self ⟨320, 53, none, none⟩ ⟨tm, [], false, g⟩ s = .ok .normal ⟨tm', [], false, g⟩ s' ∧ tm'.get 34 = some (.bool false) ∧ (∀ i, i < 18 → tm'.get i = tm.get i) ∧ s.n ≤ s'.n ∧ ∀ i, i < s.n → s'.h.get i = s.h.get i := by
  refine ⟨_, _, by simp (maxSteps := 2000000) (disch := first | omega | decide +kernel) [evRegion, opsOk_t, ordered_t, ordered_f, evDraw, drawCx, consSeg, aliveOk, segsOk, segOk, apartOk, sameIns, AM.within, clash, hits, oldOf, logs, insOf, isInsert, noDst, insLg,  R320a, t9, t1, oidOk, by_oid]; exact ⟨rfl, rfl⟩, ?_⟩
  exact ⟨by simp (maxSteps := 1000000) (disch := omega), fun i hi => by simp (maxSteps := 1000000) (disch := omega), by simp only; omega, fun i h => by simp (maxSteps := 1000000) (disch := omega)⟩
end
end Go.Proofs.YtoenpafonldhoaaGreatDoor

namespace Go.Proofs.YtoenpafonldhoaaGreatDoor
open Go Go.AM
set_option linter.unusedSimpArgs false
set_option linter.unusedVariables false
set_option maxRecDepth 100000
set_option maxHeartbeats 4000000
attribute [local simp] run_succ task callTask ev evSeq evRegion_f evOps evCond evBlock exec1 guardOk guardNot notIs exec opMove opPick pickOf opAlloc allocOf opBox boxOf opBuild buildOf opLoad loadAt opStore storeAt putCells opNilCheck nilCheckOf
  opUn unOf opConvert convOf opIface ifaceOf opMakeFunc opMakeSlice makeSliceOf opSlice sliceOf sliceSl sub3 bounds3 boundOf bothOr opFieldAddr fieldAddrOf opField fieldOf opIndexAddr indexAddrOf opIndex indexOf inside opLookup opMapUpdate opExtract extractOf opPanic panicOf makeMapOf
  retV Q.val Q.opt Q.run after setTm putTm opd opds tmV Tr.get_put leaf_get ofV ofVA ofVL opBin binAt binOf binInt binStr eqOp eqInt eqBool eqPtr eqSlice eqMap eqFunc eqIface eqStr eqAgg isNilIface boolIs optV
  opBuildSlice buildSliceOf Env.desc fillV repl pairs opCall callOf extCall builtinOf type1 type2 head1 head2 builtinAppend isIntD lenOf srcOf appendAt roomOk dropN takeN noMore appendOn appendNew lenAt capAt builtinCopy
  afterBody AM.unwind resultsOf one afterCall orRet listTm takeN_all isShift kindEq intOp iAdd iSub iMul iLss iLeq iGtr iGeq iEql iNeq iShl iShr iQuo iRem V.cells V.isCell allCells partOf splice over placeOfField elemPlace knownFs aggOpt zeroOf isU8 isIface
  afterLoop afterScope asCode strOp undefV isConst not_false_eq_true
  List.getElem?_cons_succ List.getElem?_cons_zero S.new S.rd S.wr nat_ne ble_t ble_f beq_t beq_f ltI_t ltI_f eqI_t eqI_f isub_def iadd_def imul_def wrapQ_i64 wrapQ_u32 wrapQ_u8 iAnd_pred inside_in bytes_len bytes_all bytesOf_cells over_bytes repl_len1
attribute [local simp] by_fn by_ty by_ext by_ng by_oid by_orc ng_eq
attribute [local simp] fiOfFn fn224 bd224 rs224 nt224 body224 Tryz.f224 fn225 bd225 rs225 nt225 body225 Tryz.f225 fn263 bd263 rs263 nt263 body263 Tryz.f263 fn264 bd264 rs264 nt264 body264 Tryz.f264 fn283 bd283 rs283 nt283 body283 Tryz.f283 fn284 bd284 rs284 nt284 body284 Tryz.f284 fn320 bd320 rs320 nt320 body320 Tryz.f320 fn265 bd265 rs265 nt265 body265 Tryz.f265 fn226 bd226 rs226 nt226 body226 Tryz.f226 fn106 bd106 rs106 nt106 body106 Tryz.f106 ty3 t3 ty4 t4 ty166 t166 ty181 t181 ty230 t230 ty268 t268 ty214 t214
attribute [local simp] byEq3 loopN loops drawN draws rangN rangs
section
variable (ω : Nat → Nat) (i : Nat)
def st226 (s : S) (x y : Int × Int) : S := ⟨(s.h.put s.n (some (Ob.cells [V.int IntKind.i64 x.1, V.int IntKind.i64 x.2] 0 false))).put (s.n + 1) (some (Ob.cells [V.int IntKind.i64 y.1, V.int IntKind.i64 y.2] 0 false)), s.n + 1 + 1,
  (s.n + 1, false) :: (s.n, false) :: (s.n + 1, false) :: (s.n, false) :: (s.n + 1, true) :: (s.n, true) :: s.lg⟩
def difP (x y : Int × Int) : Int := if x.1 = y.1 then x.2 - y.2 else x.1 - y.1
theorem cmp226e (k : Nat) (x y : Int × Int) (hx : SmallP x) (hy : SmallP y) (hk : 1 ≤ k) (s : S) : run (E.by ω i) k (.call 226 [.agg [.int .i64 x.1, .int .i64 x.2], .agg [.int .i64 y.1, .int .i64 y.2]] none) s = .ret (.int .i64 (difP x y)) false (st226 s x y) := by
  obtain ⟨k, rfl⟩ : ∃ j, k = j + 1 := ⟨k - 1, by omega⟩
  obtain ⟨x1, x2⟩ := x
  obtain ⟨y1, y2⟩ := y
  obtain ⟨hx1, hx2, hx3, hx4⟩ := hx
  obtain ⟨hy1, hy2, hy3, hy4⟩ := hy
  simp only at *
  have w3 : wrapQ .i64 (x1 - y1) = x1 - y1 := wrap_small _ (by omega) (by omega)
  have w4 : wrapQ .i64 (x2 - y2) = x2 - y2 := wrap_small _ (by omega) (by omega)
  by_cases h : x1 = y1
  · subst h
    simp (maxSteps := 1000000) (disch := omega) [ext226, w4, difP, st226]
  · simp (maxSteps := 1000000) (disch := omega) [ext226, h, w3, difP, st226]
theorem dif_lt (x y : Int × Int) : ltI (difP x y) 0 = ltP x y := by
  unfold difP ltP
  rw [eqI_dec, ltI_dec, ltI_dec, ltI_dec]
  by_cases h : x.1 = y.1
  · simp only [h, if_true, decide_true, cond_true]
    congr 1; simp only [eq_iff_iff]; omega
  · simp only [h, if_false, decide_false, cond_false]
    congr 1; simp only [eq_iff_iff]; omega
end
end Go.Proofs.YtoenpafonldhoaaGreatDoor

namespace Go.Proofs.YtoenpafonldhoaaGreatDoor
open Go Go.AM
set_option linter.unusedSimpArgs false
set_option linter.unusedVariables false
set_option maxRecDepth 100000
set_option maxHeartbeats 4000000
attribute [local simp] run_succ task callTask ev evSeq evRegion_f evOps evCond evBlock exec1 guardOk guardNot notIs exec opMove opPick pickOf opAlloc allocOf opBox boxOf opBuild buildOf opLoad loadAt opStore storeAt putCells opNilCheck nilCheckOf
  opUn unOf opConvert convOf opIface ifaceOf opMakeFunc opMakeSlice makeSliceOf opSlice sliceOf sliceSl sub3 bounds3 boundOf bothOr opFieldAddr fieldAddrOf opField fieldOf opIndexAddr indexAddrOf opIndex indexOf opLookup opMapUpdate opExtract extractOf opPanic panicOf makeMapOf
  retV Q.val Q.opt Q.run after setTm putTm opd opds tmV Tr.get_put leaf_get ofV ofVA ofVL opBin binAt binOf binInt binStr eqOp eqInt eqBool eqPtr eqSlice eqMap eqFunc eqIface eqStr eqAgg isNilIface boolIs optV
  opBuildSlice buildSliceOf Env.desc fillV repl pairs opCall callOf extCall builtinOf type1 type2 head1 head2 builtinAppend isIntD lenOf srcOf appendAt roomOk dropN takeN noMore appendOn appendNew lenAt capAt builtinCopy
  afterBody AM.unwind resultsOf one afterCall orRet listTm takeN_all isShift kindEq intOp iAdd iSub iMul iLss iLeq iGtr iGeq iEql iNeq iShl iShr iQuo iRem V.cells V.isCell allCells partOf splice over placeOfField elemPlace knownFs aggOpt zeroOf isU8 isIface
  afterLoop afterScope asCode strOp undefV isConst not_false_eq_true
  List.getElem?_cons_succ List.getElem?_cons_zero S.new S.rd S.wr nat_ne ble_t ble_f beq_t beq_f ltI_t ltI_f eqI_t eqI_f isub_def iadd_def imul_def wrapQ_i64 wrapQ_u32 wrapQ_u8 iAnd_pred inside_in bytes_len bytes_all bytesOf_cells over_bytes repl_len1
attribute [local simp] by_fn by_ty by_ext by_ng by_oid by_orc ng_eq
attribute [local simp] fiOfFn fn224 bd224 rs224 nt224 body224 Tryz.f224 fn225 bd225 rs225 nt225 body225 Tryz.f225 fn263 bd263 rs263 nt263 body263 Tryz.f263 fn264 bd264 rs264 nt264 body264 Tryz.f264 fn283 bd283 rs283 nt283 body283 Tryz.f283 fn284 bd284 rs284 nt284 body284 Tryz.f284 fn320 bd320 rs320 nt320 body320 Tryz.f320 fn265 bd265 rs265 nt265 body265 Tryz.f265 fn226 bd226 rs226 nt226 body226 Tryz.f226 fn106 bd106 rs106 nt106 body106 Tryz.f106 ty3 t3 ty4 t4 ty166 t166 ty181 t181 ty230 t230 ty268 t268 ty214 t214
attribute [local simp] byEq3 loopN loops drawN draws rangN rangs
section
variable (ω : Nat → Nat) (i : Nat)
theorem reg320_cmp {self : Self} {s : S} {tm : Tr V} {g d p q : Nat} {x y : Int × Int} {cs rest : List V} {cap : Cap} {opn : Nat} (hcmp : ∀ s, self (.call 226 [.agg [.int .i64 x.1, .int .i64 x.2], .agg [.int .i64 y.1, .int .i64 y.2]] none) s = .ret (.int .i64 (difP x y)) false (st226 s x y))
   (t0 : tm.get 0 = some (.slice (some (d, 0)) q cap)) (t1 : tm.get 1 = some (.int .i64 0)) (t9 : tm.get 9 = some (.int .i64 ((p : Int) + 1))) (t3 : tm.get 3 = some (.func 226 [] []))
   (od : s.h.get d = some (.cells cs opn false)) (e1 : dropN (p * 2) cs = .int .i64 y.1 :: .int .i64 y.2 :: .int .i64 x.1 :: .int .i64 x.2 :: rest) (e2 : dropN ((p + 1) * 2) cs = .int .i64 x.1 :: .int .i64 x.2 :: rest) (hd : d < s.n)
   (hpq : p + 1 < q) (hq : q ≤ 1000) (hi : i < s.n) :
   ∃ tm' s', evRegion R320a true (E.by ω i) self ⟨320, 53, none, none⟩ ⟨tm, [], false, g⟩ s = .ok .normal ⟨tm', [], false, g⟩ s' ∧ tm'.get 34 = some (.bool (ltP x y)) ∧ (∀ i, i < 18 → tm'.get i = tm.get i) ∧ s.n ≤ s'.n ∧ ∀ i, i < s.n → s'.h.get i = s.h.get i := by
  have w1 : wrapQ .i64 ((p : Int) + 1 - 1) = (p : Int) := by rw [wrapQ_i64 _ (by omega) (by omega)]; omega
  have w2 : ((p : Int) + 1).toNat = p + 1 := by omega
  have i1 : inside ((p : Int) + 1) q = some (p + 1) := by rw [inside_in _ _ (by omega) (by omega), w2]
  have i2 : inside (p : Int) q = some p := by rw [inside_in _ _ (by omega) (by omega)]; rfl
  have w5 := dif_lt x y
  generalize ltP x y = c at w5
  refine ⟨_, _, by simp (maxSteps := 2000000) (disch := first | omega | decide +kernel) [evRegion, opsOk_t, ordered_t, ordered_f, evDraw, drawCx, consSeg, aliveOk, segsOk, segOk, apartOk, sameIns, AM.within, clash, hits, oldOf, logs, insOf, isInsert, noDst, insLg,  R320a, t0, t1, t9, t3, od, e1, e2, w1, w2, w5, i1, i2, hcmp, ext226, st226, oidOk, by_oid]; exact ⟨rfl, rfl⟩, ?_⟩
  exact ⟨by simp (maxSteps := 1000000) (disch := omega), fun i hi => by simp (maxSteps := 1000000) (disch := omega), by simp only; omega, fun i h => by simp (maxSteps := 1000000) (disch := omega)⟩
end
end Go.Proofs.YtoenpafonldhoaaGreatDoor

namespace Go.Proofs.YtoenpafonldhoaaGreatDoor
open Go Go.AM
set_option linter.unusedSimpArgs false
set_option linter.unusedVariables false
set_option maxRecDepth 100000
set_option maxHeartbeats 4000000
attribute [local simp] run_succ task callTask ev evSeq evRegion_f evOps evCond evBlock exec1 guardOk guardNot notIs exec opMove opPick pickOf opAlloc allocOf opBox boxOf opBuild buildOf opLoad loadAt opStore storeAt putCells opNilCheck nilCheckOf
  opUn unOf opConvert convOf opIface ifaceOf opMakeFunc opMakeSlice makeSliceOf opSlice sliceOf sliceSl sub3 bounds3 boundOf bothOr opFieldAddr fieldAddrOf opField fieldOf opIndexAddr indexAddrOf opIndex indexOf opLookup opMapUpdate opExtract extractOf opPanic panicOf makeMapOf
  retV Q.val Q.opt Q.run after setTm putTm opd opds tmV Tr.get_put leaf_get ofV ofVA ofVL opBin binAt binOf binInt binStr eqOp eqInt eqBool eqPtr eqSlice eqMap eqFunc eqIface eqStr eqAgg isNilIface boolIs optV
  opBuildSlice buildSliceOf Env.desc fillV repl pairs opCall callOf extCall builtinOf type1 type2 head1 head2 builtinAppend isIntD lenOf srcOf appendAt roomOk dropN takeN noMore appendOn appendNew lenAt capAt builtinCopy
  afterBody AM.unwind resultsOf one afterCall orRet listTm takeN_all isShift kindEq intOp iAdd iSub iMul iLss iLeq iGtr iGeq iEql iNeq iShl iShr iQuo iRem V.cells V.isCell allCells partOf splice over placeOfField elemPlace knownFs aggOpt zeroOf isU8 isIface
  afterLoop afterScope asCode strOp undefV isConst not_false_eq_true
  List.getElem?_cons_succ List.getElem?_cons_zero S.new S.rd S.wr nat_ne ble_t ble_f beq_t beq_f ltI_t ltI_f eqI_t eqI_f isub_def iadd_def imul_def wrapQ_i64 wrapQ_u32 wrapQ_u8 iAnd_pred inside_in bytes_len bytes_all bytesOf_cells over_bytes repl_len1
attribute [local simp] by_fn by_ty by_ext by_ng by_oid by_orc ng_eq
attribute [local simp] fiOfFn fn224 bd224 rs224 nt224 body224 Tryz.f224 fn225 bd225 rs225 nt225 body225 Tryz.f225 fn263 bd263 rs263 nt263 body263 Tryz.f263 fn264 bd264 rs264 nt264 body264 Tryz.f264 fn283 bd283 rs283 nt283 body283 Tryz.f283 fn284 bd284 rs284 nt284 body284 Tryz.f284 fn320 bd320 rs320 nt320 body320 Tryz.f320 fn265 bd265 rs265 nt265 body265 Tryz.f265 fn226 bd226 rs226 nt226 body226 Tryz.f226 fn106 bd106 rs106 nt106 body106 Tryz.f106 ty3 t3 ty4 t4 ty166 t166 ty181 t181 ty230 t230 ty268 t268 ty214 t214
attribute [local simp] byEq3 loopN loops drawN draws rangN rangs
theorem reg320_swap (ω : Nat → Nat) (i : Nat) {self : Self} {s : S} {tm : Tr V} {g d p q : Nat} {x y : Int × Int} {cs cs1 cs2 rest : List V} {cap : Cap} {opn : Nat}
   (t0 : tm.get 0 = some (.slice (some (d, 0)) q cap)) (t9 : tm.get 9 = some (.int .i64 ((p : Int) + 1)))
   (od : s.h.get d = some (.cells cs opn false)) (e1 : dropN (p * 2) cs = .int .i64 y.1 :: .int .i64 y.2 :: .int .i64 x.1 :: .int .i64 x.2 :: rest) (e2 : dropN ((p + 1) * 2) cs = .int .i64 x.1 :: .int .i64 x.2 :: rest)
   (s1 : splice ((p + 1) * 2) cs [.int .i64 y.1, .int .i64 y.2] = some cs1) (s2 : splice (p * 2) cs1 [.int .i64 x.1, .int .i64 x.2] = some cs2) (hd : d < s.n)
   (hpq : p + 1 < q) (hq : q ≤ 1000) (hi : i < s.n) :
   ∃ tm' s', evRegion R320b true (E.by ω i) self ⟨320, 53, none, none⟩ ⟨tm, [], false, g⟩ s = .ok .normal ⟨tm', [], false, g⟩ s' ∧ (∀ i, i < 35 → tm'.get i = tm.get i) ∧ s'.n = s.n ∧ s'.h.get d = some (.cells cs2 opn false) ∧ ∀ i, i ≠ d → s'.h.get i = s.h.get i := by
  have w1 : wrapQ .i64 ((p : Int) + 1 - 1) = (p : Int) := by rw [wrapQ_i64 _ (by omega) (by omega)]; omega
  have w2 : ((p : Int) + 1).toNat = p + 1 := by omega
  have i1 : inside ((p : Int) + 1) q = some (p + 1) := by rw [inside_in _ _ (by omega) (by omega), w2]
  have i2 : inside (p : Int) q = some p := by rw [inside_in _ _ (by omega) (by omega)]; rfl
  refine ⟨_, _, by simp (maxSteps := 2000000) (disch := first | omega | decide +kernel) [evRegion, opsOk_t, ordered_t, ordered_f, evDraw, drawCx, consSeg, aliveOk, segsOk, segOk, apartOk, sameIns, AM.within, clash, hits, oldOf, logs, insOf, isInsert, noDst, insLg,  R320b, t0, t9, od, e1, e2, s1, s2, w1, w2, i1, i2, oidOk, by_oid]; exact ⟨rfl, rfl⟩, ?_⟩
  exact ⟨fun i hi => by simp (maxSteps := 1000000) (disch := omega), rfl, by simp (maxSteps := 1000000) (disch := omega), fun i h => by simp (maxSteps := 1000000) (disch := omega)⟩
end Go.Proofs.YtoenpafonldhoaaGreatDoor

namespace Go.Proofs.YtoenpafonldhoaaGreatDoor
open Go Go.AM
set_option linter.unusedSimpArgs false
set_option linter.unusedVariables false
set_option maxRecDepth 100000
set_option maxHeartbeats 4000000
attribute [local simp] run_succ task callTask ev evSeq evRegion_f evOps evCond evBlock exec1 guardOk guardNot notIs exec opMove opPick pickOf opAlloc allocOf opBox boxOf opBuild buildOf opLoad loadAt opStore storeAt putCells opNilCheck nilCheckOf
  opUn unOf opConvert convOf opIface ifaceOf opMakeFunc opMakeSlice makeSliceOf opSlice sliceOf sliceSl sub3 bounds3 boundOf bothOr opFieldAddr fieldAddrOf opField fieldOf opIndexAddr indexAddrOf opIndex indexOf opLookup opMapUpdate opExtract extractOf opPanic panicOf makeMapOf
  retV Q.val Q.opt Q.run after setTm putTm opd opds tmV Tr.get_put leaf_get ofV ofVA ofVL opBin binAt binOf binInt binStr eqOp eqInt eqBool eqPtr eqSlice eqMap eqFunc eqIface eqStr eqAgg isNilIface boolIs optV
  opBuildSlice buildSliceOf Env.desc fillV repl pairs opCall callOf extCall builtinOf type1 type2 head1 head2 builtinAppend isIntD lenOf srcOf appendAt roomOk dropN takeN noMore appendOn appendNew lenAt capAt builtinCopy
  afterBody AM.unwind resultsOf one afterCall orRet listTm takeN_all isShift kindEq intOp iAdd iSub iMul iLss iLeq iGtr iGeq iEql iNeq iShl iShr iQuo iRem V.cells V.isCell allCells partOf splice over placeOfField elemPlace knownFs aggOpt zeroOf isU8 isIface
  afterLoop afterScope asCode strOp undefV isConst not_false_eq_true
  List.getElem?_cons_succ List.getElem?_cons_zero S.new S.rd S.wr nat_ne ble_t ble_f beq_t beq_f ltI_t ltI_f eqI_t eqI_f isub_def iadd_def imul_def wrapQ_i64 wrapQ_u32 wrapQ_u8 iAnd_pred inside_in bytes_len bytes_all bytesOf_cells over_bytes repl_len1
attribute [local simp] by_fn by_ty by_ext by_ng by_oid by_orc ng_eq
attribute [local simp] fiOfFn fn224 bd224 rs224 nt224 body224 Tryz.f224 fn225 bd225 rs225 nt225 body225 Tryz.f225 fn263 bd263 rs263 nt263 body263 Tryz.f263 fn264 bd264 rs264 nt264 body264 Tryz.f264 fn283 bd283 rs283 nt283 body283 Tryz.f283 fn284 bd284 rs284 nt284 body284 Tryz.f284 fn320 bd320 rs320 nt320 body320 Tryz.f320 fn265 bd265 rs265 nt265 body265 Tryz.f265 fn226 bd226 rs226 nt226 body226 Tryz.f226 fn106 bd106 rs106 nt106 body106 Tryz.f106 ty3 t3 ty4 t4 ty166 t166 ty181 t181 ty230 t230 ty268 t268 ty214 t214
attribute [local simp] byEq3 loopN loops drawN draws rangN rangs
noncomputable def I320 : Code := loopN body320 1
noncomputable def O320 : Code := loopN body320 0
theorem reg_first_h {ω : Nat → Nat} {i : Nat} {self : Self} {s : S} {tm : Tr V} {g : Nat} {r : R} (hr : evRegion R320a true (E.by ω i) self ⟨320, 53, none, none⟩ ⟨tm, [], false, g⟩ s = r) (t9 : tm.get 9 = some (.int .i64 0)) (t1 : tm.get 1 = some (.int .i64 0)) (hi : i < s.n) :
   ∃ tm' s', r = .ok .normal ⟨tm', [], false, g⟩ s' ∧ tm'.get 34 = some (.bool false) ∧ (∀ i, i < 18 → tm'.get i = tm.get i) ∧ s.n ≤ s'.n ∧ ∀ i, i < s.n → s'.h.get i = s.h.get i := by
  subst hr; exact reg320_first ω i self s tm g t9 t1 hi
theorem reg_cmp_h {ω : Nat → Nat} {i : Nat} {self : Self} {s : S} {tm : Tr V} {g d p q : Nat} {x y : Int × Int} {cs rest : List V} {cap : Cap} {opn : Nat} {r : R} (hr : evRegion R320a true (E.by ω i) self ⟨320, 53, none, none⟩ ⟨tm, [], false, g⟩ s = r) (hcmp : ∀ s, self (.call 226 [.agg [.int .i64 x.1, .int .i64 x.2], .agg [.int .i64 y.1, .int .i64 y.2]] none) s = .ret (.int .i64 (difP x y)) false (st226 s x y))
   (t0 : tm.get 0 = some (.slice (some (d, 0)) q cap)) (t1 : tm.get 1 = some (.int .i64 0)) (t9 : tm.get 9 = some (.int .i64 ((p : Int) + 1))) (t3 : tm.get 3 = some (.func 226 [] []))
   (od : s.h.get d = some (.cells cs opn false)) (e1 : dropN (p * 2) cs = .int .i64 y.1 :: .int .i64 y.2 :: .int .i64 x.1 :: .int .i64 x.2 :: rest) (e2 : dropN ((p + 1) * 2) cs = .int .i64 x.1 :: .int .i64 x.2 :: rest) (hd : d < s.n)
   (hpq : p + 1 < q) (hq : q ≤ 1000) (hi : i < s.n) :
   ∃ tm' s', r = .ok .normal ⟨tm', [], false, g⟩ s' ∧ tm'.get 34 = some (.bool (ltP x y)) ∧ (∀ i, i < 18 → tm'.get i = tm.get i) ∧ s.n ≤ s'.n ∧ ∀ i, i < s.n → s'.h.get i = s.h.get i := by
  subst hr; exact reg320_cmp ω i hcmp t0 t1 t9 t3 od e1 e2 hd hpq hq hi
theorem reg_swap_h {ω : Nat → Nat} {i : Nat} {self : Self} {s : S} {tm : Tr V} {g d p q : Nat} {x y : Int × Int} {cs cs1 cs2 rest : List V} {cap : Cap} {opn : Nat} {r : R} (hr : evRegion R320b true (E.by ω i) self ⟨320, 53, none, none⟩ ⟨tm, [], false, g⟩ s = r)
   (t0 : tm.get 0 = some (.slice (some (d, 0)) q cap)) (t9 : tm.get 9 = some (.int .i64 ((p : Int) + 1)))
   (od : s.h.get d = some (.cells cs opn false)) (e1 : dropN (p * 2) cs = .int .i64 y.1 :: .int .i64 y.2 :: .int .i64 x.1 :: .int .i64 x.2 :: rest) (e2 : dropN ((p + 1) * 2) cs = .int .i64 x.1 :: .int .i64 x.2 :: rest)
   (s1 : splice ((p + 1) * 2) cs [.int .i64 y.1, .int .i64 y.2] = some cs1) (s2 : splice (p * 2) cs1 [.int .i64 x.1, .int .i64 x.2] = some cs2) (hd : d < s.n)
   (hpq : p + 1 < q) (hq : q ≤ 1000) (hi : i < s.n) :
   ∃ tm' s', r = .ok .normal ⟨tm', [], false, g⟩ s' ∧ (∀ i, i < 35 → tm'.get i = tm.get i) ∧ s'.n = s.n ∧ s'.h.get d = some (.cells cs2 opn false) ∧ ∀ i, i ≠ d → s'.h.get i = s.h.get i := by
  subst hr; exact reg320_swap ω i t0 t9 od e1 e2 s1 s2 hd hpq hq hi
theorem drop_flat : ∀ (f : List (Int × Int)) (l : List (Int × Int)), dropN (f.length * 2) (flatP (f ++ l)) = flatP l
  | [], l => rfl
  | x :: f, l => by
    have : (x :: f).length * 2 = f.length * 2 + 1 + 1 := by simp only [List.length_cons]; omega
    rw [this]; simp only [List.cons_append, flatP, dropN]; exact drop_flat f l
theorem splice_flat : ∀ (f : List (Int × Int)) (a b : Int × Int) (l : List (Int × Int)), splice (f.length * 2) (flatP (f ++ a :: l)) [.int .i64 b.1, .int .i64 b.2] = some (flatP (f ++ b :: l))
  | [], a, b, l => by simp [flatP, splice, over]
  | x :: f, a, b, l => by
    have : (x :: f).length * 2 = f.length * 2 + 1 + 1 := by simp only [List.length_cons]; omega
    rw [this]; simp only [List.cons_append, flatP, splice, splice_flat f a b l]
/-- an element goes ahead as far as it is less -/
def bub (x : Int × Int) : List (Int × Int) → List (Int × Int) → List (Int × Int)
  | [], back => x :: back
  | y :: f, back => bif ltP x y then bub x f (y :: back) else f.reverse ++ y :: x :: back
theorem inner320 (ω : Nat → Nat) (i d : Nat) (x : Int × Int) (cap : Cap) (opn q g : Nat) (hx : SmallP x) (hq : q ≤ 1000) :
   ∀ (f back : List (Int × Int)) (k : Nat) (s : S) (tm : Tr V) (r : TR), run (E.by ω i) k (.loop ⟨320, 53, none, none⟩ I320 ⟨tm, [], false, g⟩) s = r → (∀ y ∈ f, SmallP y) → f.length + 3 ≤ k → f.length + 1 + back.length = q → tm.get 0 = some (.slice (some (d, 0)) q cap) → tm.get 1 = some (.int .i64 0) → tm.get 9 = some (.int .i64 (f.length : Nat)) → tm.get 3 = some (.func 226 [] []) →
   s.h.get d = some (.cells (flatP (f.reverse ++ x :: back)) opn false) → d < s.n → i < s.n → 
   ∃ s' tm', r = .code (.ok (.exit 2) ⟨tm', [], false, g⟩ s') ∧ s'.h.get d = some (.cells (flatP (bub x f back)) opn false) ∧ (∀ i, i < 9 → tm'.get i = tm.get i) ∧ s.n ≤ s'.n ∧ ∀ i, i < s.n → i ≠ d → s'.h.get i = s.h.get i
  | [], back, k, s, tm, r0, hr0, hf, hk, hl, t0, t1, t9, t3, od, hd, hi => by
    subst hr0
    obtain ⟨k, rfl⟩ : ∃ j, k = j + 1 := ⟨k - 1, by omega⟩
    simp (maxSteps := 1000000) (disch := omega) [I320]
    generalize hr : evRegion _ true _ _ _ _ _ = r
    obtain ⟨tm', s', rfl, u34, ut, un, us⟩ := reg_first_h hr (by rw [t9]; rfl) t1 hi
    clear hr
    simp (maxSteps := 1000000) (disch := omega) [u34]
    exact ⟨_, _, ⟨rfl, rfl⟩, by rw [us d hd, od]; rfl, fun i hi => ut i (by omega), un, fun i hi _ => us i hi⟩
  | y :: f, back, k, s, tm, r0, hr0, hf, hk, hl, t0, t1, t9, t3, od, hd, hi => by
    subst hr0
    obtain ⟨k, rfl⟩ : ∃ j, k = j + 1 := ⟨k - 1, by omega⟩
    simp only [List.length_cons] at hk hl
    have t9' : tm.get 9 = some (.int .i64 ((f.length : Int) + 1)) := by rw [t9]; simp
    have hrev : (y :: f).reverse ++ x :: back = f.reverse ++ y :: x :: back := by simp
    rw [hrev] at od
    have hfl : f.reverse.length = f.length := by simp
    have e1 : dropN (f.length * 2) (flatP (f.reverse ++ y :: x :: back)) = .int .i64 y.1 :: .int .i64 y.2 :: .int .i64 x.1 :: .int .i64 x.2 :: flatP back := by
      have := drop_flat f.reverse (y :: x :: back); rw [hfl] at this; exact this
    have e2 : dropN ((f.length + 1) * 2) (flatP (f.reverse ++ y :: x :: back)) = .int .i64 x.1 :: .int .i64 x.2 :: flatP back := by
      have := drop_flat (f.reverse ++ [y]) (x :: back)
      simp only [List.length_append, hfl, List.length_singleton, List.append_assoc, List.singleton_append] at this; exact this
    have s1 : splice ((f.length + 1) * 2) (flatP (f.reverse ++ y :: x :: back)) [.int .i64 y.1, .int .i64 y.2] = some (flatP (f.reverse ++ y :: y :: back)) := by
      have := splice_flat (f.reverse ++ [y]) x y back
      simp only [List.length_append, hfl, List.length_singleton, List.append_assoc, List.singleton_append] at this; exact this
    have s2 : splice (f.length * 2) (flatP (f.reverse ++ y :: y :: back)) [.int .i64 x.1, .int .i64 x.2] = some (flatP (f.reverse ++ x :: y :: back)) := by
      have := splice_flat f.reverse y x (y :: back); rw [hfl] at this; exact this
    have hcmp := cmp226e ω i k x y hx (hf y (by simp)) (by omega)
    simp (maxSteps := 1000000) (disch := omega) [I320]
    generalize hr : evRegion _ true _ _ _ _ _ = r
    obtain ⟨tm', s', rfl, u34, ut, un, us⟩ := reg_cmp_h hr hcmp t0 t1 t9' t3 od e1 e2 hd (by omega) hq hi
    clear hr
    cases hlt : ltP x y with
    | false =>
      rw [hlt] at u34
      simp (maxSteps := 1000000) (disch := omega) [u34]
      exact ⟨_, _, ⟨rfl, rfl⟩, by rw [us d hd, od]; simp [bub, hlt], fun i hi => ut i (by omega), un, fun i hi _ => us i hi⟩
    | true =>
      rw [hlt] at u34
      simp (maxSteps := 1000000) (disch := omega) [u34]
      generalize hr : evRegion _ true _ _ _ _ _ = r
      obtain ⟨tm2, s2', rfl, vt, vn, vd, vs⟩ := reg_swap_h hr (by rw [ut 0 (by omega), t0]) (by rw [ut 9 (by omega), t9']) (by rw [us d hd, od]) e1 e2 s1 s2 (by omega) (by omega) hq (by omega)
      clear hr
      have w9 : tm2.get 9 = some (.int .i64 ((f.length : Int) + 1)) := by rw [vt 9 (by omega), ut 9 (by omega), t9']
      have w1 : wrapQ .i64 ((f.length : Int) + 1 - 1) = (f.length : Int) := by rw [wrapQ_i64 _ (by omega) (by omega)]; omega
      simp (maxSteps := 1000000) (disch := omega) [w9, w1]
      generalize hr : run (E.by ω i) k (.loop _ _ _) _ = r
      obtain ⟨s3, tm3, rfl, z1, z2, z3, z4⟩ := inner320 ω i d x cap opn q g hx hq f (y :: back) k _ _ _ hr (fun z hz => hf z (by simp [hz])) (by omega) (by simp only [List.length_cons]; omega)
        (by simp (maxSteps := 1000000) (disch := omega) [vt 0 (by omega), ut 0 (by omega), t0]) (by simp (maxSteps := 1000000) (disch := omega) [vt 1 (by omega), ut 1 (by omega), t1]) (by simp (maxSteps := 1000000) (disch := omega)) (by simp (maxSteps := 1000000) (disch := omega) [vt 3 (by omega), ut 3 (by omega), t3]) vd (by omega) (by omega)
      refine ⟨_, _, rfl, by rw [z1]; simp [bub, hlt], fun j hj => ?_, by omega, fun j hj hjd => by rw [z4 j (by omega) hjd, vs j hjd, us j hj]⟩
      rw [z2 j hj]
      simp (maxSteps := 1000000) (disch := omega)
      rw [vt j (by omega), ut j (by omega)]
end Go.Proofs.YtoenpafonldhoaaGreatDoor

namespace Go.Proofs.YtoenpafonldhoaaGreatDoor
open Go Go.AM
set_option linter.unusedSimpArgs false
set_option linter.unusedVariables false
set_option maxRecDepth 100000
set_option maxHeartbeats 4000000
attribute [local simp] run_succ task callTask ev evSeq evRegion_f evOps evCond evBlock exec1 guardOk guardNot notIs exec opMove opPick pickOf opAlloc allocOf opBox boxOf opBuild buildOf opLoad loadAt opStore storeAt putCells opNilCheck nilCheckOf
  opUn unOf opConvert convOf opIface ifaceOf opMakeFunc opMakeSlice makeSliceOf opSlice sliceOf sliceSl sub3 bounds3 boundOf bothOr opFieldAddr fieldAddrOf opField fieldOf opIndexAddr indexAddrOf opIndex indexOf opLookup opMapUpdate opExtract extractOf opPanic panicOf makeMapOf
  retV Q.val Q.opt Q.run after setTm putTm opd opds tmV Tr.get_put leaf_get ofV ofVA ofVL opBin binAt binOf binInt binStr eqOp eqInt eqBool eqPtr eqSlice eqMap eqFunc eqIface eqStr eqAgg isNilIface boolIs optV
  opBuildSlice buildSliceOf Env.desc fillV repl pairs opCall callOf extCall builtinOf type1 type2 head1 head2 builtinAppend isIntD lenOf srcOf appendAt roomOk dropN takeN noMore appendOn appendNew lenAt capAt builtinCopy
  afterBody AM.unwind resultsOf one afterCall orRet listTm takeN_all isShift kindEq intOp iAdd iSub iMul iLss iLeq iGtr iGeq iEql iNeq iShl iShr iQuo iRem V.cells V.isCell allCells partOf splice over placeOfField elemPlace knownFs aggOpt zeroOf isU8 isIface
  afterLoop afterScope asCode strOp undefV isConst not_false_eq_true
  List.getElem?_cons_succ List.getElem?_cons_zero S.new S.rd S.wr nat_ne ble_t ble_f beq_t beq_f ltI_t ltI_f eqI_t eqI_f isub_def iadd_def imul_def wrapQ_i64 wrapQ_u32 wrapQ_u8 iAnd_pred inside_in bytes_len bytes_all bytesOf_cells over_bytes repl_len1
attribute [local simp] by_fn by_ty by_ext by_ng by_oid by_orc ng_eq
attribute [local simp] fiOfFn fn224 bd224 rs224 nt224 body224 Tryz.f224 fn225 bd225 rs225 nt225 body225 Tryz.f225 fn263 bd263 rs263 nt263 body263 Tryz.f263 fn264 bd264 rs264 nt264 body264 Tryz.f264 fn283 bd283 rs283 nt283 body283 Tryz.f283 fn284 bd284 rs284 nt284 body284 Tryz.f284 fn320 bd320 rs320 nt320 body320 Tryz.f320 fn265 bd265 rs265 nt265 body265 Tryz.f265 fn226 bd226 rs226 nt226 body226 Tryz.f226 fn106 bd106 rs106 nt106 body106 Tryz.f106 ty3 t3 ty4 t4 ty166 t166 ty181 t181 ty230 t230 ty268 t268 ty214 t214
attribute [local simp] byEq3 loopN loops drawN draws rangN rangs
theorem bub_app (x : Int × Int) : ∀ f back, bub x f back = bub x f [] ++ back
  | [], back => rfl
  | y :: f, back => by
    simp only [bub]
    cases ltP x y with
    | true => simp only [cond_true]; rw [bub_app x f (y :: back), bub_app x f [y]]; simp
    | false => simp
theorem bub_len (x : Int × Int) : ∀ f back, (bub x f back).length = f.length + 1 + back.length
  | [], back => by simp [bub]; omega
  | y :: f, back => by
    simp only [bub]
    cases ltP x y with
    | true => simp only [cond_true]; rw [bub_len x f (y :: back)]; simp; omega
    | false => simp; omega
theorem bub_mem {x : Int × Int} : ∀ {f back z}, z ∈ bub x f back → z = x ∨ z ∈ f ∨ z ∈ back
  | [], back, z, h => by simpa [bub] using h
  | y :: f, back, z, h => by
    simp only [bub] at h
    cases hl : ltP x y with
    | true =>
      rw [hl] at h
      rcases bub_mem h with h | h | h
      · exact .inl h
      · exact .inr (.inl (by simp [h]))
      · rcases List.mem_cons.1 h with rfl | h
        · exact .inr (.inl (by simp))
        · exact .inr (.inr h)
    | false =>
      rw [hl] at h
      simp at h
      rcases h with h | h | h | h
      · exact .inr (.inl (by simp [h]))
      · exact .inr (.inl (by simp [h]))
      · exact .inl h
      · exact .inr (.inr h)
def insAll : List (Int × Int) → List (Int × Int) → List (Int × Int)
  | pre, [] => pre
  | pre, x :: rest => insAll (bub x pre.reverse []) rest
theorem cpsT {P : TR → Prop} {r : TR} (h : ∀ Q : TR → Prop, (∀ x, P x → Q x) → Q r) : P r := h P (fun _ h => h)
def EndsC (x : X) (g : Nat) (F : S → Tr V → Prop) (r : TR) : Prop := ∃ s' tm', r = .code (.ok x ⟨tm', [], false, g⟩ s') ∧ F s' tm'
theorem outer320 (ω : Nat → Nat) (i d : Nat) (cap : Cap) (opn q g : Nat) (hq : q ≤ 1000) :
   ∀ (rest pre : List (Int × Int)) (k : Nat) (s : S) (tm : Tr V) (r : TR), run (E.by ω i) k (.loop ⟨320, 53, none, none⟩ O320 ⟨tm, [], false, g⟩) s = r → (∀ y ∈ pre, SmallP y) → (∀ y ∈ rest, SmallP y) → pre.length + rest.length = q → q + rest.length + 5 ≤ k → tm.get 0 = some (.slice (some (d, 0)) q cap) → tm.get 1 = some (.int .i64 0) → tm.get 2 = some (.int .i64 (q : Nat)) → tm.get 8 = some (.int .i64 (pre.length : Nat)) → tm.get 3 = some (.func 226 [] []) →
   s.h.get d = some (.cells (flatP (pre ++ rest)) opn false) → d < s.n → i < s.n → 
   EndsC (.exit 0) g (fun s' _ => s'.h.get d = some (.cells (flatP (insAll pre rest)) opn false) ∧ s.n ≤ s'.n ∧ ∀ i, i < s.n → i ≠ d → s'.h.get i = s.h.get i) r
  | [], pre, k, s, tm, r0, hr0, hp, hr, hl, hk, t0, t1, t2, t8, t3, od, hd, hi => by
    refine cpsT (r := r0) fun Q H => ?_
    subst hr0
    obtain ⟨k, rfl⟩ : ∃ j, k = j + 1 := ⟨k - 1, by omega⟩
    have hlt : ltI (pre.length : Int) (q : Int) = false := ltI_f _ _ (by simp at hl; omega)
    simp (maxSteps := 1000000) (disch := omega) [O320, t8, t2, hlt]
    exact H _ ⟨_, _, rfl, by simpa [insAll] using od, Nat.le_refl _, fun _ _ _ => rfl⟩
  | x :: rest, pre, k, s, tm, r0, hr0, hp, hr, hl, hk, t0, t1, t2, t8, t3, od, hd, hi => by
    refine cpsT (r := r0) fun Q H => ?_
    subst hr0
    obtain ⟨k, rfl⟩ : ∃ j, k = j + 1 := ⟨k - 1, by omega⟩
    simp only [List.length_cons] at hl hk
    have hlt : ltI (pre.length : Int) (q : Int) = true := ltI_t _ _ (by omega)
    simp (maxSteps := 1000000) (disch := omega) [O320, t8, t2, hlt]
    generalize hr2 : run (E.by ω i) k (.loop _ _ _) _ = r
    obtain ⟨s1, tm1, rfl, z1, z2, z3, z4⟩ := inner320 ω i d x cap opn q g (hr x (by simp)) hq pre.reverse rest k _ _ _ hr2 (fun y hy => hp y (by simpa using hy)) (by simp; omega) (by simp; omega)
      (by simp (maxSteps := 1000000) (disch := omega) [t0]) (by simp (maxSteps := 1000000) (disch := omega) [t1]) (by simp (maxSteps := 1000000) (disch := omega)) (by simp (maxSteps := 1000000) (disch := omega) [t3]) (by simpa using od) (by simpa using hd) (by simpa using hi)
    clear hr2
    have w8 : tm1.get 8 = some (.int .i64 (pre.length : Int)) := by rw [z2 8 (by omega)]; simp (maxSteps := 1000000) (disch := omega) [t8]
    have w1 : wrapQ .i64 ((pre.length : Int) + 1) = (pre.length : Int) + 1 := wrapQ_i64 _ (by omega) (by omega)
    simp (maxSteps := 1000000) (disch := omega) [w8, w1]
    generalize hr2 : run (E.by ω i) k (.loop _ _ _) _ = r
    obtain ⟨s2, tm2, rfl, y1, y2, y3⟩ := outer320 ω i d cap opn q g hq rest (bub x pre.reverse []) k _ _ _ hr2 (fun y hy => by
        rcases bub_mem hy with rfl | h | h
        · exact hr y (by simp)
        · exact hp y (by simpa using h)
        · simp at h) (fun y hy => hr y (by simp [hy])) (by rw [bub_len]; simp; omega) (by omega)
      (by simp (maxSteps := 1000000) (disch := omega) [z2 0 (by omega), t0]) (by simp (maxSteps := 1000000) (disch := omega) [z2 1 (by omega), t1]) (by simp (maxSteps := 1000000) (disch := omega) [z2 2 (by omega), t2]) (by simp (maxSteps := 1000000) (disch := omega) [bub_len]) (by simp (maxSteps := 1000000) (disch := omega) [z2 3 (by omega), t3]) (by rw [z1, bub_app]) (by omega) (by omega)
    clear hr2
    exact H _ ⟨_, _, rfl, y1, by omega, fun j hj hjd => by rw [y3 j (by omega) hjd, z4 j hj hjd]⟩
end Go.Proofs.YtoenpafonldhoaaGreatDoor

namespace Go.Proofs.YtoenpafonldhoaaGreatDoor
open Go Go.AM
set_option linter.unusedSimpArgs false
set_option linter.unusedVariables false
set_option maxRecDepth 100000
set_option maxHeartbeats 4000000
attribute [local simp] run_succ task callTask ev evSeq evRegion_f evOps evCond evBlock exec1 guardOk guardNot notIs exec opMove opPick pickOf opAlloc allocOf opBox boxOf opBuild buildOf opLoad loadAt opStore storeAt putCells opNilCheck nilCheckOf
  opUn unOf opConvert convOf opIface ifaceOf opMakeFunc opMakeSlice makeSliceOf opSlice sliceOf sliceSl sub3 bounds3 boundOf bothOr opFieldAddr fieldAddrOf opField fieldOf opIndexAddr indexAddrOf opIndex indexOf opLookup opMapUpdate opExtract extractOf opPanic panicOf makeMapOf
  retV Q.val Q.opt Q.run after setTm putTm opd opds tmV Tr.get_put leaf_get ofV ofVA ofVL opBin binAt binOf binInt binStr eqOp eqInt eqBool eqPtr eqSlice eqMap eqFunc eqIface eqStr eqAgg isNilIface boolIs optV
  opBuildSlice buildSliceOf Env.desc fillV repl pairs opCall callOf extCall builtinOf type1 type2 head1 head2 builtinAppend isIntD lenOf srcOf appendAt roomOk dropN takeN noMore appendOn appendNew lenAt capAt builtinCopy
  afterBody AM.unwind resultsOf one afterCall orRet listTm takeN_all isShift kindEq intOp iAdd iSub iMul iLss iLeq iGtr iGeq iEql iNeq iShl iShr iQuo iRem V.cells V.isCell allCells partOf splice over placeOfField elemPlace knownFs aggOpt zeroOf isU8 isIface
  afterLoop afterScope asCode strOp undefV isConst not_false_eq_true
  List.getElem?_cons_succ List.getElem?_cons_zero S.new S.rd S.wr nat_ne ble_t ble_f beq_t beq_f ltI_t ltI_f eqI_t eqI_f isub_def iadd_def imul_def wrapQ_i64 wrapQ_u32 wrapQ_u8 iAnd_pred inside_in bytes_len bytes_all bytesOf_cells over_bytes repl_len1
attribute [local simp] by_fn by_ty by_ext by_ng by_oid by_orc ng_eq
attribute [local simp] fiOfFn fn224 bd224 rs224 nt224 body224 Tryz.f224 fn225 bd225 rs225 nt225 body225 Tryz.f225 fn263 bd263 rs263 nt263 body263 Tryz.f263 fn264 bd264 rs264 nt264 body264 Tryz.f264 fn283 bd283 rs283 nt283 body283 Tryz.f283 fn284 bd284 rs284 nt284 body284 Tryz.f284 fn320 bd320 rs320 nt320 body320 Tryz.f320 fn265 bd265 rs265 nt265 body265 Tryz.f265 fn226 bd226 rs226 nt226 body226 Tryz.f226 fn106 bd106 rs106 nt106 body106 Tryz.f106 ty3 t3 ty4 t4 ty166 t166 ty181 t181 ty230 t230 ty268 t268 ty214 t214
attribute [local simp] byEq3 loopN loops drawN draws rangN rangs
def EndsR (F : V → S → Prop) (r : TR) : Prop := ∃ v s', r = .ret v false s' ∧ F v s'
theorem bits106 (ω : Nat → Nat) (i k : Nat) (s : S) : ∀ q : Nat, 1 ≤ q → q ≤ 12 → ∃ v, run (E.by ω i) (k + 3) (.call 106 [.int .u64 (q : Int)] none) s = .ret v false s
  | 0, h, _ => by omega
  | 1, _, _ => ⟨.int .i64 1, by kernel_rfl⟩
  | 2, _, _ => ⟨.int .i64 2, by kernel_rfl⟩
  | 3, _, _ => ⟨.int .i64 2, by kernel_rfl⟩
  | 4, _, _ => ⟨.int .i64 3, by kernel_rfl⟩
  | 5, _, _ => ⟨.int .i64 3, by kernel_rfl⟩
  | 6, _, _ => ⟨.int .i64 3, by kernel_rfl⟩
  | 7, _, _ => ⟨.int .i64 3, by kernel_rfl⟩
  | 8, _, _ => ⟨.int .i64 4, by kernel_rfl⟩
  | 9, _, _ => ⟨.int .i64 4, by kernel_rfl⟩
  | 10, _, _ => ⟨.int .i64 4, by kernel_rfl⟩
  | 11, _, _ => ⟨.int .i64 4, by kernel_rfl⟩
  | 12, _, _ => ⟨.int .i64 4, by kernel_rfl⟩
  | q + 13, _, h => by omega
theorem call320 {ω : Nat → Nat} {i d k : Nat} {cap : Cap} {opn q : Nat} {a : Int × Int} {rest : List (Int × Int)} {s : S} {r : TR} (hr : run (E.by ω i) k (.call 320 [.slice (some (d, 0)) q cap, .int .i64 0, .int .i64 (q : Nat), .func 226 [] []] none) s = r)
   (hq : q ≤ 12) (hl : rest.length + 1 = q) (hk : q + q + 6 ≤ k) (hs : ∀ y ∈ a :: rest, SmallP y) (od : s.h.get d = some (.cells (flatP (a :: rest)) opn false)) (hd : d < s.n) (hi : i < s.n) :
   EndsR (fun v s' => v = .tuple [] ∧ s'.h.get d = some (.cells (flatP (insAll [a] rest)) opn false) ∧ s.n ≤ s'.n ∧ ∀ i, i < s.n → i ≠ d → s'.h.get i = s.h.get i) r := by
  refine cpsT (r := r) fun Q H => ?_
  subst hr
  obtain ⟨k, rfl⟩ : ∃ j, k = j + 1 := ⟨k - 1, by omega⟩
  simp (maxSteps := 1000000) (disch := omega) [ext320]
  generalize hr2 : run (E.by ω i) k (.loop _ _ _) _ = r
  obtain ⟨s1, tm1, rfl, z1, z2, z3⟩ := outer320 ω i d cap opn q 8 (by omega) rest [a] k _ _ _ hr2 (fun y hy => hs y (by simp at hy; simp [hy])) (fun y hy => hs y (by simp [hy])) (by simp; omega) (by omega) (by simp (maxSteps := 1000000) (disch := omega)) (by simp (maxSteps := 1000000) (disch := omega)) (by simp (maxSteps := 1000000) (disch := omega)) (by simp (maxSteps := 1000000) (disch := omega)) (by simp (maxSteps := 1000000) (disch := omega)) (by simpa using od) (by simpa using hd) (by simpa using hi)
  clear hr2
  simp (maxSteps := 1000000) (disch := omega)
  exact H _ ⟨_, _, rfl, rfl, z1, by simpa using z2, fun j h1 h2 => z3 j (by simpa using h1) h2⟩
attribute [local simp] ext320 ext284 ext264 ext224 ext106
theorem call284 {ω : Nat → Nat} {i d k : Nat} {cap : Cap} {opn q : Nat} {a : Int × Int} {rest : List (Int × Int)} {s : S} {lim : V} {r : TR} (hr : run (E.by ω i) k (.call 284 [.slice (some (d, 0)) q cap, .int .i64 0, .int .i64 (q : Nat), lim, .func 226 [] []] none) s = r)
   (hq : q ≤ 12) (hl : rest.length + 1 = q) (hk : q + q + 8 ≤ k) (hs : ∀ y ∈ a :: rest, SmallP y) (od : s.h.get d = some (.cells (flatP (a :: rest)) opn false)) (hd : d < s.n) (hi : i < s.n) :
   EndsR (fun v s' => v = .tuple [] ∧ s'.h.get d = some (.cells (flatP (insAll [a] rest)) opn false) ∧ s.n ≤ s'.n ∧ ∀ i, i < s.n → i ≠ d → s'.h.get i = s.h.get i) r := by
  refine cpsT (r := r) fun Q H => ?_
  subst hr
  obtain ⟨k, rfl⟩ : ∃ j, k = j + 2 := ⟨k - 2, by omega⟩
  have w1 : wrapQ .i64 ((q : Int) - 0) = (q : Int) := by rw [wrapQ_i64 _ (by omega) (by omega)]; omega
  have w1' : wrapQ .i64 (q : Int) = (q : Int) := wrapQ_i64 _ (by omega) (by omega)
  have w2 : ltI 12 (q : Int) = false := ltI_f _ _ (by omega)
  have w3 : ltI (q : Int) 12 = decide (q < 12) := by rw [ltI_dec]; congr 1; simp only [eq_iff_iff]; omega
  simp (maxSteps := 1000000) (disch := omega) [w1, w1', w2]
  generalize hr2 : run (E.by ω i) k (.call 320 _ _) _ = r
  obtain ⟨v, s1, rfl, rfl, z⟩ := call320 hr2 hq hl (by omega) hs od hd hi
  clear hr2
  simp (maxSteps := 1000000) (disch := omega)
  exact H _ ⟨_, _, rfl, rfl, z⟩
theorem call264 {ω : Nat → Nat} {i d k : Nat} {cap : Cap} {opn q : Nat} {a : Int × Int} {rest : List (Int × Int)} {s : S} {r : TR} (hr : run (E.by ω i) k (.call 264 [.slice (some (d, 0)) q cap, .func 226 [] []] none) s = r)
   (hq : q ≤ 12) (hl : rest.length + 1 = q) (hk : q + q + 10 ≤ k) (hs : ∀ y ∈ a :: rest, SmallP y) (od : s.h.get d = some (.cells (flatP (a :: rest)) opn false)) (hd : d < s.n) (hi : i < s.n) :
   EndsR (fun v s' => v = .tuple [] ∧ s'.h.get d = some (.cells (flatP (insAll [a] rest)) opn false) ∧ s.n ≤ s'.n ∧ ∀ i, i < s.n → i ≠ d → s'.h.get i = s.h.get i) r := by
  refine cpsT (r := r) fun Q H => ?_
  subst hr
  obtain ⟨k, rfl⟩ : ∃ j, k = j + 4 := ⟨k - 4, by omega⟩
  obtain ⟨v, hb⟩ := bits106 ω i k s q (by omega) hq
  have w1 : wrapQ .u64 (q : Int) = (q : Int) := wrapQ_in _ _ (by omega) (by simp [lim]; omega)
  rw [run_succ]
  generalize hS : run (E.by ω i) (k + 3) = self at hb ⊢
  simp (maxSteps := 1000000) (disch := omega) [w1, hb]
  generalize hr2 : self (.call 284 _ _) _ = r
  subst hS
  obtain ⟨v, s1, rfl, rfl, z⟩ := call284 hr2 hq hl (by omega) hs od hd hi
  clear hr2
  simp (maxSteps := 1000000) (disch := omega)
  exact H _ ⟨_, _, rfl, rfl, z⟩
end Go.Proofs.YtoenpafonldhoaaGreatDoor

namespace Go.Proofs.YtoenpafonldhoaaGreatDoor
open Go Go.AM
set_option linter.unusedSimpArgs false
set_option linter.unusedVariables false
set_option maxRecDepth 100000
set_option maxHeartbeats 4000000
attribute [local simp] run_succ task callTask ev evSeq evRegion_f evOps evCond evBlock exec1 guardOk guardNot notIs exec opMove opPick pickOf opAlloc allocOf opBox boxOf opBuild buildOf opLoad loadAt opStore storeAt putCells opNilCheck nilCheckOf
  opUn unOf opConvert convOf opIface ifaceOf opMakeFunc opMakeSlice makeSliceOf opSlice sliceOf sliceSl sub3 bounds3 boundOf bothOr opFieldAddr fieldAddrOf opField fieldOf opIndexAddr indexAddrOf opIndex indexOf opLookup opMapUpdate opExtract extractOf opPanic panicOf makeMapOf
  retV Q.val Q.opt Q.run after setTm putTm opd opds tmV Tr.get_put leaf_get ofV ofVA ofVL opBin binAt binOf binInt binStr eqOp eqInt eqBool eqPtr eqSlice eqMap eqFunc eqIface eqStr eqAgg isNilIface boolIs optV
  opBuildSlice buildSliceOf Env.desc fillV repl pairs opCall callOf extCall builtinOf type1 type2 head1 head2 builtinAppend isIntD lenOf srcOf appendAt roomOk dropN takeN noMore appendOn appendNew lenAt capAt builtinCopy
  afterBody AM.unwind resultsOf one afterCall orRet listTm takeN_all isShift kindEq intOp iAdd iSub iMul iLss iLeq iGtr iGeq iEql iNeq iShl iShr iQuo iRem V.cells V.isCell allCells partOf splice over placeOfField elemPlace knownFs aggOpt zeroOf isU8 isIface
  afterLoop afterScope asCode strOp undefV isConst not_false_eq_true
  List.getElem?_cons_succ List.getElem?_cons_zero S.new S.rd S.wr nat_ne ble_t ble_f beq_t beq_f ltI_t ltI_f eqI_t eqI_f isub_def iadd_def imul_def wrapQ_i64 wrapQ_u32 wrapQ_u8 iAnd_pred inside_in bytes_len bytes_all bytesOf_cells over_bytes repl_len1
attribute [local simp] by_fn by_ty by_ext by_ng by_oid by_orc ng_eq
attribute [local simp] fiOfFn fn224 bd224 rs224 nt224 body224 Tryz.f224 fn225 bd225 rs225 nt225 body225 Tryz.f225 fn263 bd263 rs263 nt263 body263 Tryz.f263 fn264 bd264 rs264 nt264 body264 Tryz.f264 fn283 bd283 rs283 nt283 body283 Tryz.f283 fn284 bd284 rs284 nt284 body284 Tryz.f284 fn320 bd320 rs320 nt320 body320 Tryz.f320 fn265 bd265 rs265 nt265 body265 Tryz.f265 fn226 bd226 rs226 nt226 body226 Tryz.f226 fn106 bd106 rs106 nt106 body106 Tryz.f106 ty3 t3 ty4 t4 ty166 t166 ty181 t181 ty230 t230 ty268 t268 ty214 t214
attribute [local simp] byEq3 loopN loops drawN draws rangN rangs
/-! one after another: what the order is -/
def leP (p q : Int × Int) : Prop := p.1 < q.1 ∨ (p.1 = q.1 ∧ p.2 ≤ q.2)
theorem lt_le {p q : Int × Int} (h : ltP p q = true) : leP p q := by
  unfold ltP at h; rw [eqI_dec, ltI_dec, ltI_dec] at h
  by_cases e : p.1 = q.1
  · simp [e] at h; exact .inr ⟨e, by omega⟩
  · simp [e] at h; exact .inl h
theorem nlt_le {p q : Int × Int} (h : ltP p q = false) : leP q p := by
  unfold ltP at h; rw [eqI_dec, ltI_dec, ltI_dec] at h
  by_cases e : p.1 = q.1
  · simp [e] at h; exact .inr ⟨e.symm, by omega⟩
  · simp [e] at h; exact .inl (by omega)
theorem le_trans' {p q r : Int × Int} (h : leP p q) (g : leP q r) : leP p r := by
  unfold leP at *; omega
theorem le_anti {p q : Int × Int} (h : leP p q) (g : leP q p) : p = q := by
  unfold leP at *
  exact Prod.ext (by omega) (by omega)
abbrev Srt (l : List (Int × Int)) : Prop := l.Pairwise leP
theorem srt_eq : ∀ {l m : List (Int × Int)}, Srt l → Srt m → l.Perm m → l = m
  | [], m, _, _, h => h.nil_eq
  | x :: l, [], _, _, h => by simp at h
  | x :: l, y :: m, hl, hm, h => by
    have hxy : x = y := by
      have h1 : x ∈ y :: m := h.subset (by simp)
      have h2 : y ∈ x :: l := h.symm.subset (by simp)
      rcases List.mem_cons.1 h1 with e | h1
      · exact e
      · rcases List.mem_cons.1 h2 with e | h2
        · exact e.symm
        · exact le_anti ((List.pairwise_cons.1 hl).1 y h2) ((List.pairwise_cons.1 hm).1 x h1)
    subst hxy
    rw [srt_eq (List.pairwise_cons.1 hl).2 (List.pairwise_cons.1 hm).2 (List.Perm.cons_inv h)]
theorem ins_perm (p : Int × Int) : ∀ l, (insP p l).Perm (p :: l)
  | [] => .refl _
  | q :: l => by
    simp only [insP]
    cases ltP p q with
    | true => exact .refl _
    | false => exact (List.Perm.cons q (ins_perm p l)).trans (List.Perm.swap p q l)
theorem ins_srt (p : Int × Int) : ∀ {l}, Srt l → Srt (insP p l)
  | [], _ => by simp [insP, Srt]
  | q :: l, h => by
    simp only [insP]
    obtain ⟨h1, h2⟩ := List.pairwise_cons.1 h
    cases hl : ltP p q with
    | true =>
      refine List.pairwise_cons.2 ⟨fun z hz => ?_, h⟩
      rcases List.mem_cons.1 hz with rfl | hz
      · exact lt_le hl
      · exact le_trans' (lt_le hl) (h1 z hz)
    | false =>
      refine List.pairwise_cons.2 ⟨fun z hz => ?_, ins_srt p h2⟩
      rcases List.mem_cons.1 ((ins_perm p l).subset hz) with rfl | hz
      · exact nlt_le hl
      · exact h1 z hz
theorem sort_perm : ∀ l, (sortP l).Perm l
  | [] => .refl _
  | p :: l => (ins_perm p _).trans (List.Perm.cons p (sort_perm l))
theorem sort_srt : ∀ l, Srt (sortP l)
  | [] => List.Pairwise.nil
  | p :: l => ins_srt p (sort_srt l)
theorem bub_perm (x : Int × Int) : ∀ f back, (bub x f back).Perm (x :: (f.reverse ++ back))
  | [], back => .refl _
  | y :: f, back => by
    simp only [bub]
    cases ltP x y with
    | true => exact (bub_perm x f (y :: back)).trans (by simp)
    | false =>
      simp only [cond_false, List.reverse_cons, List.append_assoc, List.singleton_append]
      exact (List.Perm.append_left _ (List.Perm.swap x y back)).trans List.perm_middle
/-- a list whose end is no more than what comes -/
theorem bub_srt (x : Int × Int) : ∀ f back, Srt (f.reverse ++ back) → (∀ z ∈ back, leP x z) → Srt (bub x f back)
  | [], back, h, hb => List.pairwise_cons.2 ⟨hb, by simpa using h⟩
  | y :: f, back, h, hb => by
    simp only [List.reverse_cons, List.append_assoc, List.singleton_append] at h
    simp only [bub]
    cases hl : ltP x y with
    | true =>
      refine bub_srt x f (y :: back) h fun z hz => ?_
      rcases List.mem_cons.1 hz with rfl | hz
      · exact lt_le hl
      · exact hb z hz
    | false =>
      simp only [cond_false]
      obtain ⟨h1, h2, h3⟩ := List.pairwise_append.1 h
      obtain ⟨h4, h5⟩ := List.pairwise_cons.1 h2
      refine List.pairwise_append.2 ⟨h1, List.pairwise_cons.2 ⟨fun z hz => ?_, List.pairwise_cons.2 ⟨hb, h5⟩⟩, fun a ha z hz => ?_⟩
      · rcases List.mem_cons.1 hz with rfl | hz
        · exact nlt_le hl
        · exact h4 z hz
      · rcases List.mem_cons.1 hz with rfl | hz
        · exact h3 a ha _ (by simp)
        · rcases List.mem_cons.1 hz with rfl | hz
          · exact le_trans' (h3 a ha y (by simp)) (nlt_le hl)
          · exact h3 a ha z (by simp [hz])
theorem insAll_perm : ∀ rest pre, (insAll pre rest).Perm (pre ++ rest)
  | [], pre => by simp [insAll]
  | x :: rest, pre => by
    simp only [insAll]
    refine (insAll_perm rest _).trans ?_
    have := bub_perm x pre.reverse []
    simp only [List.reverse_reverse, List.append_nil] at this
    exact (List.Perm.append_right rest this).trans (by simpa using List.perm_middle.symm)
theorem insAll_srt : ∀ rest pre, Srt pre → Srt (insAll pre rest)
  | [], pre, h => h
  | x :: rest, pre, h => insAll_srt rest _ (bub_srt x pre.reverse [] (by simpa using h) (by simp))
theorem insAll_sort {a : Int × Int} {rest l : List (Int × Int)} (h : (a :: rest).Perm l) : insAll [a] rest = sortP l :=
  srt_eq (insAll_srt rest [a] (by simp [Srt])) (sort_srt l) ((insAll_perm rest [a]).trans (h.trans (sort_perm l).symm))
end Go.Proofs.YtoenpafonldhoaaGreatDoor

namespace Go.Proofs.YtoenpafonldhoaaGreatDoor
open Go Go.AM
set_option linter.unusedSimpArgs false
set_option linter.unusedVariables false
set_option maxRecDepth 100000
set_option maxHeartbeats 4000000
attribute [local simp] run_succ task callTask ev evSeq evRegion_f evOps evCond evBlock exec1 guardOk guardNot notIs exec opMove opPick pickOf opAlloc allocOf opBox boxOf opBuild buildOf opLoad loadAt opStore storeAt putCells opNilCheck nilCheckOf
  opUn unOf opConvert convOf opIface ifaceOf opMakeFunc opMakeSlice makeSliceOf opSlice sliceOf sliceSl sub3 bounds3 boundOf bothOr opFieldAddr fieldAddrOf opField fieldOf opIndexAddr indexAddrOf opIndex indexOf opLookup opMapUpdate opExtract extractOf opPanic panicOf makeMapOf
  retV Q.val Q.opt Q.run after setTm putTm opd opds tmV Tr.get_put leaf_get ofV ofVA ofVL opBin binAt binOf binInt binStr eqOp eqInt eqBool eqPtr eqSlice eqMap eqFunc eqIface eqStr eqAgg isNilIface boolIs optV
  opBuildSlice buildSliceOf Env.desc fillV repl pairs opCall callOf extCall builtinOf type1 type2 head1 head2 builtinAppend isIntD lenOf srcOf appendAt roomOk dropN takeN noMore appendOn appendNew lenAt capAt builtinCopy
  afterBody AM.unwind resultsOf one afterCall orRet listTm takeN_all isShift kindEq intOp iAdd iSub iMul iLss iLeq iGtr iGeq iEql iNeq iShl iShr iQuo iRem V.cells V.isCell allCells partOf splice over placeOfField elemPlace knownFs aggOpt zeroOf isU8 isIface
  afterLoop afterScope asCode strOp undefV isConst not_false_eq_true
  List.getElem?_cons_succ List.getElem?_cons_zero S.new S.rd S.wr nat_ne ble_t ble_f beq_t beq_f ltI_t ltI_f eqI_t eqI_f isub_def iadd_def imul_def wrapQ_i64 wrapQ_u32 wrapQ_u8 iAnd_pred inside_in bytes_len bytes_all bytesOf_cells over_bytes repl_len1
attribute [local simp] by_fn by_ty by_ext by_ng by_oid by_orc ng_eq
attribute [local simp] fiOfFn fn224 bd224 rs224 nt224 body224 Tryz.f224 fn225 bd225 rs225 nt225 body225 Tryz.f225 fn263 bd263 rs263 nt263 body263 Tryz.f263 fn264 bd264 rs264 nt264 body264 Tryz.f264 fn283 bd283 rs283 nt283 body283 Tryz.f283 fn284 bd284 rs284 nt284 body284 Tryz.f284 fn320 bd320 rs320 nt320 body320 Tryz.f320 fn265 bd265 rs265 nt265 body265 Tryz.f265 fn226 bd226 rs226 nt226 body226 Tryz.f226 fn106 bd106 rs106 nt106 body106 Tryz.f106 ty3 t3 ty4 t4 ty166 t166 ty181 t181 ty230 t230 ty268 t268 ty214 t214
attribute [local simp] byEq3 loopN loops drawN draws rangN rangs
theorem pairKey_spec {v : V} {p : Int × Int} (h : pairKey v = some p) : v = .agg [.int .i64 p.1, .int .i64 p.2] ∧ SmallP p := by
  unfold pairKey at h
  split at h
  · rename_i l
    split at h
    · split at h
      · split at h
        · rename_i a _ b _ 
          cases hs : and (smallI a) (smallI b) with
          | false => rw [hs] at h; cases h
          | true =>
            rw [hs] at h
            simp only [cond_true, Option.some.injEq] at h
            subst h
            simp only [Bool.and_eq_true] at hs
            refine ⟨rfl, ?_⟩
            have key : ∀ x : Int, smallI x = true → 0 ≤ x ∧ x ≤ 1000000 := fun x hx => by
              cases x with
              | ofNat n => have := Nat.le_of_ble_eq_true hx; simp; omega
              | negSucc n => cases hx
            obtain ⟨h1, h2⟩ := key a hs.1
            obtain ⟨h3, h4⟩ := key b hs.2
            exact ⟨h1, h2, h3, h4⟩
        · cases h
      · cases h
    · cases h
  · cases h
theorem pairsOf_spec : ∀ {es : List (V × V × Nat)} {l : List (Int × Int)}, pairsOf es = some l → l = es.map keyP ∧ (∀ e ∈ es, ∃ a b, e.1 = .agg [.int .i64 a, .int .i64 b]) ∧ (∀ p ∈ l, SmallP p) ∧ NumsE (fun _ => False) es
  | [], l, h => by simp only [pairsOf, Option.some.injEq] at h; subst h; exact ⟨rfl, by simp, by simp, trivial⟩
  | e :: es, l, h => by
    simp only [pairsOf] at h
    cases hk : pairKey e.1 with
    | none => rw [hk] at h; cases h
    | some p =>
      rw [hk] at h
      cases hv : isNum e.2.1 with
      | false => rw [hv] at h; cases h
      | true =>
        rw [hv] at h
        simp only [cond_true] at h
        cases hp : pairsOf es with
        | none => rw [hp] at h; cases h
        | some l' =>
          rw [hp] at h
          simp only [Option.some.injEq] at h
          subst h
          obtain ⟨h1, h2, h3, h4⟩ := pairsOf_spec hp
          obtain ⟨k1, k2⟩ := pairKey_spec hk
          refine ⟨by simp [h1, keyP, k1], fun x hx => ?_, fun x hx => ?_, ?_, ?_, h4⟩
          · rcases List.mem_cons.1 hx with rfl | hx
            · exact ⟨_, _, k1⟩
            · exact h2 x hx
          · rcases List.mem_cons.1 hx with rfl | hx
            · exact k2
            · exact h3 x hx
          · rw [k1]; exact ⟨trivial, trivial, trivial⟩
          · unfold isNum at hv
            split at hv
            · rename_i hh; rw [hh]; trivial
            · cases hv
theorem nodup_spec : ∀ {l : List Nat}, nodupN l = true → l.Nodup
  | [], _ => List.nodup_nil
  | b :: l, h => by
    simp only [nodupN] at h
    cases hs : seenN b l with
    | true => rw [hs] at h; cases h
    | false =>
      rw [hs] at h
      refine List.nodup_cons.2 ⟨fun hm => ?_, nodup_spec h⟩
      rw [seenN_eq] at hs
      simp at hs; exact hs hm
theorem bornL_eq : ∀ es : List (V × V × Nat), bornL es = es.map (·.2.2)
  | [] => rfl
  | e :: es => by simp [bornL, bornL_eq es]
theorem flat_nums : ∀ (l : List (Int × Int)) (i : Nat) (c : V), (flatP l)[i]? = some c → Nums (fun _ => False) c
  | [], i, c, h => by simp [flatP] at h
  | p :: l, 0, c, h => by simp [flatP] at h; subst h; trivial
  | p :: l, 1, c, h => by simp [flatP] at h; subst h; trivial
  | p :: l, i + 2, c, h => flat_nums l i c (by simpa [flatP] using h)
theorem seqArg_spec {seq b : Nat} {v : V} (h : seqArg seq v = some b) : v = .func seq [] [.ptr (some (b, 0))] := by
  unfold seqArg at h
  repeat' split at h
  all_goals try (cases h; done)
  rw [Bool.cond_eq_ite] at h
  split at h
  · rename_i hb
    have hb := Nat.eq_of_beq_eq_true hb
    cases h; subst hb; rfl
  · cases h
theorem cmpArg_spec {c : Nat} {v : V} (h : cmpArg c v = true) : v = .func c [] [] := by
  unfold cmpArg at h
  repeat' split at h
  all_goals try (cases h; done)
  have h := Nat.eq_of_beq_eq_true h
  subst h; rfl

theorem call264_nil (ω : Nat → Nat) (i k : Nat) (s : S) : run (E.by ω i) (k + 9) (.call 264 [.slice none 0 (.exact 0), .func 226 [] []] none) s = .ret (.tuple []) false s := by kernel_rfl
attribute [local simp] ext263 ext264 ext224
/-- the call, whatever the order -/
theorem call224 (ω : Nat → Nat) (n b m clock : Nat) (s : S) (es : List (V × V × Nat)) (l : List (Int × Int)) (opn : Nat) (ro : Bool) (hl : pairsOf es = some l) (h1 : allOld clock es = true) (h2 : nodupN (bornL es) = true) (h3 : l.length ≤ 12)
   (ob : s.h.get b = some (.cells [.map (some m)] opn ro)) (om : s.h.get m = some (.map es clock true)) (oc : s.h.get n = some (.cnt 0)) (hb : n < s.n ∧ m < s.n ∧ b < s.n) (hd : n ≠ m) :
   ∃ v0 rc s', run (E.by ω n) 60 (.call 224 [.func 265 [] [.ptr (some (b, 0))], .func 226 [] []] none) s = .ret v0 rc s' ∧ AnsOk (ansP l) v0 s' ∧ s'.h.get m = s.h.get m := by
  obtain ⟨hl1, hkey, hsm, hnum⟩ := pairsOf_spec hl
  have hnd : (es.map (·.2.2)).Nodup := by rw [← bornL_eq]; exact nodup_spec h2
  have hlen : es.length ≤ 12 := by rw [hl1] at h3; simpa using h3
  have hb' := hb
  obtain ⟨b1, b2, b3⟩ := hb'
  -- what is gathered
  obtain ⟨s1, cur, l', e1, e2, e3, e4, e5⟩ : ∃ s1 cur l', run (E.by ω n) 59 (.call 263 [.func 265 [] [.ptr (some (b, 0))]] none) s = .ret cur false s1 ∧ Cur (s.n + 1) s1 cur l' ∧ l'.Perm l ∧ (∀ i, i < s.n → i ≠ n → s1.h.get i = s.h.get i) ∧ s.n ≤ s1.n := by
    match es, hl1, hkey, hnd, hlen, om, h1 with
    | [], hl1, _, _, _, om, _ =>
      obtain ⟨s', q1, q2, q3⟩ := call263_nil ω n m b clock 59 s opn ro ob om (by omega) hb
      exact ⟨s', _, [], q1, .none, by rw [hl1]; exact .refl _, q2, q3⟩
    | [(k, v, c)], hl1, hkey, _, _, om, h1 =>
      obtain ⟨x, y, hxy⟩ := hkey (k, v, c) (by simp)
      simp only at hxy; subst hxy
      have hc : c < clock := by
        simp only [allOld] at h1
        cases hh : Nat.ble (Nat.succ c) clock with
        | true => exact Nat.le_of_ble_eq_true hh
        | false => rw [hh] at h1; cases h1
      obtain ⟨s', cur', q1, q2, q3, q4⟩ := call263_one ω n m b clock 59 c s opn ro x y v ob om hc (by omega) hb
      exact ⟨s', cur', _, q1, q2, by rw [hl1]; simp [keyP], q3, q4⟩
    | x :: y :: es, hl1, hkey, hnd, hlen, om, h1 =>
      simp only [List.length_cons] at hlen
      obtain ⟨s', cur', l', q1, q2, q3, q4, q5⟩ := call263 (r := run (E.by ω n) 59 (.call 263 [.func 265 [] [.ptr (some (b, 0))]] none) s) rfl (by omega) (by omega) ob om ⟨0, oc⟩ hb hd h1 hnd hkey
      exact ⟨s', cur', l', q1, q2, by rw [hl1]; exact q3, q4, q5⟩
  -- what is sorted
  have em := e4 m b2 (Ne.symm hd)
  cases e2 with
  | none =>
    have hl0 : l = [] := e3.symm.eq_nil
    subst hl0
    rw [run_succ]
    generalize hS : run (E.by ω n) 59 = self at e1 ⊢
    refine cpsT (P := fun r => ∃ v0 rc s', r = .ret v0 rc s' ∧ AnsOk (ansP []) v0 s' ∧ s'.h.get m = s.h.get m) fun Q H => ?_
    have e6 : self (.call 264 [.slice none 0 (.exact 0), .func 226 [] []] none) s1 = .ret (.tuple []) false s1 := by rw [← hS]; exact call264_nil ω n 50 s1
    simp (maxSteps := 1000000) (disch := omega) [e1, e6]
    exact H _ ⟨_, _, _, rfl, ⟨rfl, trivial⟩, em⟩
  | some d q _ q0 q1 qn qn1 q2 =>
    obtain ⟨a, rest, rfl⟩ : ∃ a rest, l' = a :: rest := by
      cases l' with
      | nil => exact absurd qn (by simp; omega)
      | cons a rest => exact ⟨a, rest, rfl⟩
    have hll : l.length = q := by rw [qn]; exact e3.length_eq.symm
    obtain ⟨v, s2, e6, rfl, z1, z2, z3⟩ := call264 (r := run (E.by ω n) 59 (.call 264 [.slice (some (d, 0)) q (.opn 0), .func 226 [] []] none) s1) rfl (by omega) (by simp at qn; omega) (by omega) (fun y hy => hsm y (e3.subset hy)) q2 q1 (by omega)
    rw [insAll_sort e3] at z1
    rw [run_succ]
    generalize hS : run (E.by ω n) 59 = self at e1 e6 ⊢
    refine cpsT (P := fun r => ∃ v0 rc s', r = .ret v0 rc s' ∧ AnsOk (ansP l) v0 s' ∧ s'.h.get m = s.h.get m) fun Q H => ?_
    simp (maxSteps := 1000000) (disch := omega) [e1, e6]
    refine H _ ⟨_, _, _, rfl, ?_, by rw [z3 m (by omega) (by omega)]; exact em⟩
    cases l with
    | nil => exact absurd hll (by simp; omega)
    | cons p l => exact ⟨d, by rw [← hll], z1, flat_nums _⟩
end Go.Proofs.YtoenpafonldhoaaGreatDoor

namespace Go.Proofs.YtoenpafonldhoaaGreatDoor
open Go Go.AM
set_option linter.unusedSimpArgs false
set_option linter.unusedVariables false
set_option maxRecDepth 100000
set_option maxHeartbeats 4000000
attribute [local simp] run_succ task callTask ev evSeq evRegion_f evOps evCond evBlock exec1 guardOk guardNot notIs exec opMove opPick pickOf opAlloc allocOf opBox boxOf opBuild buildOf opLoad loadAt opStore storeAt putCells opNilCheck nilCheckOf
  opUn unOf opConvert convOf opIface ifaceOf opMakeFunc opMakeSlice makeSliceOf opSlice sliceOf sliceSl sub3 bounds3 boundOf bothOr opFieldAddr fieldAddrOf opField fieldOf opIndexAddr indexAddrOf opIndex indexOf opLookup opMapUpdate opExtract extractOf opPanic panicOf makeMapOf
  retV Q.val Q.opt Q.run after setTm putTm opd opds tmV Tr.get_put leaf_get ofV ofVA ofVL opBin binAt binOf binInt binStr eqOp eqInt eqBool eqPtr eqSlice eqMap eqFunc eqIface eqStr eqAgg isNilIface boolIs optV
  opBuildSlice buildSliceOf Env.desc fillV repl pairs opCall callOf extCall builtinOf type1 type2 head1 head2 builtinAppend isIntD lenOf srcOf appendAt roomOk dropN takeN noMore appendOn appendNew lenAt capAt builtinCopy
  afterBody AM.unwind resultsOf one afterCall orRet listTm takeN_all isShift kindEq intOp iAdd iSub iMul iLss iLeq iGtr iGeq iEql iNeq iShl iShr iQuo iRem V.cells V.isCell allCells partOf splice over placeOfField elemPlace knownFs aggOpt zeroOf isU8 isIface
  afterLoop afterScope asCode strOp undefV isConst not_false_eq_true
  List.getElem?_cons_succ List.getElem?_cons_zero S.new S.rd S.wr nat_ne ble_t ble_f beq_t beq_f ltI_t ltI_f eqI_t eqI_f isub_def iadd_def imul_def wrapQ_i64 wrapQ_u32 wrapQ_u8 iAnd_pred inside_in bytes_len bytes_all bytesOf_cells over_bytes repl_len1
attribute [local simp] by_fn by_ty by_ext by_ng by_oid by_orc ng_eq
attribute [local simp] fiOfFn fn224 bd224 rs224 nt224 body224 Tryz.f224 fn225 bd225 rs225 nt225 body225 Tryz.f225 fn263 bd263 rs263 nt263 body263 Tryz.f263 fn264 bd264 rs264 nt264 body264 Tryz.f264 fn283 bd283 rs283 nt283 body283 Tryz.f283 fn284 bd284 rs284 nt284 body284 Tryz.f284 fn320 bd320 rs320 nt320 body320 Tryz.f320 fn265 bd265 rs265 nt265 body265 Tryz.f265 fn226 bd226 rs226 nt226 body226 Tryz.f226 fn106 bd106 rs106 nt106 body106 Tryz.f106 ty3 t3 ty4 t4 ty166 t166 ty181 t181 ty230 t230 ty268 t268 ty214 t214
attribute [local simp] byEq3 loopN loops drawN draws rangN rangs
theorem fn224_some : (E.fn 224).isSome = true := by kernel_rfl
theorem ng8 : E.ng = 8 := rfl
theorem lcl_ans : ∀ a : Ans, Lcl (a.put)
  | .val v => lcl_ret
  | .cells n cap ds opn => by
    exact lcl_new (F := fun n' s => TR.ret (.slice (some (n', 0)) n cap) false s) (fun _ => Ob.cells ds opn false) (fun n' => lcl_ret)
theorem lcl_sortM (es : List (V × V × Nat)) (clock : Nat) : Lcl (sortM es clock) := by
  unfold sortM
  cases and (allOld clock es) (nodupN (bornL es)) with
  | false => exact lcl_fail rfl
  | true =>
    simp only [cond_true]
    cases pairsOf es with
    | none => exact lcl_fail rfl
    | some l =>
      simp only
      cases Nat.ble l.length 12 with
      | false => exact lcl_fail rfl
      | true => exact lcl_ans _
theorem lcl_sortO (m : Nat) : ∀ o, LclW (some m) (sortO m o)
  | none => lcl_fail rfl
  | some (.map es clock true) => lcl_rd m (lcl_sortM es clock)
  | some (.map _ _ false) => lcl_fail rfl
  | some (.cells _ _ _) => lcl_fail rfl
  | some (.mapIter _ _ _ _) => lcl_fail rfl
  | some (.loop ..) => lcl_fail rfl
  | some .defd => lcl_fail rfl
  | some (.cnt _) => lcl_fail rfl
theorem lcl_sortB (b : Nat) (o : Option Ob) : LclW (some b) (sortB b o) := by
  unfold sortB
  split
  · split
    · split
      · rename_i m _
        exact lcl_rd (F := fun s => sortO m (s.h.get m) s) b (lcl_get (G := fun o s => sortO m o s) m (fun o => lcl_sortO m o)).none
      · exact lcl_fail rfl
    · exact lcl_fail rfl
  · exact lcl_fail rfl
theorem lcl_sortQ (b : Nat) : Lcl (sortQ b) := (lcl_get (G := fun o s => sortB b o s) b (fun o => lcl_sortB b o)).none

theorem sortQ_spec (b : Nat) (s : S) : (∃ w, sortQ b s = .fail w) ∨ ∃ m opn ro es clock l, s.h.get b = some (.cells [.map (some m)] opn ro) ∧ s.h.get m = some (.map es clock true) ∧ allOld clock es = true ∧ nodupN (bornL es) = true ∧ pairsOf es = some l ∧ l.length ≤ 12 ∧
    sortQ b s = (ansP l).put ((s.rd b).rd m) := by
  have hB : ∀ o, sortB b (s.h.get b) = o → sortQ b s = o s := fun o h => by unfold sortQ; rw [h]
  cases ob : s.h.get b with
  | none => exact .inl ⟨_, by rw [hB _ rfl, ob]; rfl⟩
  | some o =>
    cases o with
    | cells cs opn ro =>
      cases cs with
      | nil => exact .inl ⟨_, by rw [hB _ rfl, ob]; rfl⟩
      | cons v cs =>
        cases v with
        | map r =>
          cases r with
          | none => exact .inl ⟨_, by rw [hB _ rfl, ob]; rfl⟩
          | some m =>
            cases cs with
            | cons _ _ => exact .inl ⟨_, by rw [hB _ rfl, ob]; rfl⟩
            | nil =>
              have e1 : sortQ b s = sortO m (s.h.get m) (s.rd b) := by rw [hB _ rfl, ob]; rfl
              cases om : s.h.get m with
              | none => exact .inl ⟨_, by rw [e1, om]; rfl⟩
              | some o2 =>
                cases o2 with
                | map es clock ord =>
                  cases ord with
                  | false => exact .inl ⟨_, by rw [e1, om]; rfl⟩
                  | true =>
                    have e2 : sortQ b s = sortM es clock ((s.rd b).rd m) := by rw [e1, om]; rfl
                    unfold sortM at e2
                    cases hc : and (allOld clock es) (nodupN (bornL es)) with
                    | false => rw [hc] at e2; exact .inl ⟨_, e2⟩
                    | true =>
                      rw [hc] at e2
                      simp only [cond_true] at e2
                      cases hp : pairsOf es with
                      | none => rw [hp] at e2; exact .inl ⟨_, e2⟩
                      | some l =>
                        rw [hp] at e2
                        simp only at e2
                        cases h12 : Nat.ble l.length 12 with
                        | false => rw [h12] at e2; exact .inl ⟨_, e2⟩
                        | true =>
                          rw [h12] at e2
                          simp only [Bool.and_eq_true] at hc
                          exact .inr ⟨m, opn, ro, es, clock, l, rfl, om, hc.1, hc.2, hp, Nat.le_of_ble_eq_true h12, e2⟩
                | _ => exact .inl ⟨_, by rw [e1, om]; rfl⟩
        | _ => exact .inl ⟨_, by rw [hB _ rfl, ob]; rfl⟩
    | _ => exact .inl ⟨_, by rw [hB _ rfl, ob]; rfl⟩
theorem sort_ok {b : Nat} : QOk E Tryz.prog 224 [.func 265 [] [.ptr (some (b, 0))], .func 226 [] []] (sortQ b) where
  fn h := by have := fn224_some; rw [h] at this; cases this
  lcl := lcl_sortQ b
  call := by
    intro s φ w cargs cs kind hg hrel ha hpk hk
    rcases sortQ_spec b s with ⟨why, e⟩ | ⟨m, opn, ro, es, clock, l, ob, om, hc1, hc2, hp, h12, e⟩
    · rw [e]; trivial
    · rw [e]
      have hbn : b < s.n := by
        obtain ⟨lb, e, _⟩ := hrel.obj b _ ob
        exact Nat.lt_of_not_le fun h => by rw [hrel.dom b h] at e; cases e
      have hmn : m < s.n := by
        obtain ⟨lb, e, _⟩ := hrel.obj m _ om
        exact Nat.lt_of_not_le fun h => by rw [hrel.dom m h] at e; cases e
      have h8 : 8 ≤ s.n := by
        obtain ⟨lb, e, _⟩ := hg 7 (by rw [ng8]; omega)
        exact Nat.lt_of_not_le fun h => by rw [hrel.dom 7 h] at e; cases e
      have hbm : b ≠ m := fun e => by subst e; rw [ob] at om; cases om
      have hrel2 : Rel φ ((s.rd b).rd m) w := (hrel.rd b).rd m
      obtain ⟨hl1, hkey, hsm, hnum⟩ := pairsOf_spec hp
      let s0 : S := ⟨((Tr.leaf.put b (some (.cells [.map (some m)] opn true))).put m (some (.map es clock true))).put s.n (some (.cnt 0)), s.n + 1, []⟩
      have hget : ∀ id, s0.h.get id = if id = s.n then some (.cnt 0) else if id = m then some (.map es clock true) else if id = b then some (.cells [.map (some m)] opn true) else none := fun id => by
        simp only [s0, Tr.get_put]; rfl
      exact beside_any (f := 224) (args := [.func 265 [] [.ptr (some (b, 0))], .func 226 [] []]) (n := s.n) (ans := ansP l) (N := 60) (s := (s.rd b).rd m) (s0 := s0) (keep := some m) E_ok (by rw [ng8]; omega) (by rw [ng8]; exact h8) rfl (by rw [hget, if_pos rfl])
        (fun id o ho => by
          rw [hget] at ho
          by_cases h1 : id = s.n
          · rw [if_pos h1] at ho; cases ho; exact .inl ⟨h1, rfl⟩
          · rw [if_neg h1] at ho
            by_cases h2 : id = m
            · rw [if_pos h2] at ho; cases ho; subst h2
              exact .inr (.inr ⟨hmn, rfl, es, clock, rfl, om, hnum⟩)
            · rw [if_neg h2] at ho
              by_cases h3 : id = b
              · rw [if_pos h3] at ho; cases ho; subst h3
                exact .inr (.inl ⟨hbn, _, _, ro, rfl, ob, ⟨hmn, trivial⟩⟩)
              · rw [if_neg h3] at ho; cases ho)
        ⟨⟨trivial, hbn, trivial⟩, ⟨trivial, trivial⟩, trivial⟩
        (fun m' e => by cases e; exact ⟨hmn, es, clock, om, hnum⟩)
        (fun ω => by
          obtain ⟨v0, rc, s', q1, q2, q3⟩ := call224 ω s.n b m clock s0 es l opn true hp hc1 hc2 h12
            (by rw [hget, if_neg (by omega), if_neg hbm, if_pos rfl]) (by rw [hget, if_neg (by omega), if_pos rfl]) (by rw [hget, if_pos rfl]) ⟨Nat.lt_succ_self _, Nat.lt_succ_of_lt hmn, Nat.lt_succ_of_lt hbn⟩ (by omega)
          refine ⟨v0, rc, s', q1, q2, fun m' e => ?_⟩
          cases e
          rw [q3, hget, if_neg (by omega), if_pos rfl]; exact om.symm)
        hg hrel2 ha hpk hk
theorem ovS_ok : OvOk E Tryz.prog (ovS 224 265 226) := fun f args q h => by
  unfold ovS at h
  cases hf : Nat.beq f 224 with
  | false => rw [hf] at h; cases h
  | true =>
    rw [hf] at h
    have hf : f = 224 := by simpa using hf
    subst hf
    simp only [cond_true] at h
    split at h
    · split at h
      · split at h
        · rename_i x _ y _
          split at h
          · rename_i b hx
            cases hy : cmpArg 226 y with
            | false => rw [hy] at h; cases h
            | true =>
              rw [hy] at h
              simp only [cond_true, Option.some.injEq] at h
              subst h
              rw [seqArg_spec hx, cmpArg_spec hy]
              exact sort_ok
          · cases h
        · cases h
      · cases h
    · cases h
end Go.Proofs.YtoenpafonldhoaaGreatDoor

