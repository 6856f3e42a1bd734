/- What the memory of a machine that has done nothing comes to in the abstract machine. No condition. -/
import Derived.Test.YtfcakcaepbmefaaWb
namespace Go.Proofs.Ytfcakcaepbmefaa
open Go Go.AM
set_option linter.unusedSimpArgs false
set_option linter.unusedVariables false
set_option linter.all false
set_option maxRecDepth 100000
set_option maxHeartbeats 4000000
attribute [local simp] run_succ task callTask ev evSeq evRegion_f evOps evCond evBlock exec1 guardOk guardNot notIs exec opMove opPick pickOf opAlloc allocOf opBox boxOf opBuild buildOf opLoad loadAt opStore storeAt putCells opNilCheck nilCheckOf
  opUn unOf opConvert convOf opIface ifaceOf opMakeFunc opMakeSlice makeSliceOf opSlice sliceOf sliceSl sub3 bounds3 boundOf bothOr opFieldAddr fieldAddrOf opField fieldOf opIndexAddr indexAddrOf opIndex indexOf inside opLookup opMapUpdate opExtract extractOf opPanic panicOf makeMapOf
  retV Q.val Q.opt Q.run after setTm putTm opd opds tmV Tr.get_put leaf_get ofV ofVA ofVL opBin binAt binOf binInt binStr eqOp eqInt eqBool eqPtr eqSlice eqMap eqFunc eqIface eqStr eqAgg isNilIface boolIs optV
  opBuildSlice buildSliceOf Env.desc fillV repl pairs opCall callOf extCall builtinOf type1 type2 head1 head2 builtinAppend isIntD lenOf srcOf appendAt roomOk dropN takeN noMore appendOn appendNew lenAt capAt builtinCopy
  afterBody AM.unwind resultsOf one afterCall orRet listTm takeN_all isShift kindEq intOp iAdd iSub iMul iLss iLeq iGtr iGeq iEql iNeq iShl iShr iQuo iRem V.cells V.isCell allCells partOf splice over placeOfField elemPlace knownFs aggOpt zeroOf isU8 isIface
  afterLoop afterScope asCode strOp undefV isConst not_false_eq_true
  List.getElem?_cons_succ List.getElem?_cons_zero S.new S.rd S.wr nat_ne ble_t ble_f beq_t beq_f ltI_t ltI_f eqI_t eqI_f isub_def iadd_def imul_def wrapQ_i64 wrapQ_u32 wrapQ_u8 iAnd_pred inside_in bytes_len bytes_all bytesOf_cells over_bytes repl_len1
attribute [local simp] ng_eq ext_eq
attribute [local simp] fiOfFn fn3 bd3 rs3 nt3 body3 Try.f3 fn4 bd4 rs4 nt4 body4 Try.f4 fn5 bd5 rs5 nt5 body5 Try.f5 fn6 bd6 rs6 nt6 body6 Try.f6 fn7 bd7 rs7 nt7 body7 Try.f7 fn8 bd8 rs8 nt8 body8 Try.f8 fn9 bd9 rs9 nt9 body9 Try.f9 fn10 bd10 rs10 nt10 body10 Try.f10 fn11 bd11 rs11 nt11 body11 Try.f11 fn12 bd12 rs12 nt12 body12 Try.f12 fn13 bd13 rs13 nt13 body13 Try.f13 fn14 bd14 rs14 nt14 body14 Try.f14 fn15 bd15 rs15 nt15 body15 Try.f15 fn16 bd16 rs16 nt16 body16 Try.f16 fn17 bd17 rs17 nt17 body17 Try.f17 fn18 bd18 rs18 nt18 body18 Try.f18 fn19 bd19 rs19 nt19 body19 Try.f19 fn20 bd20 rs20 nt20 body20 Try.f20 fn21 bd21 rs21 nt21 body21 Try.f21 fn22 bd22 rs22 nt22 body22 Try.f22 fn23 bd23 rs23 nt23 body23 Try.f23 fn24 bd24 rs24 nt24 body24 Try.f24 fn25 bd25 rs25 nt25 body25 Try.f25 fn26 bd26 rs26 nt26 body26 Try.f26 fn27 bd27 rs27 nt27 body27 Try.f27 fn28 bd28 rs28 nt28 body28 Try.f28 fn29 bd29 rs29 nt29 body29 Try.f29 fn30 bd30 rs30 nt30 body30 Try.f30 fn31 bd31 rs31 nt31 body31 Try.f31 fn32 bd32 rs32 nt32 body32 Try.f32 fn33 bd33 rs33 nt33 body33 Try.f33 fn34 bd34 rs34 nt34 body34 Try.f34 fn35 bd35 rs35 nt35 body35 Try.f35 fn36 bd36 rs36 nt36 body36 Try.f36 fn37 bd37 rs37 nt37 body37 Try.f37 fn38 bd38 rs38 nt38 body38 Try.f38 fn39 bd39 rs39 nt39 body39 Try.f39 fn40 bd40 rs40 nt40 body40 Try.f40 fn41 bd41 rs41 nt41 body41 Try.f41 fn42 bd42 rs42 nt42 body42 Try.f42 fn43 bd43 rs43 nt43 body43 Try.f43 fn44 bd44 rs44 nt44 body44 Try.f44 fn45 bd45 rs45 nt45 body45 Try.f45 fn46 bd46 rs46 nt46 body46 Try.f46 fn47 bd47 rs47 nt47 body47 Try.f47 fn48 bd48 rs48 nt48 body48 Try.f48 fn49 bd49 rs49 nt49 body49 Try.f49 fn50 bd50 rs50 nt50 body50 Try.f50 fn51 bd51 rs51 nt51 body51 Try.f51 fn52 bd52 rs52 nt52 body52 Try.f52 fn53 bd53 rs53 nt53 body53 Try.f53 fn54 bd54 rs54 nt54 body54 Try.f54 fn55 bd55 rs55 nt55 body55 Try.f55 fn56 bd56 rs56 nt56 body56 Try.f56 fn57 bd57 rs57 nt57 body57 Try.f57 fn58 bd58 rs58 nt58 body58 Try.f58 fn59 bd59 rs59 nt59 body59 Try.f59 fn60 bd60 rs60 nt60 body60 Try.f60 fn61 bd61 rs61 nt61 body61 Try.f61 fn62 bd62 rs62 nt62 body62 Try.f62 fn63 bd63 rs63 nt63 body63 Try.f63 fn64 bd64 rs64 nt64 body64 Try.f64 fn65 bd65 rs65 nt65 body65 Try.f65 fn66 bd66 rs66 nt66 body66 Try.f66 fn67 bd67 rs67 nt67 body67 Try.f67 fn68 bd68 rs68 nt68 body68 Try.f68 fn69 bd69 rs69 nt69 body69 Try.f69 fn70 bd70 rs70 nt70 body70 Try.f70 fn71 bd71 rs71 nt71 body71 Try.f71 fn72 bd72 rs72 nt72 body72 Try.f72 fn73 bd73 rs73 nt73 body73 Try.f73 fn74 bd74 rs74 nt74 body74 Try.f74 fn75 bd75 rs75 nt75 body75 Try.f75 fn76 bd76 rs76 nt76 body76 Try.f76 fn77 bd77 rs77 nt77 body77 Try.f77 fn78 bd78 rs78 nt78 body78 Try.f78 fn79 bd79 rs79 nt79 body79 Try.f79 fn80 bd80 rs80 nt80 body80 Try.f80 fn81 bd81 rs81 nt81 body81 Try.f81 fn82 bd82 rs82 nt82 body82 Try.f82 fn83 bd83 rs83 nt83 body83 Try.f83 fn84 bd84 rs84 nt84 body84 Try.f84 ty2 t2 ty3 t3 ty4 t4 ty5 t5 ty9 t9 ty22 t22 ty23 t23 ty25 t25 ty26 t26 ty27 t27 ty28 t28 ty33 t33 ty34 t34 ty43 t43 ty45 t45 ty46 t46 ty47 t47 ty49 t49 ty51 t51 ty52 t52 ty54 t54 ty57 t57 ty59 t59 ty61 t61 ty66 t66 ty67 t67 ty68 t68 ty69 t69 ty71 t71 ty72 t72 ty73 t73 ty75 t75 ty76 t76 ty78 t78 ty82 t82 ty84 t84 ty87 t87 ty88 t88 ty89 t89 ty90 t90 ty92 t92 ty95 t95 ty98 t98 ty102 t102 ty103 t103 ty112 t112 ty113 t113 ty115 t115 ty120 t120 ty121 t121 ty122 t122 ty124 t124 ty128 t128 ty131 t131 ty133 t133 ty135 t135 ty137 t137 ty139 t139 ty142 t142 ty143 t143 ty145 t145 ty147 t147 ty148 t148 ty151 t151 ty152 t152 ty154 t154 ty158 t158 ty164 t164 ty172 t172 ty173 t173 ty175 t175 ty176 t176 ty178 t178 ty185 t185 ty190 t190 ty193 t193 ty195 t195 ty196 t196 ty213 t213 ty215 t215
attribute [local simp] eqv2 eqv3 eqv4 eqv5 eqv9 eqv22 eqv23 eqv26 eqv27 eqv28 eqv33 eqv34 eqv43 eqv45 eqv46 eqv47 eqv52 eqv57 eqv67 eqv68 eqv69 eqv72 eqv73 eqv76 eqv82 eqv84 eqv87 eqv88 eqv89 eqv90 eqv95 eqv98 eqv103 eqv112 eqv121 eqv122 eqv128 eqv135 eqv143 eqv145 eqv148 eqv151 eqv152 eqv158 eqv176 eqv190 eqv195 eqv196 eqv213
section
attribute [local simp] loopN loops drawN draws
theorem Ready_of {k : Nat} {s : S} {lo : Nat} {p : V} {r : TR} (hr : run E k (.call 55 [p] none) s = r) (hk : 2 ≤ k) (h : Net s lo p) : ∃ s', r = .ret (.slice none 0 (.exact 0)) false s' ∧ Ext s s' := by
  subst hr
  obtain ⟨k, rfl⟩ := fuel_le hk
  obtain ⟨i, rfl, h1, h2, h3⟩ := h
  refine ⟨_, by simp (maxSteps := 1000000) (disch := omega) [h3] <;> first | done | exact rfl | exact ⟨rfl, rfl⟩ | exact ⟨rfl, rfl, rfl⟩, ⟨by simp only; omega, fun i hi => by simp (disch := omega)⟩⟩
theorem Given_of {k : Nat} {s : S} {lo : Nat} {p : V} {r : TR} (hr : run E k (.call 56 [p] none) s = r) (hk : 2 ≤ k) (h : Cac s lo p) : ∃ s', r = .ret (.tuple [.agg zline, .bool false]) false s' ∧ Ext s s' := by
  subst hr
  obtain ⟨k, rfl⟩ := fuel_le hk
  obtain ⟨i, id, q, rfl, h1, h2, h3, h4⟩ := h
  refine ⟨_, by simp (maxSteps := 1000000) (disch := omega) [h3, zline] <;> first | done | exact rfl | exact ⟨rfl, rfl⟩ | exact ⟨rfl, rfl, rfl⟩, ⟨by simp only; omega, fun i hi => by simp (disch := omega)⟩⟩
noncomputable def R78a : Array Oper := drawN body78 0
noncomputable def R78b : Array Oper := drawN body78 1
noncomputable def L78 : Code := loopN body78 0

theorem reg78a {self : Self} {s : S} {tm : Tr V} {i t sets r} {ways : Int} (hr : evRegion R78a true E self ⟨78, 40, none, none⟩ ⟨tm, [], false, 0⟩ s = r) (t0 : tm.get 0 = some (.ptr (some (i, 0))))
    (hi : i < s.n) (oi : s.h.get i = some (.cells [.slice (some (t, 0)) sets (.exact sets), .int .i64 ways] 0 false)) (hs : sets ≤ 64) :
    ∃ tm' s', r = .ok .normal ⟨tm', [], false, 0⟩ s' ∧ tm'.get 0 = some (.ptr (some (i, 0))) ∧ tm'.get 3 = some (.ptr (some (s.n + 1, 0))) ∧ s'.n = s.n + 2 ∧ Ext s s' ∧ s'.h.get (s.n + 1) = some (.cells [.slice (some (s.n, 0)) sets (.exact sets), .int .i64 ways] 0 false) ∧ s'.h.get s.n = some (.cells (repl sets [.slice none 0 (.exact 0)]) 0 false) := by
  subst hr
  refine ⟨_, _, by simp (maxSteps := 2000000) (disch := first | omega | decide +kernel) [evRegion, opsOk_t, ordered_t, ordered_f, evDraw, drawCx, consSeg, aliveOk, segsOk, segOk, apartOk, sameIns, AM.within, clash, hits, oldOf, logs, insOf, isInsert, noDst, insLg,  R78a, t0, oi] <;> first | done | exact rfl | exact ⟨rfl, rfl⟩ | exact ⟨rfl, rfl, rfl⟩, ?_⟩
  exact ⟨by simp (maxSteps := 1000000) (disch := omega) [t0], by simp (maxSteps := 1000000) (disch := omega), rfl, ⟨by simp only; omega, fun i hi => by simp (disch := omega)⟩, by simp (maxSteps := 1000000) (disch := omega), by simp (maxSteps := 1000000) (disch := omega)⟩
theorem reg78b {k : Nat} {s : S} {tm : Tr V} {i t q sets r} {ways : V} (hk : 1 ≤ k) (hr : evRegion R78b true E (run E k) ⟨78, 40, none, none⟩ ⟨tm, [], false, 0⟩ s = r) (t3 : tm.get 3 = some (.ptr (some (q, 0)))) (t4 : tm.get 4 = some (.int .i64 ((i : Nat) : Int))) (t5 : tm.get 5 = some (.slice none 0 (.exact 0)))
    (hq : q < s.n) (ht : t < s.n) (htq : t ≠ q) (oq : s.h.get q = some (.cells [.slice (some (t, 0)) sets (.exact sets), ways] 0 false)) (ot : s.h.get t = some (.cells (repl sets [.slice none 0 (.exact 0)]) 0 false)) (hi : i < sets) :
    ∃ tm' s', r = .ok .normal ⟨tm', [], false, 0⟩ s' ∧ (∀ j, j < 30 → tm'.get j = tm.get j) ∧ s'.n = s.n ∧ (∀ j, s'.h.get j = s.h.get j) := by
  subst hr
  obtain ⟨k, rfl⟩ := fuel_le hk
  have hsp := splice_repl (.slice none 0 (.exact 0)) sets i hi
  refine ⟨_, _, by simp (maxSteps := 2000000) (disch := first | omega | decide +kernel) [evRegion, opsOk_t, ordered_t, ordered_f, evDraw, drawCx, consSeg, aliveOk, segsOk, segOk, apartOk, sameIns, AM.within, clash, hits, oldOf, logs, insOf, isInsert, noDst, insLg,  R78b, t3, t4, t5, oq, ot, hsp] <;> first | done | exact rfl | exact ⟨rfl, rfl⟩ | exact ⟨rfl, rfl, rfl⟩, ?_⟩
  refine ⟨fun j hj => by simp (maxSteps := 1000000) (disch := omega), rfl, fun j => ?_⟩
  by_cases h : j = t
  · subst h; simp (maxSteps := 1000000) (disch := omega) [ot]
  · simp (maxSteps := 1000000) (disch := omega)
end
section
attribute [local simp] loopN loops
theorem iter78 {k i t sets : Nat} {s s0 : S} {tm : Tr V} {q tq r} {ways : V} (hk : 1 ≤ k) (hr : run E (k + 1) (.loop ⟨78, 40, none, none⟩ L78 ⟨tm, [], false, 0⟩) s = r)
    (t23 : tm.get 23 = some (.slice (some (t, 0)) sets (.exact sets))) (t24 : tm.get 24 = some (.int .i64 (sets : Int))) (t25 : tm.get 25 = some (.int .i64 (i : Int))) (t3 : tm.get 3 = some (.ptr (some (q, 0))))
    (hq : q < s.n) (ht : tq < s.n) (htq : tq ≠ q) (oq : s.h.get q = some (.cells [.slice (some (tq, 0)) sets (.exact sets), ways] 0 false)) (otq : s.h.get tq = some (.cells (repl sets [.slice none 0 (.exact 0)]) 0 false))
    (ht' : t < s.n) (ot : s.h.get t = some (.cells (repl sets [.slice none 0 (.exact 0)]) 0 false)) (hi : i < sets) (hs : sets ≤ 64) :
    ∃ tm' s', r = run E k (.loop ⟨78, 40, none, none⟩ L78 ⟨tm', [], false, 0⟩) s' ∧ s'.n = s.n ∧ (∀ j, s'.h.get j = s.h.get j) ∧
      tm'.get 23 = some (.slice (some (t, 0)) sets (.exact sets)) ∧ tm'.get 24 = some (.int .i64 (sets : Int)) ∧ tm'.get 25 = some (.int .i64 ((i + 1 : Nat) : Int)) ∧ tm'.get 3 = some (.ptr (some (q, 0))) := by
  subst hr
  obtain ⟨rst, hrst⟩ := dropN_repl (.slice none 0 (.exact 0)) sets i hi
  simp (maxSteps := 1000000) (disch := omega) [L78, t23, t24, t25, t3, ot, hrst]
  generalize hr : evRegion _ true E _ _ _ _ = r
  obtain ⟨tm', s', rfl, e1, e2, e3⟩ := reg78b (q := q) (t := tq) (i := i) (sets := sets) (ways := ways) hk hr (by simp (maxSteps := 1000000) (disch := omega) [t3]) (by simp (maxSteps := 1000000) (disch := omega)) (by simp (maxSteps := 1000000) (disch := omega)) (by simpa using hq) (by simpa using ht) htq (by simpa using oq) (by simpa using otq) hi; clear hr
  have f23 := (e1 23 (by omega)).trans (show _ = _ by simp (maxSteps := 1000000) (disch := omega) [t23]; rfl)
  have f24 := (e1 24 (by omega)).trans (show _ = _ by simp (maxSteps := 1000000) (disch := omega) [t24]; rfl)
  have f25 := (e1 25 (by omega)).trans (show _ = _ by simp (maxSteps := 1000000) (disch := omega) [t25]; rfl)
  have f3 := (e1 3 (by omega)).trans (show _ = _ by simp (maxSteps := 1000000) (disch := omega) [t3]; rfl)
  simp (maxSteps := 1000000) (disch := omega) [f23, f24, f25, f3]
  exact ⟨_, _, rfl, e2, e3, by simp (maxSteps := 1000000) (disch := omega) [f23], by simp (maxSteps := 1000000) (disch := omega) [f24], by simp (maxSteps := 1000000) (disch := omega), by simp (maxSteps := 1000000) (disch := omega) [f3]⟩
theorem loop78 {t sets q tq : Nat} {s0 : S} {ways : V}
    (hq : q < s0.n) (ht : tq < s0.n) (htq : tq ≠ q) (oq : s0.h.get q = some (.cells [.slice (some (tq, 0)) sets (.exact sets), ways] 0 false)) (otq : s0.h.get tq = some (.cells (repl sets [.slice none 0 (.exact 0)]) 0 false))
    (ht' : t < s0.n) (ot : s0.h.get t = some (.cells (repl sets [.slice none 0 (.exact 0)]) 0 false)) (hs : sets ≤ 64) :
    ∀ (d i k : Nat) (s : S) (tm : Tr V) (r : TR), d + i = sets → d + 2 ≤ k → run E k (.loop ⟨78, 40, none, none⟩ L78 ⟨tm, [], false, 0⟩) s = r →
    tm.get 23 = some (.slice (some (t, 0)) sets (.exact sets)) → tm.get 24 = some (.int .i64 (sets : Int)) → tm.get 25 = some (.int .i64 (i : Int)) → tm.get 3 = some (.ptr (some (q, 0))) →
    s.n = s0.n → (∀ j, s.h.get j = s0.h.get j) →
    ∃ tm' s', r = .code (.ok (.exit 0) ⟨tm', [], false, 0⟩ s') ∧ s'.n = s0.n ∧ (∀ j, s'.h.get j = s0.h.get j) ∧ tm'.get 3 = some (.ptr (some (q, 0))) := by
  intro d
  induction d with
  | zero =>
    intro i k s tm r hd hk hr t23 t24 t25 t3 hn hh
    obtain ⟨k, rfl⟩ := fuel_le (show 1 ≤ k by omega)
    obtain rfl : i = sets := by omega
    subst hr
    exact ⟨_, s, by simp (maxSteps := 1000000) (disch := omega) [L78, t23, t24, t25, t3] <;> first | done | exact rfl | exact ⟨rfl, rfl⟩ | exact ⟨rfl, rfl, rfl⟩, hn, hh, by simp (maxSteps := 1000000) (disch := omega) [t3]⟩
  | succ d ih =>
    intro i k s tm r hd hk hr t23 t24 t25 t3 hn hh
    obtain ⟨k, rfl⟩ := fuel_le (show 1 ≤ k by omega)
    obtain ⟨tm', s', rfl, h1, h2, f23, f24, f25, f3⟩ := iter78 (s0 := s0) (q := q) (tq := tq) (ways := ways) (by omega) hr t23 t24 t25 t3 (by omega) (by omega) htq (by rw [hh]; exact oq) (by rw [hh]; exact otq) (by omega) (by rw [hh]; exact ot) (by omega) hs
    exact ih (i + 1) k s' tm' _ (by omega) (by omega) rfl f23 f24 f25 f3 (by omega) (fun j => by rw [h2, hh])
theorem none83_of {k i : Nat} {s : S} {sl : V} {ways : Int} {r : TR} (hr : run E k (.call 83 [.ptr (some (i, 0))] none) s = r) (hk : 1 ≤ k) (h : s.h.get i = some (.cells [sl, .int .i64 ways] 0 false)) (hw : 1 ≤ ways) : ∃ s', r = .ret (.bool false) false s' ∧ Ext s s' := by
  subst hr
  obtain ⟨k, rfl⟩ := fuel_le hk
  refine ⟨_, by simp (maxSteps := 1000000) (disch := omega) [h] <;> first | done | exact rfl | exact ⟨rfl, rfl⟩ | exact ⟨rfl, rfl, rfl⟩, ⟨by simp only; omega, fun i hi => by simp (disch := omega)⟩⟩
theorem linesCopy_of {k : Nat} {s : S} {lo : Nat} {p : V} {r : TR} (hr : run E k (.call 78 [p] none) s = r) (hk : 70 ≤ k) (h : Lns s lo p) : ∃ s' p', r = .ret (.ptr (some (p', 0))) false s' ∧ Ext s s' ∧ Lns s' s.n (.ptr (some (p', 0))) := by
  subst hr
  obtain ⟨k, rfl⟩ := fuel_le (show 1 ≤ k by omega)
  obtain ⟨i, t, sets, ways, rfl, l1, l2, h1, h2, h3, h4, h5, h6, h7, h8⟩ := h
  simp (maxSteps := 1000000) (disch := omega) [h3]
  generalize hr : run E k (Task.call 83 _ _) _ = r
  obtain ⟨s1, rfl, x1⟩ := none83_of hr (by omega) h3 (by omega); clear hr
  have x1n := x1.le
  simp (maxSteps := 1000000) (disch := omega)
  generalize hr : evRegion _ true E _ _ _ _ = r
  obtain ⟨tm', s2, rfl, e1, e2, e3, x2, e5, e6⟩ := reg78a (i := i) (t := t) (sets := sets) (ways := ways) hr (by simp (maxSteps := 1000000) (disch := omega)) (by omega) (x1.keep h3 h1) h6; clear hr
  have h3' := (x1.trans x2).keep h3 h1
  have h4' := (x1.trans x2).keep h4 h2
  simp (maxSteps := 1000000) (disch := omega) [e1, e2, h3']
  generalize hr : run E _ (Task.loop _ _ _) _ = r
  obtain ⟨tm', s3, rfl, f1, f2, f3⟩ := loop78 (q := s1.n + 1) (tq := s1.n) (t := t) (sets := sets) (ways := .int .i64 ways) (s0 := s2) (by omega) (by omega) (by omega) e5 e6 (by omega) h4' h6 sets 0 k _ _ r (by omega) (by omega) hr (by simp (maxSteps := 1000000) (disch := omega)) (by simp (maxSteps := 1000000) (disch := omega)) (by simp (maxSteps := 1000000) (disch := omega)) (by simp (maxSteps := 1000000) (disch := omega) [e2]) (by rfl) (fun j => rfl)
  clear hr
  simp (maxSteps := 1000000) (disch := omega) [f3]
  have x3 : Ext s2 s3 := ⟨by omega, fun j hj => f2 j⟩
  refine ⟨_, _, ⟨rfl, rfl⟩, (x1.trans x2).trans x3, s1.n + 1, s1.n, sets, ways, rfl, by omega, by omega, by omega, by omega, ?_, ?_, h5, h6, h7, h8⟩
  · rw [f2, e5]
  · rw [f2, e6]
/-- a closure over lines of no line -/
def Seq0 (s : S) (v : V) : Prop := ∃ b q, v = .func 80 [] [.ptr (some (b, 0))] ∧ b < s.n ∧ s.h.get b = some (.cells [.ptr (some (q, 0))] 0 false) ∧ Lns s 0 (.ptr (some (q, 0)))
theorem Seq0.ext {s s' : S} {v : V} (h : Seq0 s v) (e : Ext s s') : Seq0 s' v := by
  obtain ⟨b, q, h1, h2, h3, h4⟩ := h
  exact ⟨b, q, h1, Nat.lt_of_lt_of_le h2 e.le, e.keep h3 h2, h4.stay e.stay⟩
theorem All_of {k : Nat} {s : S} {lo : Nat} {p : V} {r : TR} (hr : run E k (.call 66 [p] none) s = r) (hk : 71 ≤ k) (h : Lns s lo p) : ∃ s' v, r = .ret v false s' ∧ Ext s s' ∧ Seq0 s' v := by
  subst hr
  obtain ⟨k, rfl⟩ := fuel_le (show 1 ≤ k by omega)
  have h0 := h
  obtain ⟨i, t, sets, ways, rfl, l1, l2, h1, h2, h3, h4, h5, h6, h7, h8⟩ := h
  simp (maxSteps := 1000000) (disch := omega)
  generalize hr : run E k (Task.call 78 _ _) _ = r
  have x0 : Ext s ⟨s.h.put s.n (some (Ob.cells [V.ptr (some (i, 0))] 0 false)), s.n + 1, (s.n, false) :: (s.n, true) :: s.lg⟩ := ⟨by simp only; omega, fun i hi => by simp (disch := omega)⟩
  obtain ⟨s1, q, rfl, x1, l⟩ := linesCopy_of hr (by omega) (h0.stay x0.stay); clear hr
  have x1n := x1.le
  simp only at x1n
  have oq := x1.keep (i := s.n) (o := Ob.cells [V.ptr (some (i, 0))] 0 false) (by simp (maxSteps := 1000000) (disch := omega)) (by simp only; omega)
  simp (maxSteps := 1000000) (disch := omega) [oq]
  simp only at l
  have x2 : Stay (s.n + 1) s1 ⟨s1.h.put s.n (some (Ob.cells [V.ptr (some (q, 0))] 0 false)), s1.n, (s.n, true) :: (s.n, false) :: s1.lg⟩ :=
    ⟨Nat.le_refl _, fun j cs ro g1 g2 g3 => by simp (maxSteps := 1000000) (disch := omega) [g3]⟩
  refine ⟨_, _, ⟨rfl, rfl⟩, ⟨by simp only; omega, fun j hj => ?_⟩, s.n, q, rfl, by simp only; omega, by simp (maxSteps := 1000000) (disch := omega), ?_⟩
  · have := x1.old j (by simp only; omega)
    simp only at this
    simp (maxSteps := 1000000) (disch := omega) [this]
  · exact (l.stay x2).low (Nat.zero_le _)
noncomputable def L80 : Code := loopN body80 0
noncomputable def L80b : Code := loopN body80 1
theorem inner80 {k : Nat} {s : S} {tm : Tr V} {r} (hk : 1 ≤ k) (hr : run E k (.loop ⟨80, 30, none, none⟩ L80b ⟨tm, [], false, 0⟩) s = r) (t19 : tm.get 19 = some (.int .i64 0)) (t20 : tm.get 20 = some (.int .i64 0)) :
    r = .code (.ok (.exit 2) ⟨tm.put 21 (some (.bool false)), [], false, 0⟩ s) := by
  subst hr
  obtain ⟨k, rfl⟩ := fuel_le hk
  simp (maxSteps := 1000000) (disch := omega) [L80b, t19, t20]
theorem iter80 {k i t sets : Nat} {s : S} {tm : Tr V} {r} (hk : 1 ≤ k) (hr : run E (k + 1) (.loop ⟨80, 30, none, none⟩ L80 ⟨tm, [], false, 0⟩) s = r)
    (t12 : tm.get 12 = some (.slice (some (t, 0)) sets (.exact sets))) (t13 : tm.get 13 = some (.int .i64 (sets : Int))) (t14 : tm.get 14 = some (.int .i64 (i : Int)))
    (ht' : t < s.n) (ot : s.h.get t = some (.cells (repl sets [.slice none 0 (.exact 0)]) 0 false)) (hi : i < sets) (hs : sets ≤ 64) :
    ∃ tm' s', r = run E k (.loop ⟨80, 30, none, none⟩ L80 ⟨tm', [], false, 0⟩) s' ∧ s'.n = s.n ∧ (∀ j, s'.h.get j = s.h.get j) ∧
      tm'.get 12 = some (.slice (some (t, 0)) sets (.exact sets)) ∧ tm'.get 13 = some (.int .i64 (sets : Int)) ∧ tm'.get 14 = some (.int .i64 ((i + 1 : Nat) : Int)) := by
  subst hr
  obtain ⟨rst, hrst⟩ := dropN_repl (.slice none 0 (.exact 0)) sets i hi
  simp (maxSteps := 1000000) (disch := omega) [L80, t12, t13, t14, ot, hrst]
  generalize hr : run E k (Task.loop _ _ _) _ = r
  obtain rfl := inner80 hk hr (by simp (maxSteps := 1000000) (disch := omega)) (by simp (maxSteps := 1000000) (disch := omega)); clear hr
  simp (maxSteps := 1000000) (disch := omega) [t12, t13, t14]
  exact ⟨_, _, rfl, rfl, fun j => rfl, by simp (maxSteps := 1000000) (disch := omega) [t12], by simp (maxSteps := 1000000) (disch := omega) [t13], by simp (maxSteps := 1000000) (disch := omega)⟩
theorem loop80 {t sets : Nat} {s0 : S} (ht' : t < s0.n) (ot : s0.h.get t = some (.cells (repl sets [.slice none 0 (.exact 0)]) 0 false)) (hs : sets ≤ 64) :
    ∀ (d i k : Nat) (s : S) (tm : Tr V) (r : TR), d + i = sets → d + 2 ≤ k → run E k (.loop ⟨80, 30, none, none⟩ L80 ⟨tm, [], false, 0⟩) s = r →
    tm.get 12 = some (.slice (some (t, 0)) sets (.exact sets)) → tm.get 13 = some (.int .i64 (sets : Int)) → tm.get 14 = some (.int .i64 (i : Int)) →
    s.n = s0.n → (∀ j, s.h.get j = s0.h.get j) →
    ∃ tm' s', r = .code (.ok (.exit 0) ⟨tm', [], false, 0⟩ s') ∧ s'.n = s0.n ∧ (∀ j, s'.h.get j = s0.h.get j) := by
  intro d
  induction d with
  | zero =>
    intro i k s tm r hd hk hr t12 t13 t14 hn hh
    obtain ⟨k, rfl⟩ := fuel_le (show 1 ≤ k by omega)
    obtain rfl : i = sets := by omega
    subst hr
    exact ⟨_, s, by simp (maxSteps := 1000000) (disch := omega) [L80, t12, t13, t14] <;> first | done | exact rfl | exact ⟨rfl, rfl⟩ | exact ⟨rfl, rfl, rfl⟩, hn, hh⟩
  | succ d ih =>
    intro i k s tm r hd hk hr t12 t13 t14 hn hh
    obtain ⟨k, rfl⟩ := fuel_le (show 1 ≤ k by omega)
    obtain ⟨tm', s', rfl, h1, h2, f12, f13, f14⟩ := iter80 (by omega) hr t12 t13 t14 (by omega) (by rw [hh]; exact ot) (by omega) hs
    exact ih (i + 1) k s' tm' _ (by omega) (by omega) rfl f12 f13 f14 (by omega) (fun j => by rw [h2, hh])
theorem All1_of {k b : Nat} {s : S} {y : V} {r : TR} (hr : run E k (.call 80 [y, .ptr (some (b, 0))] none) s = r) (hk : 70 ≤ k) (h : Seq0 s (.func 80 [] [.ptr (some (b, 0))])) : ∃ s', r = .ret (.tuple []) false s' ∧ Ext s s' := by
  subst hr
  obtain ⟨k, rfl⟩ := fuel_le (show 1 ≤ k by omega)
  obtain ⟨b', q, e, hb, ob, i, t, sets, ways, e2, l1, l2, h1, h2, h3, h4, h5, h6, h7, h8⟩ := h
  cases e; cases e2
  simp (maxSteps := 1000000) (disch := omega) [ob, h3]
  obtain ⟨k, rfl⟩ := fuel_le (show 1 ≤ k by omega)
  rw [run_succ]
  simp (maxSteps := 1000000) (disch := omega) [ob, h3, -run_succ]
  generalize hr : run E k (Task.loop _ _ _) _ = r
  obtain ⟨tm', s3, rfl, f1, f2⟩ := loop80 (t := t) (sets := sets) (s0 := s) h2 h4 h6 sets 0 k _ _ r (by omega) (by omega) hr (by simp (maxSteps := 1000000) (disch := omega)) (by simp (maxSteps := 1000000) (disch := omega)) (by simp (maxSteps := 1000000) (disch := omega)) (by rfl) (fun j => rfl)
  clear hr
  simp (maxSteps := 1000000) (disch := omega)
  exact ⟨by omega, fun j hj => f2 j⟩
end
section
attribute [local simp] evRange iterIn afterIter endLoop stateOk jumpOf isNoneX isDefd
theorem AppendSeq_of {k b : Nat} {s : S} {r : TR} (hr : run E k (.call 79 [.slice none 0 (.exact 0), .func 80 [] [.ptr (some (b, 0))]] none) s = r) (hk : 71 ≤ k) (h : Seq0 s (.func 80 [] [.ptr (some (b, 0))])) : ∃ s', r = .ret (.slice none 0 (.exact 0)) false s' ∧ Ext s s' := by
  subst hr
  obtain ⟨k, rfl⟩ := fuel_le (show 1 ≤ k by omega)
  simp (maxSteps := 1000000) (disch := omega)
  generalize hr : run E k (Task.call 80 _ none) _ = r
  obtain ⟨s1, rfl, x1⟩ := All1_of hr (by omega) (h.ext ⟨by simp only; omega, fun i hi => by simp (disch := omega)⟩); clear hr
  have x1n := x1.le
  simp only at x1n
  have o0 := (x1.old s.n (by simp only; omega)).trans (show _ = _ by simp (maxSteps := 1000000) (disch := omega); rfl)
  have o1 := (x1.old (s.n + 1) (by simp only; omega)).trans (show _ = _ by simp (maxSteps := 1000000) (disch := omega); rfl)
  have o2 := (x1.old (s.n + 1 + 1) (by simp only; omega)).trans (show _ = _ by simp (maxSteps := 1000000) (disch := omega); rfl)
  simp (maxSteps := 1000000) (disch := omega) [o0, o1, o2]
  refine ⟨by simp only; omega, fun i hi => ?_⟩
  have := x1.old i (by simp only; omega)
  simp (maxSteps := 1000000) (disch := omega) [this]
theorem none64_of {k lo : Nat} {s : S} {p : V} {r : TR} (hr : run E k (.call 64 [p] none) s = r) (hk : 1 ≤ k) (h : Cac s lo p) : ∃ s', r = .ret (.bool false) false s' ∧ Ext s s' := by
  subst hr
  obtain ⟨k, rfl⟩ := fuel_le hk
  obtain ⟨i, id, q, rfl, h1, h2, h3, h4⟩ := h
  refine ⟨_, by simp (maxSteps := 1000000) (disch := omega) [h3] <;> first | done | exact rfl | exact ⟨rfl, rfl⟩ | exact ⟨rfl, rfl, rfl⟩, ⟨by simp only; omega, fun i hi => by simp (disch := omega)⟩⟩
theorem Collect_of {k : Nat} {s : S} {v : V} {r : TR} (hr : run E k (.call 65 [v] none) s = r) (hk : 72 ≤ k) (h : Seq0 s v) : ∃ s', r = .ret (.slice none 0 (.exact 0)) false s' ∧ Ext s s' := by
  subst hr
  obtain ⟨k, rfl⟩ := fuel_le (show 1 ≤ k by omega)
  have h0 := h
  obtain ⟨b, q, rfl, h1⟩ := h
  simp (maxSteps := 1000000) (disch := omega)
  generalize hr : run E k (Task.call 79 _ none) _ = r
  obtain ⟨s1, rfl, x1⟩ := AppendSeq_of hr (by omega) h0; clear hr
  simp (maxSteps := 1000000) (disch := omega)
  exact x1
theorem Lines_of {k lo : Nat} {s : S} {p : V} {r : TR} (hr : run E k (.call 42 [p] none) s = r) (hk : 73 ≤ k) (h : Cac s lo p) : ∃ s', r = .ret (.slice none 0 (.exact 0)) false s' ∧ Ext s s' := by
  subst hr
  obtain ⟨k, rfl⟩ := fuel_le (show 1 ≤ k by omega)
  have h0 := h
  obtain ⟨i, id, q, rfl, h1, h2, h3, h4⟩ := h
  simp (maxSteps := 1000000) (disch := omega)
  generalize hr : run E k (Task.call 64 _ none) _ = r
  obtain ⟨s1, rfl, x1⟩ := none64_of hr (by omega) h0; clear hr
  simp (maxSteps := 1000000) (disch := omega) [x1.keep h3 h2]
  generalize hr : run E k (Task.call 66 _ none) _ = r
  obtain ⟨s2, v, rfl, x2, g⟩ := All_of (lo := lo) hr (by omega) ((h4.stay x1.stay).stay (Ext.stay ⟨Nat.le_refl _, fun i hi => rfl⟩)); clear hr
  simp (maxSteps := 1000000) (disch := omega)
  generalize hr : run E k (Task.call 65 _ none) _ = r
  obtain ⟨s3, rfl, x3⟩ := Collect_of hr (by omega) g; clear hr
  simp (maxSteps := 1000000) (disch := omega)
  exact (x1.trans ⟨x2.le, x2.old⟩).trans x3
end
section
attribute [local simp] loopN loops
noncomputable def L53a : Code := loopN body53 0
noncomputable def L53b : Code := loopN body53 1
noncomputable def L53c : Code := loopN body53 2
noncomputable def L53d : Code := loopN body53 3
theorem zero53a {k : Nat} {s : S} {tm : Tr V} {r} (hk : 1 ≤ k) (hr : run E k (.loop ⟨53, 104, none, none⟩ L53a ⟨tm, [], false, 0⟩) s = r) (t20 : tm.get 20 = some (.int .i64 0)) (t21 : tm.get 21 = some (.int .i64 0)) :
    r = .code (.ok (.exit 0) ⟨tm.put 22 (some (.bool false)), [], false, 0⟩ s) := by
  subst hr
  obtain ⟨k, rfl⟩ := fuel_le hk
  simp (maxSteps := 1000000) (disch := omega) [L53a, t20, t21]
theorem zero53d {k : Nat} {s : S} {tm : Tr V} {r} (hk : 1 ≤ k) (hr : run E k (.loop ⟨53, 104, none, none⟩ L53d ⟨tm, [], false, 0⟩) s = r) (t88 : tm.get 88 = some (.int .i64 0)) (t89 : tm.get 89 = some (.int .i64 0)) :
    r = .code (.ok (.exit 6) ⟨tm.put 90 (some (.bool false)), [], false, 0⟩ s) := by
  subst hr
  obtain ⟨k, rfl⟩ := fuel_le hk
  simp (maxSteps := 1000000) (disch := omega) [L53d, t88, t89]
theorem iter53b {k i b m : Nat} {s : S} {tm : Tr V} {pb : List V} {y bx r c} (hk : 2 ≤ k) (hr : run E (k + 1) (.loop ⟨53, 104, none, none⟩ L53b ⟨tm, [], false, 0⟩) s = r)
    (t0 : tm.get 0 = some y) (t1 : tm.get 1 = some (.ptr (some (bx, 0)))) (t50 : tm.get 50 = some (.slice (some (b, 0)) m (.opn 0))) (t51 : tm.get 51 = some (.int .i64 (m : Int))) (t52 : tm.get 52 = some (.int .i64 (i : Int)))
    (hm : m ≤ 4) (ob : s.h.get b = some (.cells pb 1 false)) (hi : i < m) (hm2 : pb.length = m) (hc : pb[i]? = some c) (hcc : Cac s 0 c) :
    ∃ tm' s', r = run E k (.loop ⟨53, 104, none, none⟩ L53b ⟨tm', [], false, 0⟩) s' ∧ Ext s s' ∧
      tm'.get 0 = some y ∧ tm'.get 1 = some (.ptr (some (bx, 0))) ∧ tm'.get 50 = some (.slice (some (b, 0)) m (.opn 0)) ∧ tm'.get 51 = some (.int .i64 (m : Int)) ∧ tm'.get 52 = some (.int .i64 ((i + 1 : Nat) : Int)) := by
  subst hr
  obtain ⟨rst, hrst⟩ := takeN_at (takeN_all2 pb m hm2) hc
  simp (maxSteps := 1000000) (disch := omega) [L53b, t0, t1, t50, t51, t52, ob, hrst]
  generalize hr : run E k (Task.call 56 _ none) _ = r
  obtain ⟨s1, rfl, x1⟩ := Given_of hr hk (hcc.stay (Ext.stay ⟨Nat.le_refl _, fun i hi => rfl⟩)); clear hr
  have x1 : Ext s s1 := ⟨x1.le, x1.old⟩
  simp (maxSteps := 1000000) (disch := omega) [t0, t1, t50, t51, t52, zline]
  exact ⟨_, _, rfl, x1.trans ⟨by simp only; omega, fun i hi => by simp (disch := omega)⟩, by simp (maxSteps := 1000000) (disch := omega) [t0], by simp (maxSteps := 1000000) (disch := omega) [t1], by simp (maxSteps := 1000000) (disch := omega) [t50], by simp (maxSteps := 1000000) (disch := omega) [t51], by simp (maxSteps := 1000000) (disch := omega)⟩
theorem iter53c {k i b m : Nat} {s : S} {tm : Tr V} {pb : List V} {y bx r c} (hk : 73 ≤ k) (hr : run E (k + 1) (.loop ⟨53, 104, none, none⟩ L53c ⟨tm, [], false, 0⟩) s = r)
    (t0 : tm.get 0 = some y) (t1 : tm.get 1 = some (.ptr (some (bx, 0)))) (t80 : tm.get 80 = some (.slice (some (b, 0)) m (.opn 0))) (t81 : tm.get 81 = some (.int .i64 (m : Int))) (t82 : tm.get 82 = some (.int .i64 (i : Int)))
    (hm : m ≤ 4) (ob : s.h.get b = some (.cells pb 1 false)) (hi : i < m) (hm2 : pb.length = m) (hc : pb[i]? = some c) (hcc : Cac s 0 c) :
    ∃ tm' s', r = run E k (.loop ⟨53, 104, none, none⟩ L53c ⟨tm', [], false, 0⟩) s' ∧ Ext s s' ∧
      tm'.get 0 = some y ∧ tm'.get 1 = some (.ptr (some (bx, 0))) ∧ tm'.get 80 = some (.slice (some (b, 0)) m (.opn 0)) ∧ tm'.get 81 = some (.int .i64 (m : Int)) ∧ tm'.get 82 = some (.int .i64 ((i + 1 : Nat) : Int)) := by
  subst hr
  obtain ⟨rst, hrst⟩ := takeN_at (takeN_all2 pb m hm2) hc
  simp (maxSteps := 1000000) (disch := omega) [L53c, t0, t1, t80, t81, t82, ob, hrst]
  generalize hr : run E k (Task.call 42 _ none) _ = r
  obtain ⟨s1, rfl, x1⟩ := Lines_of hr hk (hcc.stay (Ext.stay ⟨Nat.le_refl _, fun i hi => rfl⟩)); clear hr
  have x1 : Ext s s1 := ⟨x1.le, x1.old⟩
  simp (maxSteps := 1000000) (disch := omega) [t0, t1, t80, t81, t82]
  generalize hr : run E k (Task.loop _ _ _) _ = r
  obtain rfl := zero53d (by omega) hr (by simp (maxSteps := 1000000) (disch := omega)) (by simp (maxSteps := 1000000) (disch := omega)); clear hr
  simp (maxSteps := 1000000) (disch := omega) [t0, t1, t80, t81, t82]
  exact ⟨_, _, rfl, x1, by simp (maxSteps := 1000000) (disch := omega) [t0], by simp (maxSteps := 1000000) (disch := omega) [t1], by simp (maxSteps := 1000000) (disch := omega) [t80], by simp (maxSteps := 1000000) (disch := omega) [t81], by simp (maxSteps := 1000000) (disch := omega)⟩
end
section
attribute [local simp] loopN loops
theorem loop53b {b m : Nat} {s0 : S} {pb : List V} {y bx} (hb : b < s0.n) (hm : m ≤ 4) (ob : s0.h.get b = some (.cells pb 1 false)) (hm2 : pb.length = m) (hc : ∀ c ∈ pb, Cac s0 0 c) :
    ∀ (d i k : Nat) (s : S) (tm : Tr V) (r : TR), d + i = m → d + 3 ≤ k → run E k (.loop ⟨53, 104, none, none⟩ L53b ⟨tm, [], false, 0⟩) s = r →
    tm.get 0 = some y → tm.get 1 = some (.ptr (some (bx, 0))) → tm.get 50 = some (.slice (some (b, 0)) m (.opn 0)) → tm.get 51 = some (.int .i64 (m : Int)) → tm.get 52 = some (.int .i64 (i : Int)) → Ext s0 s →
    ∃ tm' s', r = .code (.ok (.exit 2) ⟨tm', [], false, 0⟩ s') ∧ Ext s0 s' ∧ tm'.get 0 = some y ∧ tm'.get 1 = some (.ptr (some (bx, 0))) := by
  intro d
  induction d with
  | zero =>
    intro i k s tm r hd hk hr t0 t1 t50 t51 t52 x
    obtain ⟨k, rfl⟩ := fuel_le (show 1 ≤ k by omega)
    obtain rfl : i = m := by omega
    subst hr
    exact ⟨_, s, by simp (maxSteps := 1000000) (disch := omega) [L53b, t0, t1, t50, t51, t52] <;> first | done | exact rfl | exact ⟨rfl, rfl⟩ | exact ⟨rfl, rfl, rfl⟩, x, by simp (maxSteps := 1000000) (disch := omega) [t0], by simp (maxSteps := 1000000) (disch := omega) [t1]⟩
  | succ d ih =>
    intro i k s tm r hd hk hr t0 t1 t50 t51 t52 x
    obtain ⟨k, rfl⟩ := fuel_le (show 1 ≤ k by omega)
    obtain ⟨c, hc'⟩ : ∃ c, pb[i]? = some c := ⟨pb[i], by rw [List.getElem?_eq_getElem (by omega)]⟩
    obtain ⟨tm', s', rfl, x1, f0, f1, f50, f51, f52⟩ := iter53b (by omega) hr t0 t1 t50 t51 t52 hm (x.keep ob hb) (by omega) hm2 hc' ((hc c (List.mem_of_getElem? hc')).stay x.stay)
    exact ih (i + 1) k s' tm' _ (by omega) (by omega) rfl f0 f1 f50 f51 f52 (x.trans x1)
theorem loop53c {b m : Nat} {s0 : S} {pb : List V} {y bx} (hb : b < s0.n) (hm : m ≤ 4) (ob : s0.h.get b = some (.cells pb 1 false)) (hm2 : pb.length = m) (hc : ∀ c ∈ pb, Cac s0 0 c) :
    ∀ (d i k : Nat) (s : S) (tm : Tr V) (r : TR), d + i = m → d + 74 ≤ k → run E k (.loop ⟨53, 104, none, none⟩ L53c ⟨tm, [], false, 0⟩) s = r →
    tm.get 0 = some y → tm.get 1 = some (.ptr (some (bx, 0))) → tm.get 80 = some (.slice (some (b, 0)) m (.opn 0)) → tm.get 81 = some (.int .i64 (m : Int)) → tm.get 82 = some (.int .i64 (i : Int)) → Ext s0 s →
    ∃ tm' s', r = .code (.ok (.exit 4) ⟨tm', [], false, 0⟩ s') ∧ Ext s0 s' ∧ tm'.get 0 = some y ∧ tm'.get 1 = some (.ptr (some (bx, 0))) := by
  intro d
  induction d with
  | zero =>
    intro i k s tm r hd hk hr t0 t1 t80 t81 t82 x
    obtain ⟨k, rfl⟩ := fuel_le (show 1 ≤ k by omega)
    obtain rfl : i = m := by omega
    subst hr
    exact ⟨_, s, by simp (maxSteps := 1000000) (disch := omega) [L53c, t0, t1, t80, t81, t82] <;> first | done | exact rfl | exact ⟨rfl, rfl⟩ | exact ⟨rfl, rfl, rfl⟩, x, by simp (maxSteps := 1000000) (disch := omega) [t0], by simp (maxSteps := 1000000) (disch := omega) [t1]⟩
  | succ d ih =>
    intro i k s tm r hd hk hr t0 t1 t80 t81 t82 x
    obtain ⟨k, rfl⟩ := fuel_le (show 1 ≤ k by omega)
    obtain ⟨c, hc'⟩ : ∃ c, pb[i]? = some c := ⟨pb[i], by rw [List.getElem?_eq_getElem (by omega)]⟩
    obtain ⟨tm', s', rfl, x1, f0, f1, f80, f81, f82⟩ := iter53c (by omega) hr t0 t1 t80 t81 t82 hm (x.keep ob hb) (by omega) hm2 hc' ((hc c (List.mem_of_getElem? hc')).stay x.stay)
    exact ih (i + 1) k s' tm' _ (by omega) (by omega) rfl f0 f1 f80 f81 f82 (x.trans x1)
theorem over1_of {k bx q b ni : Nat} {s : S} {y A h : V} {pb : List V} {r : TR} (hr : run E k (.call 53 [y, .ptr (some (bx, 0))] none) s = r) (hk : 80 ≤ k)
    (hbx : bx < s.n) (hq : q < s.n) (hb : b < s.n) (hni : ni < s.n) (obx : s.h.get bx = some (.cells [.ptr (some (q, 0))] 0 false)) (oq : s.h.get q = some (.cells [A, .slice (some (b, 0)) pb.length (.opn 0), .ptr (some (ni, 0)), h] 0 false))
    (ob : s.h.get b = some (.cells pb 1 false)) (hm : pb.length ≤ 4) (hc : ∀ x ∈ pb, Cac s 0 x) (on : s.h.get ni = some (.cells [.slice none 0 (.exact 0), .int .i64 1024] 0 false)) :
    ∃ s', r = .ret (.tuple []) false s' ∧ Ext s s' := by
  subst hr
  obtain ⟨k, rfl⟩ := fuel_le (show 1 ≤ k by omega)
  simp (maxSteps := 1000000) (disch := omega) [obx, oq]
  generalize hr : run E k (Task.call 55 _ none) _ = r
  obtain ⟨s1, rfl, x1⟩ := Ready_of (lo := 0) hr (by omega) ⟨ni, rfl, by omega, hni, on⟩; clear hr
  have x1 : Ext s s1 := ⟨x1.le, x1.old⟩
  simp (maxSteps := 1000000) (disch := omega) [x1.keep obx hbx, x1.keep oq hq]
  generalize hr : run E k (Task.loop _ _ _) _ = r
  obtain rfl := zero53a (by omega) hr (by simp (maxSteps := 1000000) (disch := omega)) (by simp (maxSteps := 1000000) (disch := omega)); clear hr
  simp (maxSteps := 1000000) (disch := omega) [x1.keep obx hbx, x1.keep oq hq]
  generalize hr : run E k (Task.loop _ _ _) _ = r
  obtain ⟨tm', s2, rfl, x2, t0, t1⟩ := loop53b (b := b) (m := pb.length) (s0 := s1) (pb := pb) (y := y) (bx := bx) (Nat.lt_of_lt_of_le hb x1.le) hm (x1.keep ob hb) rfl (fun c hc' => (hc c hc').stay x1.stay) pb.length 0 k _ _ r (by omega) (by omega) hr (by simp (maxSteps := 1000000) (disch := omega)) (by simp (maxSteps := 1000000) (disch := omega)) (by simp (maxSteps := 1000000) (disch := omega)) (by simp (maxSteps := 1000000) (disch := omega)) (by simp (maxSteps := 1000000) (disch := omega)) ⟨Nat.le_refl _, fun i hi => rfl⟩; clear hr
  have x12 := x1.trans x2
  simp (maxSteps := 1000000) (disch := omega) [t0, t1, x12.keep obx hbx, x12.keep oq hq]
  generalize hr : run E k (Task.loop _ _ _) _ = r
  obtain ⟨tm', s3, rfl, x3, t0', t1'⟩ := loop53c (b := b) (m := pb.length) (s0 := s2) (pb := pb) (y := y) (bx := bx) (Nat.lt_of_lt_of_le hb x12.le) hm (x12.keep ob hb) rfl (fun c hc' => (hc c hc').stay x12.stay) pb.length 0 k _ _ r (by omega) (by omega) hr (by simp (maxSteps := 1000000) (disch := omega) [t0]) (by simp (maxSteps := 1000000) (disch := omega) [t1]) (by simp (maxSteps := 1000000) (disch := omega)) (by simp (maxSteps := 1000000) (disch := omega)) (by simp (maxSteps := 1000000) (disch := omega)) ⟨Nat.le_refl _, fun i hi => rfl⟩; clear hr
  simp (maxSteps := 1000000) (disch := omega)
  exact x12.trans x3
theorem none33_of {k i : Nat} {s : S} {q : Nat} {r : TR} (hr : run E k (.call 33 [.ptr (some (i, 0))] none) s = r) (hk : 1 ≤ k) (h : s.h.get i = some (.cells [.ptr (some (q, 0))] 0 false)) : ∃ s', r = .ret (.bool false) false s' ∧ Ext s s' := by
  subst hr
  obtain ⟨k, rfl⟩ := fuel_le hk
  refine ⟨_, by simp (maxSteps := 1000000) (disch := omega) [h] <;> first | done | exact rfl | exact ⟨rfl, rfl⟩ | exact ⟨rfl, rfl, rfl⟩, ⟨by simp only; omega, fun i hi => by simp (disch := omega)⟩⟩
theorem homeMem_of {k : Nat} {s : S} {p : V} {l : List UInt8} {r : TR} (hr : run E k (.call 34 [p] none) s = r) (hk : 5 ≤ k) (h : Hom s p l) (hl : 1 ≤ l.length) (hl2 : l.length ≤ 4096) : ∃ s' p', r = .ret (.ptr (some (p', 0))) false s' ∧ Ext s s' ∧ Img s' (.ptr (some (p', 0))) l := by
  subst hr
  obtain ⟨s', p', e, x, i, id, off, len, cap, rfl, h'⟩ := homeMem_spec k s p l hk h hl hl2
  exact ⟨s', i, e, x, i, id, off, len, cap, rfl, h'⟩
theorem over_of {k q : Nat} {s : S} {r : TR} (hr : run E k (.call 35 [.ptr (some (q, 0))] none) s = r) (hk : 1 ≤ k) : ∃ s', r = .ret (.func 53 [] [.ptr (some (s.n, 0))]) false s' ∧ Ext s s' ∧ s'.n = s.n + 1 ∧ s'.h.get s.n = some (.cells [.ptr (some (q, 0))] 0 false) := by
  subst hr
  obtain ⟨k, rfl⟩ := fuel_le hk
  refine ⟨_, by simp (maxSteps := 1000000) (disch := omega) <;> first | done | exact rfl | exact ⟨rfl, rfl⟩ | exact ⟨rfl, rfl, rfl⟩, ⟨by simp only; omega, fun i hi => by simp (disch := omega)⟩, rfl, by simp (maxSteps := 1000000) (disch := omega)⟩
attribute [local simp] evRange iterIn afterIter endLoop stateOk jumpOf isNoneX isDefd
theorem Memory_of {k : Nat} {s : S} {p : V} {l : List UInt8} {r : TR} (hr : run E k (.call 16 [p] none) s = r) (hk : 81 ≤ k) (h : Mach s p l) (hl : 1 ≤ l.length) (hl2 : l.length ≤ 4096) : ∃ s' p', r = .ret (.ptr (some (p', 0))) false s' ∧ Ext s s' ∧ Img s' (.ptr (some (p', 0))) l := by
  subst hr
  obtain ⟨k, rfl⟩ := fuel_le (show 1 ≤ k by omega)
  obtain ⟨i, q, b, ni, hi, A, pb, rfl, h1, h2, h3, h4, oi, oq, ob, m1, m4, hc, on, hh⟩ := h
  simp (maxSteps := 1000000) (disch := omega) [oi, oq]
  generalize hr : run E k (Task.call 33 _ none) _ = r
  obtain ⟨s1, rfl, x1⟩ := none33_of hr (by omega) oi; clear hr
  simp (maxSteps := 1000000) (disch := omega) [x1.keep oi h1, x1.keep oq h2]
  generalize hr : run E k (Task.call 34 _ none) _ = r
  obtain ⟨s2, p2, rfl, x2, im⟩ := homeMem_of hr (by omega) (hh.ext ⟨x1.le, x1.old⟩) hl hl2; clear hr
  have x2 : Ext s1 s2 := ⟨x2.le, x2.old⟩
  have x12 := x1.trans x2
  have n12 := x12.le
  simp (maxSteps := 1000000) (disch := omega) [x12.keep oi h1, x12.keep oq h2]
  generalize hr : run E k (Task.call 35 _ none) _ = r
  obtain ⟨s3, rfl, x3, n3, o3⟩ := over_of hr (by omega); clear hr
  simp only at x3 n3 o3
  have x3' : Ext s2 s3 := ⟨by omega, fun j hj => by rw [x3.old j (by simp only; omega)]; simp (maxSteps := 1000000) (disch := omega)⟩
  have x13 := x12.trans x3'
  simp (maxSteps := 1000000) (disch := omega)
  generalize hr : run E k (Task.call 53 _ none) _ = r
  have ox := (x3.old s2.n (by simp only; omega)).trans (show _ = _ by simp (maxSteps := 1000000) (disch := omega); rfl)
  have xt : ∀ (o : Ob) (lg : List (Nat × Bool)), Ext s3 ⟨(s3.h.put s3.n (some Ob.defd)).put (s3.n + 1) (some o), s3.n + 1 + 1, lg⟩ := fun o lg => ⟨by simp only; omega, fun i hi => by simp (disch := omega)⟩
  have n13 := x13.le
  obtain ⟨s4, rfl, x4⟩ := over1_of (q := q) (b := b) (ni := ni) (pb := pb) (A := A) (h := .ptr (some (hi, 0))) hr (by omega) (by simp only; omega) (by simp only; omega) (by simp only; omega) (by simp only; omega) (by simp (maxSteps := 1000000) (disch := omega) [o3]) (by simp (maxSteps := 1000000) (disch := omega) [x13.keep oq h2]) (by simp (maxSteps := 1000000) (disch := omega) [x13.keep ob h3]) m4 (fun x hx => (((hc x hx).stay x13.stay).stay (xt _ _).stay)) (by simp (maxSteps := 1000000) (disch := omega) [x13.keep on h4])
  clear hr
  have n4 := x4.le
  simp only at n4
  have o0 := (x4.old s3.n (by simp only; omega)).trans (show _ = _ by simp (maxSteps := 1000000) (disch := omega); rfl)
  have o1 := (x4.old (s3.n + 1) (by simp only; omega)).trans (show _ = _ by simp (maxSteps := 1000000) (disch := omega); rfl)
  have o2 := (x4.old s2.n (by simp only; omega)).trans (show _ = _ by simp (maxSteps := 1000000) (disch := omega) [ox]; rfl)
  simp (maxSteps := 1000000) (disch := omega) [o0, o1, o2]
  have x24 : Ext s2 s4 := ⟨by omega, fun j hj => by rw [x4.old j (by simp only; omega)]; simp (maxSteps := 1000000) (disch := omega) [x3'.old j hj]⟩
  refine ⟨_, _, ⟨rfl, rfl⟩, ⟨by simp only; have := x12.le; omega, fun j hj => ?_⟩, im.ext ⟨by simp only; omega, fun j hj => ?_⟩⟩
  · simp (maxSteps := 1000000) (disch := omega) [x24.old j (by omega), x12.old j hj]
  · simp (maxSteps := 1000000) (disch := omega) [x24.old j hj]
end
end Go.Proofs.Ytfcakcaepbmefaa
