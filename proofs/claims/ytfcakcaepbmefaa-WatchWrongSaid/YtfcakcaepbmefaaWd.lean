/- What the law WatchWrong comes to in the abstract machine, at any setup, any choices, any place. No condition. -/
import Derived.Test.YtfcakcaepbmefaaWc
namespace Go.Proofs.Ytfcakcaepbmefaa
open Go Go.AM
set_option linter.unusedSimpArgs false
set_option linter.unusedVariables false
set_option linter.all false
set_option maxRecDepth 100000
set_option maxHeartbeats 4000000
attribute [local simp] run_succ task callTask ev evSeq evRegion_f evOps evCond evBlock exec1 guardOk guardNot notIs exec opMove opPick pickOf opAlloc allocOf opBox boxOf opBuild buildOf opLoad loadAt opStore storeAt putCells opNilCheck nilCheckOf
  opUn unOf opConvert convOf opIface ifaceOf opMakeFunc opMakeSlice makeSliceOf opSlice sliceOf sliceSl sub3 bounds3 boundOf bothOr opFieldAddr fieldAddrOf opField fieldOf opIndexAddr indexAddrOf opIndex indexOf inside opLookup opMapUpdate opExtract extractOf opPanic panicOf makeMapOf
  retV Q.val Q.opt Q.run after setTm putTm opd opds tmV Tr.get_put leaf_get ofV ofVA ofVL opBin binAt binOf binInt binStr eqOp eqInt eqBool eqPtr eqSlice eqMap eqFunc eqIface eqStr eqAgg isNilIface boolIs optV
  opBuildSlice buildSliceOf Env.desc fillV repl pairs opCall callOf extCall builtinOf type1 type2 head1 head2 builtinAppend isIntD lenOf srcOf appendAt roomOk dropN takeN noMore appendOn appendNew lenAt capAt builtinCopy
  afterBody AM.unwind resultsOf one afterCall orRet listTm takeN_all isShift kindEq intOp iAdd iSub iMul iLss iLeq iGtr iGeq iEql iNeq iShl iShr iQuo iRem V.cells V.isCell allCells partOf splice over placeOfField elemPlace knownFs aggOpt zeroOf isU8 isIface
  afterLoop afterScope asCode strOp undefV isConst not_false_eq_true
  List.getElem?_cons_succ List.getElem?_cons_zero S.new S.rd S.wr nat_ne ble_t ble_f beq_t beq_f ltI_t ltI_f eqI_t eqI_f isub_def iadd_def imul_def wrapQ_i64 wrapQ_u32 wrapQ_u8 iAnd_pred inside_in bytes_len bytes_all bytesOf_cells over_bytes repl_len1
attribute [local simp] ng_eq ext_eq
attribute [local simp] fiOfFn fn3 bd3 rs3 nt3 body3 Try.f3 fn4 bd4 rs4 nt4 body4 Try.f4 fn5 bd5 rs5 nt5 body5 Try.f5 fn6 bd6 rs6 nt6 body6 Try.f6 fn7 bd7 rs7 nt7 body7 Try.f7 fn8 bd8 rs8 nt8 body8 Try.f8 fn9 bd9 rs9 nt9 body9 Try.f9 fn10 bd10 rs10 nt10 body10 Try.f10 fn11 bd11 rs11 nt11 body11 Try.f11 fn12 bd12 rs12 nt12 body12 Try.f12 fn13 bd13 rs13 nt13 body13 Try.f13 fn14 bd14 rs14 nt14 body14 Try.f14 fn15 bd15 rs15 nt15 body15 Try.f15 fn16 bd16 rs16 nt16 body16 Try.f16 fn17 bd17 rs17 nt17 body17 Try.f17 fn18 bd18 rs18 nt18 body18 Try.f18 fn19 bd19 rs19 nt19 body19 Try.f19 fn20 bd20 rs20 nt20 body20 Try.f20 fn21 bd21 rs21 nt21 body21 Try.f21 fn22 bd22 rs22 nt22 body22 Try.f22 fn23 bd23 rs23 nt23 body23 Try.f23 fn24 bd24 rs24 nt24 body24 Try.f24 fn25 bd25 rs25 nt25 body25 Try.f25 fn26 bd26 rs26 nt26 body26 Try.f26 fn27 bd27 rs27 nt27 body27 Try.f27 fn28 bd28 rs28 nt28 body28 Try.f28 fn29 bd29 rs29 nt29 body29 Try.f29 fn30 bd30 rs30 nt30 body30 Try.f30 fn31 bd31 rs31 nt31 body31 Try.f31 fn32 bd32 rs32 nt32 body32 Try.f32 fn33 bd33 rs33 nt33 body33 Try.f33 fn34 bd34 rs34 nt34 body34 Try.f34 fn35 bd35 rs35 nt35 body35 Try.f35 fn36 bd36 rs36 nt36 body36 Try.f36 fn37 bd37 rs37 nt37 body37 Try.f37 fn38 bd38 rs38 nt38 body38 Try.f38 fn39 bd39 rs39 nt39 body39 Try.f39 fn40 bd40 rs40 nt40 body40 Try.f40 fn41 bd41 rs41 nt41 body41 Try.f41 fn42 bd42 rs42 nt42 body42 Try.f42 fn43 bd43 rs43 nt43 body43 Try.f43 fn44 bd44 rs44 nt44 body44 Try.f44 fn45 bd45 rs45 nt45 body45 Try.f45 fn46 bd46 rs46 nt46 body46 Try.f46 fn47 bd47 rs47 nt47 body47 Try.f47 fn48 bd48 rs48 nt48 body48 Try.f48 fn49 bd49 rs49 nt49 body49 Try.f49 fn50 bd50 rs50 nt50 body50 Try.f50 fn51 bd51 rs51 nt51 body51 Try.f51 fn52 bd52 rs52 nt52 body52 Try.f52 fn53 bd53 rs53 nt53 body53 Try.f53 fn54 bd54 rs54 nt54 body54 Try.f54 fn55 bd55 rs55 nt55 body55 Try.f55 fn56 bd56 rs56 nt56 body56 Try.f56 fn57 bd57 rs57 nt57 body57 Try.f57 fn58 bd58 rs58 nt58 body58 Try.f58 fn59 bd59 rs59 nt59 body59 Try.f59 fn60 bd60 rs60 nt60 body60 Try.f60 fn61 bd61 rs61 nt61 body61 Try.f61 fn62 bd62 rs62 nt62 body62 Try.f62 fn63 bd63 rs63 nt63 body63 Try.f63 fn64 bd64 rs64 nt64 body64 Try.f64 fn65 bd65 rs65 nt65 body65 Try.f65 fn66 bd66 rs66 nt66 body66 Try.f66 fn67 bd67 rs67 nt67 body67 Try.f67 fn68 bd68 rs68 nt68 body68 Try.f68 fn69 bd69 rs69 nt69 body69 Try.f69 fn70 bd70 rs70 nt70 body70 Try.f70 fn71 bd71 rs71 nt71 body71 Try.f71 fn72 bd72 rs72 nt72 body72 Try.f72 fn73 bd73 rs73 nt73 body73 Try.f73 fn74 bd74 rs74 nt74 body74 Try.f74 fn75 bd75 rs75 nt75 body75 Try.f75 fn76 bd76 rs76 nt76 body76 Try.f76 fn77 bd77 rs77 nt77 body77 Try.f77 fn78 bd78 rs78 nt78 body78 Try.f78 fn79 bd79 rs79 nt79 body79 Try.f79 fn80 bd80 rs80 nt80 body80 Try.f80 fn81 bd81 rs81 nt81 body81 Try.f81 fn82 bd82 rs82 nt82 body82 Try.f82 fn83 bd83 rs83 nt83 body83 Try.f83 fn84 bd84 rs84 nt84 body84 Try.f84 ty2 t2 ty3 t3 ty4 t4 ty5 t5 ty9 t9 ty22 t22 ty23 t23 ty25 t25 ty26 t26 ty27 t27 ty28 t28 ty33 t33 ty34 t34 ty43 t43 ty45 t45 ty46 t46 ty47 t47 ty49 t49 ty51 t51 ty52 t52 ty54 t54 ty57 t57 ty59 t59 ty61 t61 ty66 t66 ty67 t67 ty68 t68 ty69 t69 ty71 t71 ty72 t72 ty73 t73 ty75 t75 ty76 t76 ty78 t78 ty82 t82 ty84 t84 ty87 t87 ty88 t88 ty89 t89 ty90 t90 ty92 t92 ty95 t95 ty98 t98 ty102 t102 ty103 t103 ty112 t112 ty113 t113 ty115 t115 ty120 t120 ty121 t121 ty122 t122 ty124 t124 ty128 t128 ty131 t131 ty133 t133 ty135 t135 ty137 t137 ty139 t139 ty142 t142 ty143 t143 ty145 t145 ty147 t147 ty148 t148 ty151 t151 ty152 t152 ty154 t154 ty158 t158 ty164 t164 ty172 t172 ty173 t173 ty175 t175 ty176 t176 ty178 t178 ty185 t185 ty190 t190 ty193 t193 ty195 t195 ty196 t196 ty213 t213 ty215 t215
attribute [local simp] eqv2 eqv3 eqv4 eqv5 eqv9 eqv22 eqv23 eqv26 eqv27 eqv28 eqv33 eqv34 eqv43 eqv45 eqv46 eqv47 eqv52 eqv57 eqv67 eqv68 eqv69 eqv72 eqv73 eqv76 eqv82 eqv84 eqv87 eqv88 eqv89 eqv90 eqv95 eqv98 eqv103 eqv112 eqv121 eqv122 eqv128 eqv135 eqv143 eqv145 eqv148 eqv151 eqv152 eqv158 eqv176 eqv190 eqv195 eqv196 eqv213
section
attribute [local simp] loopN loops
noncomputable def L5 : Code := loopN body5 0
/-- the setup, in a box -/
def Box (s : S) (bx : Nat) (cv bv : V) (sets ways : Int) : Prop := bx < s.n ∧ s.h.get bx = some (.cells [cv, bv, .int .i64 sets, .int .i64 ways] 0 false)
theorem iter5 {k i bx nc id off o n : Nat} {c : Int} {s : S} {tm : Tr V} {bv : V} {sets ways cap cs ro vs r w} (hr : run E (k + 1) (.loop ⟨5, 37, none, none⟩ L5 ⟨tm, [], false, 0⟩) s = r)
    (t1 : ∃ y, tm.get 1 = some y) (t2 : tm.get 2 = some (.ptr (some (bx, 0)))) (t5 : tm.get 5 = some (.int .i64 c)) (t6 : tm.get 6 = some (.int .i64 (i : Int)))
    (hb : Box s bx (.slice (some (id, off)) nc cap) bv sets ways) (hid : id < s.n) (ho : s.h.get id = some (.cells cs o ro)) (ht : takeN nc (dropN off cs) = some vs) (hw : vs[i]? = some w) (hww : Wrds s w n) (hi : i < nc) (hi8 : i < 8) :
    (∃ tm' s', r = .code (.ok .ret ⟨tm', [], false, 0⟩ s') ∧ Ext s s' ∧ tm'.get 4 = some (.bool true)) ∨
    ∃ tm' s' c', r = run E k (.loop ⟨5, 37, none, none⟩ L5 ⟨tm', [], false, 0⟩) s' ∧ Ext s s' ∧ tm'.get 1 = tm.get 1 ∧ tm'.get 2 = some (.ptr (some (bx, 0))) ∧ tm'.get 5 = some (.int .i64 c') ∧ tm'.get 6 = some (.int .i64 ((i + 1 : Nat) : Int)) := by
  subst hr
  obtain ⟨y, t1⟩ := t1
  obtain ⟨hb1, hb2⟩ := hb
  obtain ⟨rst, hrst⟩ := takeN_at ht hw
  rw [dropN_add] at hrst
  have hx : (∃ a u, w = .slice a n u) ∨ (w = .esl ∧ n = 0) := by
    cases hww
    · exact .inl ⟨_, _, rfl⟩
    · exact .inr ⟨rfl, rfl⟩
    · exact .inl ⟨_, _, rfl⟩
  rcases hx with ⟨a, u, rfl⟩ | ⟨rfl, rfl⟩
  · cases hq : ltI 60 (wrapQ .i64 (c + (n : Int))) with
    | true =>
      refine .inl ⟨_, _, by simp (maxSteps := 1000000) (disch := omega) [L5, t1, t2, t5, t6, hb2, ho, hrst, hq] <;> first | done | exact rfl | exact ⟨rfl, rfl⟩ | exact ⟨rfl, rfl, rfl⟩, ⟨by simp only; omega, fun i hi => by simp (disch := omega)⟩, by simp (maxSteps := 1000000) (disch := omega)⟩
    | false =>
      refine .inr ⟨_, _, _, by simp (maxSteps := 1000000) (disch := omega) [L5, t1, t2, t5, t6, hb2, ho, hrst, hq] <;> first | done | exact rfl | exact ⟨rfl, rfl⟩ | exact ⟨rfl, rfl, rfl⟩, ⟨by simp only; omega, fun i hi => by simp (disch := omega)⟩, by simp (maxSteps := 1000000) (disch := omega), by simp (maxSteps := 1000000) (disch := omega) [t2], by simp (maxSteps := 1000000) (disch := omega) <;> first | done | exact rfl | exact ⟨rfl, rfl⟩ | exact ⟨rfl, rfl, rfl⟩, by simp (maxSteps := 1000000) (disch := omega)⟩
  · cases hq : ltI 60 (wrapQ .i64 c) with
    | true =>
      refine .inl ⟨_, _, by simp (maxSteps := 1000000) (disch := omega) [L5, t1, t2, t5, t6, hb2, ho, hrst, hq] <;> first | done | exact rfl | exact ⟨rfl, rfl⟩ | exact ⟨rfl, rfl, rfl⟩, ⟨by simp only; omega, fun i hi => by simp (disch := omega)⟩, by simp (maxSteps := 1000000) (disch := omega)⟩
    | false =>
      refine .inr ⟨_, _, _, by simp (maxSteps := 1000000) (disch := omega) [L5, t1, t2, t5, t6, hb2, ho, hrst, hq] <;> first | done | exact rfl | exact ⟨rfl, rfl⟩ | exact ⟨rfl, rfl, rfl⟩, ⟨by simp only; omega, fun i hi => by simp (disch := omega)⟩, by simp (maxSteps := 1000000) (disch := omega), by simp (maxSteps := 1000000) (disch := omega) [t2], by simp (maxSteps := 1000000) (disch := omega) <;> first | done | exact rfl | exact ⟨rfl, rfl⟩ | exact ⟨rfl, rfl, rfl⟩, by simp (maxSteps := 1000000) (disch := omega)⟩
theorem loop5 {bx nc id off o : Nat} {s0 : S} {bv : V} {sets ways cap cs ro vs} {y : V}
    (hb : Box s0 bx (.slice (some (id, off)) nc cap) bv sets ways) (hid : id < s0.n) (ho : s0.h.get id = some (.cells cs o ro)) (ht : takeN nc (dropN off cs) = some vs) (hww : ∀ w ∈ vs, ∃ n, Wrds s0 w n) :
    ∀ (d i k : Nat) (s : S) (tm : Tr V) (c : Int) (r : TR), d + i = 8 → d + 2 ≤ k → run E k (.loop ⟨5, 37, none, none⟩ L5 ⟨tm, [], false, 0⟩) s = r →
    tm.get 1 = some y → tm.get 2 = some (.ptr (some (bx, 0))) → tm.get 5 = some (.int .i64 c) → tm.get 6 = some (.int .i64 (i : Int)) → Ext s0 s →
    (∃ tm' s', r = .code (.ok .ret ⟨tm', [], false, 0⟩ s') ∧ Ext s0 s' ∧ tm'.get 4 = some (.bool true)) ∨
    ∃ tm' s', r = .code (.ok (.exit 0) ⟨tm', [], false, 0⟩ s') ∧ Ext s0 s' ∧ tm'.get 1 = some y ∧ tm'.get 2 = some (.ptr (some (bx, 0))) := by
  intro d
  induction d with
  | zero =>
    intro i k s tm c r hd hk hr t1 t2 t5 t6 x
    obtain ⟨k, rfl⟩ := fuel_le (show 1 ≤ k by omega)
    subst hr
    have hb2 := x.keep hb.2 hb.1
    by_cases hi : i < nc
    · exact .inr ⟨_, _, by simp (maxSteps := 1000000) (disch := omega) [L5, t1, t2, t5, t6, hb2] <;> first | done | exact rfl | exact ⟨rfl, rfl⟩ | exact ⟨rfl, rfl, rfl⟩, x.trans ⟨by simp only; omega, fun i hi => by simp (disch := omega)⟩, by simp (maxSteps := 1000000) (disch := omega) [t1], by simp (maxSteps := 1000000) (disch := omega) [t2]⟩
    · exact .inr ⟨_, _, by simp (maxSteps := 1000000) (disch := omega) [L5, t1, t2, t5, t6, hb2] <;> first | done | exact rfl | exact ⟨rfl, rfl⟩ | exact ⟨rfl, rfl, rfl⟩, x.trans ⟨by simp only; omega, fun i hi => by simp (disch := omega)⟩, by simp (maxSteps := 1000000) (disch := omega) [t1], by simp (maxSteps := 1000000) (disch := omega) [t2]⟩
  | succ d ih =>
    intro i k s tm c r hd hk hr t1 t2 t5 t6 x
    obtain ⟨k, rfl⟩ := fuel_le (show 1 ≤ k by omega)
    by_cases hi : i < nc
    · have hlen := takeN_len ht
      obtain ⟨w, hw⟩ : ∃ w, vs[i]? = some w := ⟨vs[i], by rw [List.getElem?_eq_getElem (by omega)]⟩
      obtain ⟨n, hn⟩ := hww w (List.mem_of_getElem? hw)
      rcases iter5 hr ⟨y, t1⟩ t2 t5 t6 ⟨Nat.lt_of_lt_of_le hb.1 x.le, x.keep hb.2 hb.1⟩ (Nat.lt_of_lt_of_le hid x.le) (x.keep ho hid) ht hw (hn.ext x) hi (by omega) with ⟨tm', s', e, x1, e4⟩ | ⟨tm', s', c', rfl, x1, f1, f2, f5, f6⟩
      · exact .inl ⟨tm', s', e, x.trans x1, e4⟩
      · exact ih (i + 1) k s' tm' c' _ (by omega) (by omega) rfl (by rw [f1, t1]) f2 f5 f6 (x.trans x1)
    · subst hr
      have hb2 := x.keep hb.2 hb.1
      exact .inr ⟨_, _, by simp (maxSteps := 1000000) (disch := omega) [L5, t1, t2, t5, t6, hb2] <;> first | done | exact rfl | exact ⟨rfl, rfl⟩ | exact ⟨rfl, rfl, rfl⟩, x.trans ⟨by simp only; omega, fun i hi => by simp (disch := omega)⟩, by simp (maxSteps := 1000000) (disch := omega) [t1], by simp (maxSteps := 1000000) (disch := omega) [t2]⟩
theorem zero5 {k bx c : Nat} {s : S} {tm : Tr V} {bv : V} {sets ways r} (hk : 1 ≤ k) (hr : run E k (.loop ⟨5, 37, none, none⟩ L5 ⟨tm, [], false, 0⟩) s = r)
    (t2 : tm.get 2 = some (.ptr (some (bx, 0)))) (t6 : tm.get 6 = some (.int .i64 0)) (hb : Box s bx (.slice none 0 (.exact c)) bv sets ways) :
    ∃ tm' s', r = .code (.ok (.exit 0) ⟨tm', [], false, 0⟩ s') ∧ Ext s s' ∧ tm'.get 1 = tm.get 1 ∧ tm'.get 2 = some (.ptr (some (bx, 0))) := by
  subst hr
  obtain ⟨k, rfl⟩ := fuel_le hk
  have hb2 := hb.2
  exact ⟨_, _, by simp (maxSteps := 1000000) (disch := omega) [L5, t2, t6, hb2] <;> first | done | exact rfl | exact ⟨rfl, rfl⟩ | exact ⟨rfl, rfl, rfl⟩, ⟨by simp only; omega, fun i hi => by simp (disch := omega)⟩, by simp (maxSteps := 1000000) (disch := omega), by simp (maxSteps := 1000000) (disch := omega) [t2]⟩
theorem vast_of {k nc nb nl : Nat} {s : S} {cv : V} {ab al : Option (Nat × Nat)} {capb capl} {sets ways : Int} {r : TR} (hr : run E k (.call 5 [.agg [cv, .slice ab nb capb, .int .i64 sets, .int .i64 ways], .slice al nl capl] none) s = r) (hk : 12 ≤ k) (hv : Cods s cv nc) :
    ∃ s' b, r = .ret (.bool b) false s' ∧ Ext s s' := by
  subst hr
  obtain ⟨k, rfl⟩ := fuel_le (show 1 ≤ k by omega)
  have hlast : ∀ (tm : Tr V) (s' : S), True := fun _ _ => trivial
  cases hv with
  | none c =>
    simp (maxSteps := 1000000) (disch := omega)
    generalize hr : run E k (Task.loop _ _ _) _ = r
    obtain ⟨tm', s', rfl, x1, t1, t2⟩ := zero5 (bx := s.n) (c := c) (bv := .slice ab nb capb) (sets := sets) (ways := ways) (by omega) hr (by simp (maxSteps := 1000000) (disch := omega)) (by simp (maxSteps := 1000000) (disch := omega)) ⟨by simp only; omega, by simp (maxSteps := 1000000) (disch := omega)⟩
    clear hr
    have o1 := (x1.old s.n (by simp only; omega)).trans (show _ = _ by simp (maxSteps := 1000000) (disch := omega); rfl)
    have x0 : Ext s ⟨s.h.put s.n (some (.cells [.slice none 0 (.exact c), .slice ab nb capb, .int .i64 sets, .int .i64 ways] 0 false)), s.n + 1, (s.n, true) :: s.lg⟩ := ⟨by simp only; omega, fun i hi => by simp (disch := omega)⟩
    have x2 := x0.trans x1
    have n2 := x1.le
    simp only at n2
    have t1' := t1.trans (show _ = _ by simp (maxSteps := 1000000) (disch := omega); rfl)
    cases hq : ltI 128 nb with
    | true => 
      simp (maxSteps := 1000000) (disch := omega) [t1', t2, o1, hq]
      exact ⟨x2.le, x2.old⟩
    | false => cases hq2 : ltI 150 nl <;> simp (maxSteps := 1000000) (disch := omega) [t1', t2, o1, hq, hq2] <;> exact ⟨x2.le, x2.old⟩
  | some id off _ cap cs o ro vs hi ho ht hw =>
    simp (maxSteps := 1000000) (disch := omega)
    generalize hr : run E k (Task.loop _ _ _) _ = r
    rcases loop5 (id := id) (off := off) (nc := nc) (cs := cs) (ro := ro) (vs := vs) (bx := s.n) (bv := .slice ab nb capb) (sets := sets) (ways := ways) (s0 := ⟨s.h.put s.n (some (.cells [.slice (some (id, off)) nc cap, .slice ab nb capb, .int .i64 sets, .int .i64 ways] 0 false)), s.n + 1, (s.n, true) :: s.lg⟩) (y := .slice al nl capl) (cap := cap) (o := o) ⟨by simp only; omega, by simp (maxSteps := 1000000) (disch := omega)⟩ (by simp only; omega) (by simp (maxSteps := 1000000) (disch := omega) [ho]) ht (fun w hw' => (hw w hw').imp fun n hn => hn.ext ⟨by simp only; omega, fun i hi => by simp (disch := omega)⟩) 8 0 k _ _ 0 r (by omega) (by omega) hr (by simp (maxSteps := 1000000) (disch := omega)) (by simp (maxSteps := 1000000) (disch := omega)) (by simp (maxSteps := 1000000) (disch := omega)) (by simp (maxSteps := 1000000) (disch := omega)) (Ext.refl _) with ⟨tm', s', rfl, x1, t4⟩ | ⟨tm', s', rfl, x1, t1, t2⟩
    · clear hr
      simp (maxSteps := 1000000) (disch := omega) [t4]
      exact Ext.trans (b := ⟨_, _, _⟩) ⟨by simp only; omega, fun i hi => by simp (disch := omega)⟩ x1
    · clear hr
      have o1 := (x1.old s.n (by simp only; omega)).trans (show _ = _ by simp (maxSteps := 1000000) (disch := omega); rfl)
      have x0 : Ext s ⟨s.h.put s.n (some (.cells [.slice (some (id, off)) nc cap, .slice ab nb capb, .int .i64 sets, .int .i64 ways] 0 false)), s.n + 1, (s.n, true) :: s.lg⟩ := ⟨by simp only; omega, fun i hi => by simp (disch := omega)⟩
      have x2 := x0.trans x1
      have n2 := x1.le
      simp only at n2
      cases hq : ltI 128 nb with
      | true => simp (maxSteps := 1000000) (disch := omega) [t1, t2, o1, hq]; exact ⟨x2.le, x2.old⟩
      | false => cases hq2 : ltI 150 nl <;> simp (maxSteps := 1000000) (disch := omega) [t1, t2, o1, hq, hq2] <;> exact ⟨x2.le, x2.old⟩
end
section
theorem Of_of {k : Nat} {s : S} {v : V} {l : List UInt8} {r : TR} (hr : run E k (.call 7 [v] none) s = r) (hk : 2 ≤ k) (hv : Byts s v l) :
    (r = .ret (.tuple [.ptr none, .int .i64 2]) false s ∧ ¬ SizeOk l.length) ∨ (SizeOk l.length ∧ ∃ s' p, r = .ret (.tuple [.ptr (some (p, 0)), .int .i64 0]) false s' ∧ Ext s s' ∧ Img s' (.ptr (some (p, 0))) l) := by
  subst hr
  obtain ⟨k, rfl⟩ := fuel_le (show 1 ≤ k by omega)
  by_cases h : SizeOk l.length
  · obtain ⟨s', p, e, x, i, id, off, len, cap, rfl, h'⟩ := Of_ok k s v l (by omega) hv h
    exact .inr ⟨h, s', i, e, x, i, id, off, len, cap, rfl, h'⟩
  · refine .inl ⟨?_, h⟩
    cases hv with
    | none c => exact Of_bad k s _ 0 _ (by omega) h
    | some id off len cap cs o ro l hl hi ho ht => subst hl; exact Of_bad k s _ _ _ (by omega) h
theorem watchNew_of {k : Nat} {s : S} {p : V} {l : List UInt8} {n : Int} {r : TR} (hr : run E k (.call 8 [p, .int .i64 n] none) s = r) (hk : 12 ≤ k) (h : Img s p l) (hl : 1 ≤ l.length) (hl2 : l.length ≤ 4096) (hn : 1 ≤ n) (hn2 : n ≤ 4) : ∃ s' p', r = .ret (.tuple [.ptr (some (p', 0)), .int .i64 0]) false s' ∧ Ext s s' ∧ Wat s' (.ptr (some (p', 0))) l := by
  subst hr
  obtain ⟨m, rfl⟩ : ∃ m : Nat, n = m := ⟨n.toNat, by omega⟩
  obtain ⟨s', p', e, x, i, q, rest, rfl, h'⟩ := watchNew_spec k s p l m hk h hl hl2 (by omega) (by omega)
  exact ⟨s', i, e, x, i, q, rest, rfl, h'⟩
theorem Cods.ext {s s' : S} {v : V} {n : Nat} (h : Cods s v n) (e : Ext s s') : Cods s' v n := by
  cases h with
  | none c => exact .none c
  | some id off _ cap cs o ro vs hi ho ht hw => exact .some id off _ cap cs o ro vs (Nat.lt_of_lt_of_le hi e.le) (e.keep ho hi) ht (fun w hw' => (hw w hw').imp fun n hn => hn.ext e)
theorem machNew_of {k nc : Nat} {s : S} {p v : V} {sets ways : Int} {l : List UInt8} {r : TR} (hr : run E k (.call 10 [v, p, .int .i64 sets, .int .i64 ways] none) s = r) (hk : 12 ≤ k) (h : Img s p l) (hl : 1 ≤ l.length) (hl2 : l.length ≤ 4096) (hv : Cods s v nc) :
    (∃ s', r = .ret (.tuple [.ptr none, .int .i64 2]) false s' ∧ Ext s s') ∨ (1 ≤ nc ∧ nc ≤ 4 ∧ ∃ s' p', r = .ret (.tuple [.ptr (some (p', 0)), .int .i64 0]) false s' ∧ Ext s s' ∧ Mach s' (.ptr (some (p', 0))) l) := by
  by_cases hn : nc < 1 ∨ 4 < nc
  · exact .inl (machNew_few hr (by omega) h hl hl2 hv hn)
  · rcases machNew_some hr hk h hl hl2 hv (by omega) (by omega) with h | h
    · exact .inl h
    · exact .inr ⟨by omega, by omega, h⟩
theorem Mach.ext {s s' : S} {v : V} {l : List UInt8} (h : Mach s v l) (e : Ext s s') : Mach s' v l := by
  obtain ⟨i, q, b, ni, hi, A, pb, h1, h2, h3, h4, h5, h6, h7, h8, h9, h10, h11, h12, h13⟩ := h
  exact ⟨i, q, b, ni, hi, A, pb, h1, Nat.lt_of_lt_of_le h2 e.le, Nat.lt_of_lt_of_le h3 e.le, Nat.lt_of_lt_of_le h4 e.le, Nat.lt_of_lt_of_le h5 e.le, e.keep h6 h2, e.keep h7 h3, e.keep h8 h4, h9, h10, fun x hx => (h11 x hx).stay e.stay, e.keep h12 h5, h13.ext e⟩
theorem made_of {k nc : Nat} {s : S} {cv bv : V} {l : List UInt8} {sets ways : Int} {r : TR} (hr : run E k (.call 4 [.agg [cv, bv, .int .i64 sets, .int .i64 ways]] none) s = r) (hk : 13 ≤ k) (hv : Cods s cv nc) (hb : Byts s bv l) :
    (∃ s', r = .ret (.tuple [.ptr none, .ptr none, .bool false]) false s' ∧ Ext s s') ∨ (SizeOk l.length ∧ 1 ≤ nc ∧ nc ≤ 4 ∧ ∃ s' m w, r = .ret (.tuple [.ptr (some (m, 0)), w, .bool true]) false s' ∧ Ext s s' ∧ Mach s' (.ptr (some (m, 0))) l) := by
  subst hr
  obtain ⟨k, rfl⟩ := fuel_le (show 1 ≤ k by omega)
  have hcl : ∃ a cap, cv = .slice a nc cap := by cases hv <;> exact ⟨_, _, rfl⟩
  have hbl : ∃ a cap, bv = .slice a l.length cap := by
    cases hb with
    | none c => exact ⟨_, _, rfl⟩
    | some id off len cap cs o ro l hl hi ho ht => subst hl; exact ⟨_, _, rfl⟩
  obtain ⟨ca, ccap, rfl⟩ := hcl
  obtain ⟨ba, bcap, rfl⟩ := hbl
  simp (maxSteps := 1000000) (disch := omega)
  generalize hr : run E k (Task.call 7 _ none) _ = r
  have x0 : ∀ lg, Ext s ⟨s.h.put s.n (some (.cells [.slice ca nc ccap, .slice ba l.length bcap, .int .i64 sets, .int .i64 ways] 0 false)), s.n + 1, lg⟩ := fun lg => ⟨by simp only; omega, fun i hi => by simp (disch := omega)⟩
  rcases Of_of hr (by omega) (hb.ext (x0 _)) with ⟨rfl, hs⟩ | ⟨hs, s1, p, rfl, x1, im⟩ <;> clear hr
  · simp (maxSteps := 1000000) (disch := omega)
    exact x0 _
  · have n1 := x1.le
    simp only at n1
    have o1 := (x1.old s.n (by simp only; omega)).trans (show _ = _ by simp (maxSteps := 1000000) (disch := omega); rfl)
    have x01 := (x0 _).trans x1
    obtain ⟨g1, g2, g3⟩ := id hs
    simp (maxSteps := 1000000) (disch := omega) [o1]
    generalize hr : run E k (Task.call 10 _ none) _ = r
    have xa : ∀ lg, Ext s1 ⟨s1.h, s1.n, lg⟩ := fun lg => ⟨Nat.le_refl _, fun i hi => rfl⟩
    rcases machNew_of hr (by omega) (im.ext (xa _)) (by omega) g2 ((hv.ext x01).ext (xa _)) with ⟨s2, rfl, x2⟩ | ⟨c1, c4, s2, m, rfl, x2, mm⟩ <;> clear hr
    · simp (maxSteps := 1000000) (disch := omega)
      exact x01.trans ⟨x2.le, x2.old⟩
    · have x2 : Ext s1 s2 := ⟨x2.le, x2.old⟩
      have n2 := x2.le
      have o2 := x2.keep o1 (by omega)
      simp (maxSteps := 1000000) (disch := omega) [o2]
      generalize hr : run E k (Task.call 8 _ none) _ = r
      have xb : ∀ lg, Ext s2 ⟨s2.h, s2.n, lg⟩ := fun lg => ⟨Nat.le_refl _, fun i hi => rfl⟩
      obtain ⟨s3, w, rfl, x3, ww⟩ := watchNew_of hr (by omega) ((im.ext x2).ext (xb _)) (by omega) g2 (by omega) (by omega); clear hr
      have x3 : Ext s2 s3 := ⟨x3.le, x3.old⟩
      simp (maxSteps := 1000000) (disch := omega)
      exact ⟨hs, c1, c4, _, _, ⟨rfl, rfl⟩, (x01.trans x2).trans x3, mm.ext x3⟩
end
section
theorem none17_of {k : Nat} {s : S} {p : V} {l : List UInt8} {r : TR} (hr : run E k (.call 17 [p] none) s = r) (hk : 1 ≤ k) (h : Wat s p l) : ∃ s', r = .ret (.bool false) false s' ∧ Ext s s' := by
  subst hr
  obtain ⟨k, rfl⟩ := fuel_le hk
  obtain ⟨i, q, rest, rfl, h1, h2, h3⟩ := h
  refine ⟨_, by simp (maxSteps := 1000000) (disch := omega) [h2] <;> first | done | exact rfl | exact ⟨rfl, rfl⟩ | exact ⟨rfl, rfl, rfl⟩, ⟨by simp only; omega, fun i hi => by simp (disch := omega)⟩⟩
theorem Same_of {k : Nat} {s : S} {p q : V} {l m : List UInt8} {r : TR} (hr : run E k (.call 18 [p, q] none) s = r) (hk : 3 ≤ k) (h : Img s p l) (h2 : Img s q m) : ∃ s', r = .ret (.bool (decide (l = m))) false s' ∧ Ext s s' := by
  subst hr
  obtain ⟨s', e, e1, e2⟩ := Same_spec k s p q l m hk h h2
  exact ⟨s', e, by omega, fun i hi => by rw [e1]⟩
theorem Right_of {k : Nat} {s : S} {w m : V} {lw lm : List UInt8} {r : TR} (hr : run E k (.call 9 [w, m] none) s = r) (hk : 82 ≤ k) (hw : Wat s w lw) (hm : Mach s m lm) (hl : 1 ≤ lm.length) (hl2 : lm.length ≤ 4096) (hne : lm ≠ lw) : ∃ s', r = .ret (.int .i64 272) false s' ∧ Ext s s' := by
  subst hr
  obtain ⟨k, rfl⟩ := fuel_le (show 1 ≤ k by omega)
  have hw0 := hw
  obtain ⟨i, q, rest, rfl, h1, h2, h3⟩ := hw
  simp (maxSteps := 1000000) (disch := omega)
  generalize hr : run E k (Task.call 16 _ none) _ = r
  obtain ⟨s1, p1, rfl, x1, im⟩ := Memory_of hr (by omega) hm hl hl2; clear hr
  simp (maxSteps := 1000000) (disch := omega)
  generalize hr : run E k (Task.call 17 _ none) _ = r
  obtain ⟨s2, rfl, x2⟩ := none17_of hr (by omega) (hw0.ext x1); clear hr
  have x12 := x1.trans x2
  simp (maxSteps := 1000000) (disch := omega) [x12.keep h2 h1]
  generalize hr : run E k (Task.call 18 _ none) _ = r
  have xa : ∀ lg, Ext s2 ⟨s2.h, s2.n, lg⟩ := fun lg => ⟨Nat.le_refl _, fun i hi => rfl⟩
  obtain ⟨s3, rfl, x3⟩ := Same_of hr (by omega) ((im.ext x2).ext (xa _)) ((h3.ext x12).ext (xa _)); clear hr
  have x3 : Ext s2 s3 := ⟨x3.le, x3.old⟩
  rw [decide_eq_false hne]
  simp (maxSteps := 1000000) (disch := omega)
  exact x12.trans x3
end
section
def kKnown : Kn := ⟨6, [], none, .bool true⟩
attribute [local simp] ovT ovL kKnown needs sameL
/-- the law's own call, where known is known -/
noncomputable def top (k : Nat) : Self := fun t s => task t E (ovT [kKnown] (run E k)) s
theorem law3 {k nc nl : Nat} {s : S} {cv bv : V} {al : Option (Nat × Nat)} {capl} {l : List UInt8} {sets ways at' : Int} (hk : 90 ≤ k) (hv : Cods s cv nc) (hb : Byts s bv l) :
    ∃ s', top k (.call 3 [.agg [cv, bv, .int .i64 sets, .int .i64 ways], .slice al nl capl, .int .i64 at'] none) s = .ret (.bool true) false s' := by
  have hcl : ∃ a cap, cv = .slice a nc cap := by cases hv <;> exact ⟨_, _, rfl⟩
  have hbl : ∃ a cap, bv = .slice a l.length cap := by
    cases hb with
    | none c => exact ⟨_, _, rfl⟩
    | some id off len cap cs o ro l hl hi ho ht => subst hl; exact ⟨_, _, rfl⟩
  obtain ⟨ca, ccap, rfl⟩ := hcl
  obtain ⟨ba, bcap, rfl⟩ := hbl
  simp (maxSteps := 1000000) (disch := omega) [top]
  generalize hr : run E k (Task.call 4 _ none) _ = r
  have x0 : ∀ lg, Ext s ⟨s.h.put s.n (some (.cells [.slice ca nc ccap, .slice ba l.length bcap, .int .i64 sets, .int .i64 ways] 0 false)), s.n + 1, lg⟩ := fun lg => ⟨by simp only; omega, fun i hi => by simp (disch := omega)⟩
  have hm := made_of hr (by omega) (hv.ext (x0 _)) (hb.ext (x0 _)); clear hr
  rcases hm with ⟨s1, rfl, x1⟩ | ⟨hs, c1, c4, s1, m, w, rfl, x1, mm⟩
  · have n1 := x1.le
    simp only at n1
    have o1 := (x1.old s.n (by simp only; omega)).trans (show _ = _ by simp (maxSteps := 1000000) (disch := omega); rfl)
    have x01 := (x0 _).trans x1
    simp (maxSteps := 1000000) (disch := omega) [o1]
    generalize hr : run E k (Task.call 5 _ none) _ = r
    have xa : ∀ lg, Ext s1 ⟨s1.h, s1.n, lg⟩ := fun lg => ⟨Nat.le_refl _, fun i hi => rfl⟩
    obtain ⟨s2, b, rfl, x2⟩ := vast_of hr (by omega) ((hv.ext x01).ext (xa _)); clear hr
    cases b <;> simp (maxSteps := 1000000) (disch := omega)
  · have n1 := x1.le
    simp only at n1
    have o1 := (x1.old s.n (by simp only; omega)).trans (show _ = _ by simp (maxSteps := 1000000) (disch := omega); rfl)
    have x01 := (x0 _).trans x1
    obtain ⟨g1, g2, g3⟩ := id hs
    simp (maxSteps := 1000000) (disch := omega) [o1]
    generalize hr : run E k (Task.call 5 _ none) _ = r
    have xa : ∀ lg, Ext s1 ⟨s1.h, s1.n, lg⟩ := fun lg => ⟨Nat.le_refl _, fun i hi => rfl⟩
    obtain ⟨s2, b, rfl, x2⟩ := vast_of hr (by omega) ((hv.ext x01).ext (xa _)); clear hr
    have x2 : Ext s1 s2 := ⟨x2.le, x2.old⟩
    have n2 := x2.le
    have o2 := x2.keep o1 (by omega)
    cases b with
    | true => simp (maxSteps := 1000000) (disch := omega)
    | false =>
      by_cases ha : at' < 0
      · simp (maxSteps := 1000000) (disch := omega) [o2]
      by_cases hb' : (l.length : Int) ≤ at'
      · simp (maxSteps := 1000000) (disch := omega) [o2]
      obtain ⟨i, rfl⟩ : ∃ i : Nat, at' = i := ⟨at'.toNat, by omega⟩
      have hi : i < l.length := by omega
      obtain ⟨c, rest, d1, d2⟩ := drop_bytes l i hi
      have hc : c.toNat ≤ 255 := by have := c.toNat_lt; omega
      have x02 := x01.trans x2
      have hbs := hb.ext x02
      obtain ⟨id, off, cap, cs, o, ro, e, hi', ho', ht⟩ := hbs.inv (by omega)
      cases e
      simp (maxSteps := 1000000) (disch := omega) [o2, ho', ht, d1, d2, iXor_u8_1 c.toNat hc]
      generalize hr : run E k (Task.call 7 _ none) _ = r
      have y1 : ∀ lg, Ext s2 ⟨(s2.h.put s2.n (some (Ob.cells (byteCells l) 1 false))).put s2.n (some (Ob.cells (byteCells (flip1 l i)) 1 false)), s2.n + 1, lg⟩ := fun lg => ⟨by simp only; omega, fun i hi => by simp (disch := omega)⟩
      have hfl := flip1_len l i
      have hby : ∀ lg, Byts ⟨(s2.h.put s2.n (some (Ob.cells (byteCells l) 1 false))).put s2.n (some (Ob.cells (byteCells (flip1 l i)) 1 false)), s2.n + 1, lg⟩ (.slice (some (s2.n, 0)) (flip1 l i).length (.opn 0)) (flip1 l i) := fun lg => .full (o := 1) (ro := false) (by simp only; omega) (by simp (maxSteps := 1000000) (disch := omega))
      rw [hfl] at hby
      rcases Of_of hr (by omega) (hby _) with ⟨rfl, hns⟩ | ⟨_, s3, p, rfl, x3, im⟩
      · exact absurd (by rw [hfl]; exact hs) hns
      clear hr
      have y3 := (y1 _).trans x3
      have n3 := y3.le
      have o3 := y3.keep o2 (by omega)
      simp (maxSteps := 1000000) (disch := omega) [o3]
      generalize hr : run E k (Task.call 8 _ none) _ = r
      have xb : ∀ lg, Ext s3 ⟨s3.h, s3.n, lg⟩ := fun lg => ⟨Nat.le_refl _, fun i hi => rfl⟩
      obtain ⟨s4, w4, rfl, x4, ww⟩ := watchNew_of hr (by omega) (im.ext (xb _)) (by omega) (by omega) (by omega) (by omega); clear hr
      have x4 : Ext s3 s4 := ⟨x4.le, x4.old⟩
      simp (maxSteps := 1000000) (disch := omega)
      generalize hr : run E k (Task.call 9 _ none) _ = r
      obtain ⟨s5, rfl, x5⟩ := Right_of hr (by omega) ww ((mm.ext x2).ext (y3.trans x4)) (by omega) g2 (fun e => flip1_ne l i hi e.symm); clear hr
      simp (maxSteps := 1000000) (disch := omega)
end
end Go.Proofs.Ytfcakcaepbmefaa
