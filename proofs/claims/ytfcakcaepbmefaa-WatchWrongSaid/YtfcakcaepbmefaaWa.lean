/- What images, homes, watches, lines, caches and cores that are made come to in the abstract machine. No condition. -/
import Derived.Test.YtfcakcaepbmefaaWz
import Derived.Test.YtfcakcaepbmefaaWy
namespace Go.Proofs.Ytfcakcaepbmefaa
open Go Go.AM
set_option linter.unusedSimpArgs false
set_option linter.unusedVariables false
set_option linter.all false
set_option maxRecDepth 100000
set_option maxHeartbeats 4000000
attribute [local simp] run_succ task callTask ev evSeq evRegion_f evOps evCond evBlock exec1 guardOk guardNot notIs exec opMove opPick pickOf opAlloc allocOf opBox boxOf opBuild buildOf opLoad loadAt opStore storeAt putCells opNilCheck nilCheckOf
  opUn unOf opConvert convOf opIface ifaceOf opMakeFunc opMakeSlice makeSliceOf opSlice sliceOf sliceSl sub3 bounds3 boundOf bothOr opFieldAddr fieldAddrOf opField fieldOf opIndexAddr indexAddrOf opIndex indexOf inside opLookup opMapUpdate opExtract extractOf opPanic panicOf makeMapOf
  retV Q.val Q.opt Q.run after setTm putTm opd opds tmV Tr.get_put leaf_get ofV ofVA ofVL opBin binAt binOf binInt binStr eqOp eqInt eqBool eqPtr eqSlice eqMap eqFunc eqIface eqStr eqAgg isNilIface boolIs optV
  opBuildSlice buildSliceOf Env.desc fillV repl pairs opCall callOf extCall builtinOf type1 type2 head1 head2 builtinAppend isIntD lenOf srcOf appendAt roomOk dropN takeN noMore appendOn appendNew lenAt capAt builtinCopy
  afterBody AM.unwind resultsOf one afterCall orRet listTm takeN_all isShift kindEq intOp iAdd iSub iMul iLss iLeq iGtr iGeq iEql iNeq iShl iShr iQuo iRem V.cells V.isCell allCells partOf splice over placeOfField elemPlace knownFs aggOpt zeroOf isU8 isIface
  afterLoop afterScope asCode strOp undefV isConst not_false_eq_true
  List.getElem?_cons_succ List.getElem?_cons_zero S.new S.rd S.wr nat_ne ble_t ble_f beq_t beq_f ltI_t ltI_f eqI_t eqI_f isub_def iadd_def imul_def wrapQ_i64 wrapQ_u32 wrapQ_u8 iAnd_pred inside_in bytes_len bytes_all bytesOf_cells over_bytes repl_len1
attribute [local simp] ng_eq ext_eq
attribute [local simp] fiOfFn fn3 bd3 rs3 nt3 body3 Try.f3 fn4 bd4 rs4 nt4 body4 Try.f4 fn5 bd5 rs5 nt5 body5 Try.f5 fn6 bd6 rs6 nt6 body6 Try.f6 fn7 bd7 rs7 nt7 body7 Try.f7 fn8 bd8 rs8 nt8 body8 Try.f8 fn9 bd9 rs9 nt9 body9 Try.f9 fn10 bd10 rs10 nt10 body10 Try.f10 fn11 bd11 rs11 nt11 body11 Try.f11 fn12 bd12 rs12 nt12 body12 Try.f12 fn13 bd13 rs13 nt13 body13 Try.f13 fn14 bd14 rs14 nt14 body14 Try.f14 fn15 bd15 rs15 nt15 body15 Try.f15 fn16 bd16 rs16 nt16 body16 Try.f16 fn17 bd17 rs17 nt17 body17 Try.f17 fn18 bd18 rs18 nt18 body18 Try.f18 fn19 bd19 rs19 nt19 body19 Try.f19 fn20 bd20 rs20 nt20 body20 Try.f20 fn21 bd21 rs21 nt21 body21 Try.f21 fn22 bd22 rs22 nt22 body22 Try.f22 fn23 bd23 rs23 nt23 body23 Try.f23 fn24 bd24 rs24 nt24 body24 Try.f24 fn25 bd25 rs25 nt25 body25 Try.f25 fn26 bd26 rs26 nt26 body26 Try.f26 fn27 bd27 rs27 nt27 body27 Try.f27 fn28 bd28 rs28 nt28 body28 Try.f28 fn29 bd29 rs29 nt29 body29 Try.f29 fn30 bd30 rs30 nt30 body30 Try.f30 fn31 bd31 rs31 nt31 body31 Try.f31 fn32 bd32 rs32 nt32 body32 Try.f32 fn33 bd33 rs33 nt33 body33 Try.f33 fn34 bd34 rs34 nt34 body34 Try.f34 fn35 bd35 rs35 nt35 body35 Try.f35 fn36 bd36 rs36 nt36 body36 Try.f36 fn37 bd37 rs37 nt37 body37 Try.f37 fn38 bd38 rs38 nt38 body38 Try.f38 fn39 bd39 rs39 nt39 body39 Try.f39 fn40 bd40 rs40 nt40 body40 Try.f40 fn41 bd41 rs41 nt41 body41 Try.f41 fn42 bd42 rs42 nt42 body42 Try.f42 fn43 bd43 rs43 nt43 body43 Try.f43 fn44 bd44 rs44 nt44 body44 Try.f44 fn45 bd45 rs45 nt45 body45 Try.f45 fn46 bd46 rs46 nt46 body46 Try.f46 fn47 bd47 rs47 nt47 body47 Try.f47 fn48 bd48 rs48 nt48 body48 Try.f48 fn49 bd49 rs49 nt49 body49 Try.f49 fn50 bd50 rs50 nt50 body50 Try.f50 fn51 bd51 rs51 nt51 body51 Try.f51 fn52 bd52 rs52 nt52 body52 Try.f52 fn53 bd53 rs53 nt53 body53 Try.f53 fn54 bd54 rs54 nt54 body54 Try.f54 fn55 bd55 rs55 nt55 body55 Try.f55 fn56 bd56 rs56 nt56 body56 Try.f56 fn57 bd57 rs57 nt57 body57 Try.f57 fn58 bd58 rs58 nt58 body58 Try.f58 fn59 bd59 rs59 nt59 body59 Try.f59 fn60 bd60 rs60 nt60 body60 Try.f60 fn61 bd61 rs61 nt61 body61 Try.f61 fn62 bd62 rs62 nt62 body62 Try.f62 fn63 bd63 rs63 nt63 body63 Try.f63 fn64 bd64 rs64 nt64 body64 Try.f64 fn65 bd65 rs65 nt65 body65 Try.f65 fn66 bd66 rs66 nt66 body66 Try.f66 fn67 bd67 rs67 nt67 body67 Try.f67 fn68 bd68 rs68 nt68 body68 Try.f68 fn69 bd69 rs69 nt69 body69 Try.f69 fn70 bd70 rs70 nt70 body70 Try.f70 fn71 bd71 rs71 nt71 body71 Try.f71 fn72 bd72 rs72 nt72 body72 Try.f72 fn73 bd73 rs73 nt73 body73 Try.f73 fn74 bd74 rs74 nt74 body74 Try.f74 fn75 bd75 rs75 nt75 body75 Try.f75 fn76 bd76 rs76 nt76 body76 Try.f76 fn77 bd77 rs77 nt77 body77 Try.f77 fn78 bd78 rs78 nt78 body78 Try.f78 fn79 bd79 rs79 nt79 body79 Try.f79 fn80 bd80 rs80 nt80 body80 Try.f80 fn81 bd81 rs81 nt81 body81 Try.f81 fn82 bd82 rs82 nt82 body82 Try.f82 fn83 bd83 rs83 nt83 body83 Try.f83 fn84 bd84 rs84 nt84 body84 Try.f84 ty2 t2 ty3 t3 ty4 t4 ty5 t5 ty9 t9 ty22 t22 ty23 t23 ty25 t25 ty26 t26 ty27 t27 ty28 t28 ty33 t33 ty34 t34 ty43 t43 ty45 t45 ty46 t46 ty47 t47 ty49 t49 ty51 t51 ty52 t52 ty54 t54 ty57 t57 ty59 t59 ty61 t61 ty66 t66 ty67 t67 ty68 t68 ty69 t69 ty71 t71 ty72 t72 ty73 t73 ty75 t75 ty76 t76 ty78 t78 ty82 t82 ty84 t84 ty87 t87 ty88 t88 ty89 t89 ty90 t90 ty92 t92 ty95 t95 ty98 t98 ty102 t102 ty103 t103 ty112 t112 ty113 t113 ty115 t115 ty120 t120 ty121 t121 ty122 t122 ty124 t124 ty128 t128 ty131 t131 ty133 t133 ty135 t135 ty137 t137 ty139 t139 ty142 t142 ty143 t143 ty145 t145 ty147 t147 ty148 t148 ty151 t151 ty152 t152 ty154 t154 ty158 t158 ty164 t164 ty172 t172 ty173 t173 ty175 t175 ty176 t176 ty178 t178 ty185 t185 ty190 t190 ty193 t193 ty195 t195 ty196 t196 ty213 t213 ty215 t215
attribute [local simp] eqv2 eqv3 eqv4 eqv5 eqv9 eqv22 eqv23 eqv26 eqv27 eqv28 eqv33 eqv34 eqv43 eqv45 eqv46 eqv47 eqv52 eqv57 eqv67 eqv68 eqv69 eqv72 eqv73 eqv76 eqv82 eqv84 eqv87 eqv88 eqv89 eqv90 eqv95 eqv98 eqv103 eqv112 eqv121 eqv122 eqv128 eqv135 eqv143 eqv145 eqv148 eqv151 eqv152 eqv158 eqv176 eqv190 eqv195 eqv196 eqv213
section
theorem new_small (k : Nat) (s : S) (n : Int) (h : n < 16) : run E (k+1) (.call 11 [.int .i64 n] none) s = .ret (.tuple [.ptr none, .int .i64 2]) false s := by
  simp (maxSteps := 1000000) (disch := omega)
theorem new_big (k : Nat) (s : S) (n : Int) (h : 4096 < n) : run E (k+1) (.call 11 [.int .i64 n] none) s = .ret (.tuple [.ptr none, .int .i64 2]) false s := by
  simp (maxSteps := 1000000) (disch := omega)
theorem new_mid (k : Nat) (s : S) (m : Nat) (h : 16 ≤ m) (h2 : m ≤ 4096) (h3 : m &&& (m - 1) ≠ 0) : run E (k+1) (.call 11 [.int .i64 (m : Int)] none) s = .ret (.tuple [.ptr none, .int .i64 2]) false s := by
  simp (maxSteps := 1000000) (disch := omega)
theorem new_bad (k : Nat) (s : S) (m : Nat) (hk : 1 ≤ k) (h : ¬ SizeOk m) : run E k (.call 11 [.int .i64 (m : Int)] none) s = .ret (.tuple [.ptr none, .int .i64 2]) false s := by
  obtain ⟨k, rfl⟩ : ∃ j, k = j + 1 := ⟨k - 1, by omega⟩
  by_cases h1 : m < 16
  · exact new_small k s m (by omega)
  · by_cases h2 : 4096 < m
    · exact new_big k s m (by omega)
    · exact new_mid k s m (by omega) (by omega) (fun h3 => h ⟨by omega, by omega, h3⟩)
theorem new_ok (k : Nat) (s : S) (m : Nat) (hk : 1 ≤ k) (h : SizeOk m) : run E k (.call 11 [.int .i64 (m : Int)] none) s =
    .ret (.tuple [.ptr (some (s.n + 1, 0)), .int .i64 0]) false ((s.new (.cells (repl m [.int .u8 0]) 0 false)).new (.cells [.slice (some (s.n, 0)) m (.exact m)] 0 false)) := by
  obtain ⟨h, h2, h3⟩ := h
  obtain ⟨k, rfl⟩ : ∃ j, k = j + 1 := ⟨k - 1, by omega⟩
  simp (maxSteps := 1000000) (disch := omega)
theorem Of_bad (k : Nat) (s : S) (a : Option (Nat × Nat)) (m : Nat) (cap : Cap) (hk : 1 ≤ k) (h : ¬ SizeOk m) : run E (k + 1) (.call 7 [.slice a m cap] none) s = .ret (.tuple [.ptr none, .int .i64 2]) false s := by
  simp (maxSteps := 1000000) (disch := omega) [new_bad _ _ _ hk h]
theorem Of_ok (k : Nat) (s : S) (v : V) (l : List UInt8) (hk : 1 ≤ k) (hv : Byts s v l) (h : SizeOk l.length) : ∃ s' p, run E (k + 1) (.call 7 [v] none) s = .ret (.tuple [p, .int .i64 0]) false s' ∧ Ext s s' ∧ Img s' p l := by
  have h' := h
  obtain ⟨h1, h2, h3⟩ := h'
  cases hv with
  | none c => simp at h1
  | some id off len cap cs o ro l hl hi ho ht => 
    subst hl
    simp (maxSteps := 1000000) (disch := omega) [new_ok _ _ _ hk h, ho, ht]
    refine ⟨_, _, ⟨rfl, rfl⟩, ⟨by simp only; omega, fun i hi => by simp (disch := omega)⟩, _, _, _, _, _, rfl, by simp, by simp; exact ⟨rfl, rfl⟩, .full (o := 0) (ro := false) (by simp only; omega) (by simp)⟩

theorem eqB_spec : ∀ a b : List UInt8, eqB a b = decide (a = b)
  | [], [] => by simp [eqB]
  | [], _ :: _ => by simp [eqB]
  | _ :: _, [] => by simp [eqB]
  | a :: x, b :: y => by
    simp only [eqB, beq_dec, eqB_spec x y]
    by_cases h : a = b
    · subst h; simp
    · rw [decide_eq_false (fun e => h (UInt8.toNat_inj.1 e))]; simp [h]
theorem Equal_spec (k : Nat) (s : S) (a b : V) (la lb : List UInt8) (ha : Byts s a la) (hb : Byts s b lb) : ∃ s', run E (k + 1) (.call 37 [a, b] none) s = .ret (.bool (decide (la = lb))) false s' ∧ s'.h = s.h ∧ s'.n = s.n := by
  cases ha with
  | none c =>
    cases hb with
    | none c' => simp (maxSteps := 1000000) (disch := omega) [eqB_spec]
    | some id off len cap cs o ro l hl hi ho ht => simp (maxSteps := 1000000) (disch := omega) [eqB_spec, ho, ht]
  | some id off len cap cs o ro l hl hi ho ht =>
    cases hb with
    | none c' => simp (maxSteps := 1000000) (disch := omega) [eqB_spec, ho, ht]
    | some id2 off2 len2 cap2 cs2 o2 ro2 l2 hl2 hi2 ho2 ht2 => simp (maxSteps := 1000000) (disch := omega) [eqB_spec, ho, ht, ho2, ht2]
end
section
theorem fuel_le {c k : Nat} (h : c ≤ k) : ∃ j, k = j + c := ⟨k - c, by omega⟩
theorem Copy_spec (k : Nat) (s : S) (p : V) (l : List UInt8) (hk : 3 ≤ k) (h : Img s p l) (hl : 1 ≤ l.length) (hl2 : l.length ≤ 4096) : ∃ s' p', run E k (.call 15 [p] none) s = .ret p' false s' ∧ Ext s s' ∧ Img s' p' l := by
  obtain ⟨k, rfl⟩ := fuel_le hk
  obtain ⟨i, id, off, len, cap, rfl, hi, ho, hb⟩ := h
  cases hb with
  | some _ _ _ _ cs o ro _ hl' hi' ho' ht =>
    subst hl'
    simp (maxSteps := 1000000) (disch := omega) [ho, ho', ht]
    refine ⟨_, _, ⟨rfl, rfl⟩, ⟨by simp only; omega, fun i hi => by simp (disch := omega)⟩, _, _, _, _, _, rfl, by simp, by simp; exact ⟨rfl, rfl⟩, .full (o := 1) (ro := false) (by simp only; omega) (by simp)⟩
/-- a home of no entries -/
def Hom (s : S) (p : V) (l : List UInt8) : Prop :=
  ∃ i m q, p = .ptr (some (i, 0)) ∧ i < s.n ∧ s.h.get i = some (.cells [.ptr (some (q, 0)), m] 0 false) ∧ Img s (.ptr (some (q, 0))) l
theorem Hom.ext {s s' : S} {v : V} {l : List UInt8} (h : Hom s v l) (e : Ext s s') : Hom s' v l := by
  obtain ⟨i, m, q, h1, h2, h3, h4⟩ := h
  exact ⟨i, m, q, h1, Nat.lt_of_lt_of_le h2 e.le, e.keep h3 h2, h4.ext e⟩
theorem homeNew_spec (k : Nat) (s : S) (p : V) (l : List UInt8) (hk : 4 ≤ k) (h : Img s p l) (hl : 1 ≤ l.length) (hl2 : l.length ≤ 4096) : ∃ s' p', run E k (.call 22 [p] none) s = .ret (.tuple [p', .int .i64 0]) false s' ∧ Ext s s' ∧ Hom s' p' l := by
  obtain ⟨k, rfl⟩ := fuel_le hk
  obtain ⟨i, id, off, len, cap, rfl, hi, ho, hb⟩ := h
  cases hb with
  | some _ _ _ _ cs o ro _ hl' hi' ho' ht =>
    subst hl'
    simp (maxSteps := 1000000) (disch := omega) [ho, ho', ht]
    refine ⟨_, _, ⟨rfl, rfl⟩, ⟨by simp only; omega, fun i hi => by simp (disch := omega)⟩, _, _, _, rfl, by simp only; omega, by simp; exact ⟨rfl, rfl⟩, _, _, _, _, _, rfl, by simp only; omega, by simp; exact ⟨rfl, rfl⟩, .full (o := 1) (ro := false) (by simp only; omega) (by simp)⟩
theorem homeMem_spec (k : Nat) (s : S) (p : V) (l : List UInt8) (hk : 5 ≤ k) (h : Hom s p l) (hl : 1 ≤ l.length) (hl2 : l.length ≤ 4096) : ∃ s' p', run E k (.call 34 [p] none) s = .ret p' false s' ∧ Ext s s' ∧ Img s' p' l := by
  obtain ⟨k, rfl⟩ := fuel_le hk
  obtain ⟨a, m, q, rfl, ha, hoa, i, id, off, len, cap, e, hi, ho, hb⟩ := h
  cases e
  cases hb with
  | some _ _ _ _ cs o ro _ hl' hi' ho' ht =>
    subst hl'
    simp (maxSteps := 1000000) (disch := omega) [ho, ho', ht, hoa]
    refine ⟨_, _, ⟨rfl, rfl⟩, ⟨by simp only; omega, fun i hi => by simp (disch := omega)⟩, _, _, _, _, _, rfl, by simp, by simp; exact ⟨rfl, rfl⟩, .full (o := 1) (ro := false) (by simp only; omega) (by simp)⟩
theorem Size_spec (k : Nat) (s : S) (p : V) (l : List UInt8) (hk : 1 ≤ k) (h : Img s p l) : ∃ s', run E k (.call 19 [p] none) s = .ret (.int .i64 l.length) false s' ∧ s'.h = s.h ∧ s'.n = s.n := by
  obtain ⟨k, rfl⟩ := fuel_le hk
  obtain ⟨i, id, off, len, cap, rfl, hi, ho, hb⟩ := h
  cases hb with
  | some _ _ _ _ cs o ro _ hl' hi' ho' ht =>
    subst hl'
    simp (maxSteps := 1000000) (disch := omega) [ho, ho', ht]
theorem Same_spec (k : Nat) (s : S) (p q : V) (l m : List UInt8) (hk : 3 ≤ k) (h : Img s p l) (h2 : Img s q m) : ∃ s', run E k (.call 18 [p, q] none) s = .ret (.bool (decide (l = m))) false s' ∧ s'.h = s.h ∧ s'.n = s.n := by
  obtain ⟨k, rfl⟩ := fuel_le hk
  obtain ⟨i, id, off, len, cap, rfl, hi, ho, hb⟩ := h
  obtain ⟨i2, id2, off2, len2, cap2, rfl, hi2, ho2, hb2⟩ := h2
  cases hb with
  | some _ _ _ _ cs o ro _ hl' hi' ho' ht =>
    cases hb2 with
    | some _ _ _ _ cs2 o2 ro2 _ hl2' hi2' ho2' ht2 =>
      subst hl' hl2'
      simp (maxSteps := 2000000) (disch := first | omega | decide +kernel) [evRegion, opsOk_t, ordered_t, ordered_f, evDraw, drawCx, consSeg, aliveOk, segsOk, segOk, apartOk, sameIns, AM.within, clash, hits, oldOf, logs, insOf, isInsert, noDst, insLg,  ho, ho', ht, ho2, ho2', ht2, eqB_spec]
end
section
/-- a watch of an image -/
def Wat (s : S) (p : V) (l : List UInt8) : Prop :=
  ∃ i q rest, p = .ptr (some (i, 0)) ∧ i < s.n ∧ s.h.get i = some (.cells (.ptr (some (q, 0)) :: rest) 0 false) ∧ Img s (.ptr (some (q, 0))) l
theorem Wat.ext {s s' : S} {v : V} {l : List UInt8} (h : Wat s v l) (e : Ext s s') : Wat s' v l := by
  obtain ⟨i, q, rest, h1, h2, h3, h4⟩ := h
  exact ⟨i, q, rest, h1, Nat.lt_of_lt_of_le h2 e.le, e.keep h3 h2, h4.ext e⟩
theorem watchNew_1 (k : Nat) (s : S) (p : V) (l : List UInt8) (hk : 12 ≤ k) (h : Img s p l) (hl : 1 ≤ l.length) (hl2 : l.length ≤ 4096) : ∃ s' p', run E k (.call 8 [p, .int .i64 1] none) s = .ret (.tuple [p', .int .i64 0]) false s' ∧ Ext s s' ∧ Wat s' p' l := by
  obtain ⟨k, rfl⟩ := fuel_le hk
  obtain ⟨i, id, off, len, cap, rfl, hi, ho, hb⟩ := h
  cases hb with
  | some _ _ _ _ cs o ro _ hl' hi' ho' ht =>
    subst hl'
    simp (maxSteps := 1000000) (disch := omega) [ho, ho', ht]
    refine ⟨_, _, ⟨rfl, rfl⟩, ⟨by simp only; omega, fun i hi => by simp (disch := omega)⟩, _, _, _, rfl, by simp only; omega, by simp; exact ⟨rfl, rfl⟩, _, _, _, _, _, rfl, by simp only; omega, by simp (disch := omega); exact ⟨rfl, rfl⟩, .full (o := 1) (ro := false) (by simp only; omega) (by simp (disch := omega))⟩
theorem watchNew_2 (k : Nat) (s : S) (p : V) (l : List UInt8) (hk : 12 ≤ k) (h : Img s p l) (hl : 1 ≤ l.length) (hl2 : l.length ≤ 4096) : ∃ s' p', run E k (.call 8 [p, .int .i64 2] none) s = .ret (.tuple [p', .int .i64 0]) false s' ∧ Ext s s' ∧ Wat s' p' l := by
  obtain ⟨k, rfl⟩ := fuel_le hk
  obtain ⟨i, id, off, len, cap, rfl, hi, ho, hb⟩ := h
  cases hb with
  | some _ _ _ _ cs o ro _ hl' hi' ho' ht =>
    subst hl'
    simp (maxSteps := 1000000) (disch := omega) [ho, ho', ht]
    refine ⟨_, _, ⟨rfl, rfl⟩, ⟨by simp only; omega, fun i hi => by simp (disch := omega)⟩, _, _, _, rfl, by simp only; omega, by simp; exact ⟨rfl, rfl⟩, _, _, _, _, _, rfl, by simp only; omega, by simp (disch := omega); exact ⟨rfl, rfl⟩, .full (o := 1) (ro := false) (by simp only; omega) (by simp (disch := omega))⟩
theorem watchNew_3 (k : Nat) (s : S) (p : V) (l : List UInt8) (hk : 12 ≤ k) (h : Img s p l) (hl : 1 ≤ l.length) (hl2 : l.length ≤ 4096) : ∃ s' p', run E k (.call 8 [p, .int .i64 3] none) s = .ret (.tuple [p', .int .i64 0]) false s' ∧ Ext s s' ∧ Wat s' p' l := by
  obtain ⟨k, rfl⟩ := fuel_le hk
  obtain ⟨i, id, off, len, cap, rfl, hi, ho, hb⟩ := h
  cases hb with
  | some _ _ _ _ cs o ro _ hl' hi' ho' ht =>
    subst hl'
    simp (maxSteps := 1000000) (disch := omega) [ho, ho', ht]
    refine ⟨_, _, ⟨rfl, rfl⟩, ⟨by simp only; omega, fun i hi => by simp (disch := omega)⟩, _, _, _, rfl, by simp only; omega, by simp; exact ⟨rfl, rfl⟩, _, _, _, _, _, rfl, by simp only; omega, by simp (disch := omega); exact ⟨rfl, rfl⟩, .full (o := 1) (ro := false) (by simp only; omega) (by simp (disch := omega))⟩
theorem watchNew_4 (k : Nat) (s : S) (p : V) (l : List UInt8) (hk : 12 ≤ k) (h : Img s p l) (hl : 1 ≤ l.length) (hl2 : l.length ≤ 4096) : ∃ s' p', run E k (.call 8 [p, .int .i64 4] none) s = .ret (.tuple [p', .int .i64 0]) false s' ∧ Ext s s' ∧ Wat s' p' l := by
  obtain ⟨k, rfl⟩ := fuel_le hk
  obtain ⟨i, id, off, len, cap, rfl, hi, ho, hb⟩ := h
  cases hb with
  | some _ _ _ _ cs o ro _ hl' hi' ho' ht =>
    subst hl'
    simp (maxSteps := 1000000) (disch := omega) [ho, ho', ht]
    refine ⟨_, _, ⟨rfl, rfl⟩, ⟨by simp only; omega, fun i hi => by simp (disch := omega)⟩, _, _, _, rfl, by simp only; omega, by simp; exact ⟨rfl, rfl⟩, _, _, _, _, _, rfl, by simp only; omega, by simp (disch := omega); exact ⟨rfl, rfl⟩, .full (o := 1) (ro := false) (by simp only; omega) (by simp (disch := omega))⟩
theorem watchNew_spec (k : Nat) (s : S) (p : V) (l : List UInt8) (n : Nat) (hk : 12 ≤ k) (h : Img s p l) (hl : 1 ≤ l.length) (hl2 : l.length ≤ 4096) (hn : 1 ≤ n) (hn2 : n ≤ 4) : ∃ s' p', run E k (.call 8 [p, .int .i64 (n : Int)] none) s = .ret (.tuple [p', .int .i64 0]) false s' ∧ Ext s s' ∧ Wat s' p' l := by
  rcases (show n = 1 ∨ n = 2 ∨ n = 3 ∨ n = 4 by omega) with rfl | rfl | rfl | rfl
  · exact watchNew_1 k s p l hk h hl hl2
  · exact watchNew_2 k s p l hk h hl hl2
  · exact watchNew_3 k s p l hk h hl hl2
  · exact watchNew_4 k s p l hk h hl hl2
end
section
def SetsOk (a : Int) : Prop := ∃ m : Nat, a = m ∧ 1 ≤ m ∧ m ≤ 64 ∧ m &&& (m - 1) = 0
def WaysOk (a : Int) : Prop := ∃ m : Nat, a = m ∧ 1 ≤ m ∧ m ≤ 8
theorem linesNew_ok {k : Nat} {s : S} {a b : Int} {r : TR} (hr : run E k (.call 46 [.int .i64 a, .int .i64 b] none) s = r) (hk : 1 ≤ k) (ha : SetsOk a) (hb : WaysOk b) : ∃ s' p, r = .ret (.tuple [.ptr (some (p, 0)), .int .i64 0]) false s' ∧ Ext s s' ∧ Lns s' s.n (.ptr (some (p, 0))) := by
  subst hr
  obtain ⟨k, rfl⟩ := fuel_le hk
  obtain ⟨m, rfl, h1, h2, h3⟩ := ha
  obtain ⟨n, rfl, h4, h5⟩ := hb
  refine ⟨_, s.n + 1, by simp (maxSteps := 1000000) (disch := omega) <;> first | done | exact rfl | exact ⟨rfl, rfl⟩ | exact ⟨rfl, rfl, rfl⟩, ⟨by simp only; omega, fun i hi => by simp (disch := omega)⟩, s.n + 1, s.n, m, n, rfl, by omega, by omega, by simp only; omega, by simp only; omega, by simp (maxSteps := 1000000) (disch := omega), by simp (maxSteps := 1000000) (disch := omega), by omega, by omega, by omega, by omega⟩
theorem linesNew_bad (k : Nat) (s : S) (a b : Int) (hk : 1 ≤ k) (h : ¬ (SetsOk a ∧ WaysOk b)) : run E k (.call 46 [.int .i64 a, .int .i64 b] none) s = .ret (.tuple [.ptr none, .int .i64 2]) false s := by
  obtain ⟨k, rfl⟩ := fuel_le hk
  by_cases h1 : a < 1
  · simp (maxSteps := 1000000) (disch := omega)
  by_cases h2 : 64 < a
  · simp (maxSteps := 1000000) (disch := omega)
  obtain ⟨m, rfl⟩ : ∃ m : Nat, a = m := ⟨a.toNat, by omega⟩
  by_cases h3 : m &&& (m - 1) = 0
  · by_cases h4 : b < 1
    · simp (maxSteps := 1000000) (disch := omega)
    by_cases h5 : 8 < b
    · simp (maxSteps := 1000000) (disch := omega)
    exact absurd ⟨⟨m, rfl, by omega, by omega, h3⟩, b.toNat, by omega, by omega, by omega⟩ h
  · simp (maxSteps := 1000000) (disch := omega)
theorem cacheNew_ok {k : Nat} {s : S} {i a b : Int} {r : TR} (hr : run E k (.call 25 [.int .i64 i, .int .i64 a, .int .i64 b] none) s = r) (hk : 2 ≤ k) (hi0 : 0 ≤ i) (hi : i < 4) (ha : SetsOk a) (hb : WaysOk b) : ∃ s' p, r = .ret (.tuple [.ptr (some (p, 0)), .int .i64 0]) false s' ∧ Ext s s' ∧ Cac s' s.n (.ptr (some (p, 0))) := by
  subst hr
  obtain ⟨k, rfl⟩ := fuel_le (show 1 ≤ k by omega)
  obtain ⟨s1, p, e1, x1, c1⟩ := linesNew_ok (k := k) (s := s) rfl (by omega) ha hb
  have hn := x1.le
  have x2 : Ext s1 ⟨s1.h.put s1.n (some (Ob.cells [V.int IntKind.i64 i, V.ptr (some (p, 0)), V.ptr none, V.ptr none] 0 false)), s1.n + 1, (s1.n, true) :: s1.lg⟩ := ⟨by simp only; omega, fun i hi => by simp (disch := omega)⟩
  refine ⟨_, s1.n, by simp (maxSteps := 1000000) (disch := omega) [e1] <;> first | done | exact rfl | exact ⟨rfl, rfl⟩ | exact ⟨rfl, rfl, rfl⟩, x1.trans x2, s1.n, .int .i64 i, p, rfl, by omega, by simp only; omega, by simp (maxSteps := 1000000) (disch := omega), c1.stay x2.stay⟩
theorem cacheNew_bad (k : Nat) (s : S) (i : Int) (a b : Int) (hk : 2 ≤ k) (hi0 : 0 ≤ i) (hi : i < 4) (h : ¬ (SetsOk a ∧ WaysOk b)) : run E k (.call 25 [.int .i64 i, .int .i64 a, .int .i64 b] none) s = .ret (.tuple [.ptr none, .int .i64 2]) false s := by
  obtain ⟨k, rfl⟩ := fuel_le (show 1 ≤ k by omega)
  simp (maxSteps := 1000000) (disch := omega) [linesNew_bad k s a b (by omega) h]
theorem coreNew_bad {k : Nat} {s : S} {i m : Int} {v : V} {n : Nat} {r : TR} (hr : run E k (.call 24 [.int .i64 i, v, .int .i64 m] none) s = r) (hk : 2 ≤ k) (hi0 : 0 ≤ i) (hi : i < 4) (hv : Wrds s v n) (hn : 1024 < n) : r = .ret (.tuple [.ptr none, .int .i64 2]) false s := by
  subst hr
  obtain ⟨k, rfl⟩ := fuel_le hk
  cases hv with
  | none c => omega
  | esl => omega
  | some id off _ cap cs o ro l hi' ho ht hl => simp (maxSteps := 1000000) (disch := omega)
theorem coreNew_ok {k : Nat} {s : S} {i m : Int} {v : V} {n : Nat} {r : TR} (hr : run E k (.call 24 [.int .i64 i, v, .int .i64 m] none) s = r) (hk : 3 ≤ k) (hi0 : 0 ≤ i) (hi : i < 4) (hv : Wrds s v n) (hn : n ≤ 1024) (hm0 : 0 ≤ m) (hm : m ≤ 4096) : ∃ s' p, r = .ret (.tuple [.ptr (some (p, 0)), .int .i64 0]) false s' ∧ Ext s s' := by
  subst hr
  obtain ⟨k, rfl⟩ := fuel_le hk
  cases hv with
  | none c => exact ⟨_, s.n + 1, by simp (maxSteps := 1000000) (disch := omega) <;> first | done | exact rfl | exact ⟨rfl, rfl⟩ | exact ⟨rfl, rfl, rfl⟩, ⟨by simp only; omega, fun i hi => by simp (disch := omega)⟩⟩
  | esl => exact ⟨_, s.n + 2, by simp (maxSteps := 1000000) (disch := omega) <;> first | done | exact rfl | exact ⟨rfl, rfl⟩ | exact ⟨rfl, rfl, rfl⟩, ⟨by simp only; omega, fun i hi => by simp (disch := omega)⟩⟩
  | some id off _ cap cs o ro l hi' ho ht hl => 
    by_cases h0 : n = 0
    · subst h0
      exact ⟨_, s.n + 2, by simp (maxSteps := 1000000) (disch := omega) [ho, ht, hl] <;> first | done | exact rfl | exact ⟨rfl, rfl⟩ | exact ⟨rfl, rfl, rfl⟩, ⟨by simp only; omega, fun i hi => by simp (disch := omega)⟩⟩
    · exact ⟨_, s.n + 3, by simp (maxSteps := 1000000) (disch := omega) [ho, ht, hl] <;> first | done | exact rfl | exact ⟨rfl, rfl⟩ | exact ⟨rfl, rfl, rfl⟩, ⟨by simp only; omega, fun i hi => by simp (disch := omega)⟩⟩
end
end Go.Proofs.Ytfcakcaepbmefaa
