/- What a machine that is made comes to in the abstract machine. No condition. -/
import Derived.Test.YtfcakcaepbmefaaWa
namespace Go.Proofs.Ytfcakcaepbmefaa
open Go Go.AM
set_option linter.unusedSimpArgs false
set_option linter.unusedVariables false
set_option linter.all false
set_option maxRecDepth 100000
set_option maxHeartbeats 4000000
attribute [local simp] run_succ task callTask ev evSeq evRegion_f evOps evCond evBlock exec1 guardOk guardNot notIs exec opMove opPick pickOf opAlloc allocOf opBox boxOf opBuild buildOf opLoad loadAt opStore storeAt putCells opNilCheck nilCheckOf
  opUn unOf opConvert convOf opIface ifaceOf opMakeFunc opMakeSlice makeSliceOf opSlice sliceOf sliceSl sub3 bounds3 boundOf bothOr opFieldAddr fieldAddrOf opField fieldOf opIndexAddr indexAddrOf opIndex indexOf inside opLookup opMapUpdate opExtract extractOf opPanic panicOf makeMapOf
  retV Q.val Q.opt Q.run after setTm putTm opd opds tmV Tr.get_put leaf_get ofV ofVA ofVL opBin binAt binOf binInt binStr eqOp eqInt eqBool eqPtr eqSlice eqMap eqFunc eqIface eqStr eqAgg isNilIface boolIs optV
  opBuildSlice buildSliceOf Env.desc fillV repl pairs opCall callOf extCall builtinOf type1 type2 head1 head2 builtinAppend isIntD lenOf srcOf appendAt roomOk dropN takeN noMore appendOn appendNew lenAt capAt builtinCopy
  afterBody AM.unwind resultsOf one afterCall orRet listTm takeN_all isShift kindEq intOp iAdd iSub iMul iLss iLeq iGtr iGeq iEql iNeq iShl iShr iQuo iRem V.cells V.isCell allCells partOf splice over placeOfField elemPlace knownFs aggOpt zeroOf isU8 isIface
  afterLoop afterScope asCode strOp undefV isConst not_false_eq_true
  List.getElem?_cons_succ List.getElem?_cons_zero S.new S.rd S.wr nat_ne ble_t ble_f beq_t beq_f ltI_t ltI_f eqI_t eqI_f isub_def iadd_def imul_def wrapQ_i64 wrapQ_u32 wrapQ_u8 iAnd_pred inside_in bytes_len bytes_all bytesOf_cells over_bytes repl_len1
attribute [local simp] ng_eq ext_eq
attribute [local simp] fiOfFn fn3 bd3 rs3 nt3 body3 Try.f3 fn4 bd4 rs4 nt4 body4 Try.f4 fn5 bd5 rs5 nt5 body5 Try.f5 fn6 bd6 rs6 nt6 body6 Try.f6 fn7 bd7 rs7 nt7 body7 Try.f7 fn8 bd8 rs8 nt8 body8 Try.f8 fn9 bd9 rs9 nt9 body9 Try.f9 fn10 bd10 rs10 nt10 body10 Try.f10 fn11 bd11 rs11 nt11 body11 Try.f11 fn12 bd12 rs12 nt12 body12 Try.f12 fn13 bd13 rs13 nt13 body13 Try.f13 fn14 bd14 rs14 nt14 body14 Try.f14 fn15 bd15 rs15 nt15 body15 Try.f15 fn16 bd16 rs16 nt16 body16 Try.f16 fn17 bd17 rs17 nt17 body17 Try.f17 fn18 bd18 rs18 nt18 body18 Try.f18 fn19 bd19 rs19 nt19 body19 Try.f19 fn20 bd20 rs20 nt20 body20 Try.f20 fn21 bd21 rs21 nt21 body21 Try.f21 fn22 bd22 rs22 nt22 body22 Try.f22 fn23 bd23 rs23 nt23 body23 Try.f23 fn24 bd24 rs24 nt24 body24 Try.f24 fn25 bd25 rs25 nt25 body25 Try.f25 fn26 bd26 rs26 nt26 body26 Try.f26 fn27 bd27 rs27 nt27 body27 Try.f27 fn28 bd28 rs28 nt28 body28 Try.f28 fn29 bd29 rs29 nt29 body29 Try.f29 fn30 bd30 rs30 nt30 body30 Try.f30 fn31 bd31 rs31 nt31 body31 Try.f31 fn32 bd32 rs32 nt32 body32 Try.f32 fn33 bd33 rs33 nt33 body33 Try.f33 fn34 bd34 rs34 nt34 body34 Try.f34 fn35 bd35 rs35 nt35 body35 Try.f35 fn36 bd36 rs36 nt36 body36 Try.f36 fn37 bd37 rs37 nt37 body37 Try.f37 fn38 bd38 rs38 nt38 body38 Try.f38 fn39 bd39 rs39 nt39 body39 Try.f39 fn40 bd40 rs40 nt40 body40 Try.f40 fn41 bd41 rs41 nt41 body41 Try.f41 fn42 bd42 rs42 nt42 body42 Try.f42 fn43 bd43 rs43 nt43 body43 Try.f43 fn44 bd44 rs44 nt44 body44 Try.f44 fn45 bd45 rs45 nt45 body45 Try.f45 fn46 bd46 rs46 nt46 body46 Try.f46 fn47 bd47 rs47 nt47 body47 Try.f47 fn48 bd48 rs48 nt48 body48 Try.f48 fn49 bd49 rs49 nt49 body49 Try.f49 fn50 bd50 rs50 nt50 body50 Try.f50 fn51 bd51 rs51 nt51 body51 Try.f51 fn52 bd52 rs52 nt52 body52 Try.f52 fn53 bd53 rs53 nt53 body53 Try.f53 fn54 bd54 rs54 nt54 body54 Try.f54 fn55 bd55 rs55 nt55 body55 Try.f55 fn56 bd56 rs56 nt56 body56 Try.f56 fn57 bd57 rs57 nt57 body57 Try.f57 fn58 bd58 rs58 nt58 body58 Try.f58 fn59 bd59 rs59 nt59 body59 Try.f59 fn60 bd60 rs60 nt60 body60 Try.f60 fn61 bd61 rs61 nt61 body61 Try.f61 fn62 bd62 rs62 nt62 body62 Try.f62 fn63 bd63 rs63 nt63 body63 Try.f63 fn64 bd64 rs64 nt64 body64 Try.f64 fn65 bd65 rs65 nt65 body65 Try.f65 fn66 bd66 rs66 nt66 body66 Try.f66 fn67 bd67 rs67 nt67 body67 Try.f67 fn68 bd68 rs68 nt68 body68 Try.f68 fn69 bd69 rs69 nt69 body69 Try.f69 fn70 bd70 rs70 nt70 body70 Try.f70 fn71 bd71 rs71 nt71 body71 Try.f71 fn72 bd72 rs72 nt72 body72 Try.f72 fn73 bd73 rs73 nt73 body73 Try.f73 fn74 bd74 rs74 nt74 body74 Try.f74 fn75 bd75 rs75 nt75 body75 Try.f75 fn76 bd76 rs76 nt76 body76 Try.f76 fn77 bd77 rs77 nt77 body77 Try.f77 fn78 bd78 rs78 nt78 body78 Try.f78 fn79 bd79 rs79 nt79 body79 Try.f79 fn80 bd80 rs80 nt80 body80 Try.f80 fn81 bd81 rs81 nt81 body81 Try.f81 fn82 bd82 rs82 nt82 body82 Try.f82 fn83 bd83 rs83 nt83 body83 Try.f83 fn84 bd84 rs84 nt84 body84 Try.f84 ty2 t2 ty3 t3 ty4 t4 ty5 t5 ty9 t9 ty22 t22 ty23 t23 ty25 t25 ty26 t26 ty27 t27 ty28 t28 ty33 t33 ty34 t34 ty43 t43 ty45 t45 ty46 t46 ty47 t47 ty49 t49 ty51 t51 ty52 t52 ty54 t54 ty57 t57 ty59 t59 ty61 t61 ty66 t66 ty67 t67 ty68 t68 ty69 t69 ty71 t71 ty72 t72 ty73 t73 ty75 t75 ty76 t76 ty78 t78 ty82 t82 ty84 t84 ty87 t87 ty88 t88 ty89 t89 ty90 t90 ty92 t92 ty95 t95 ty98 t98 ty102 t102 ty103 t103 ty112 t112 ty113 t113 ty115 t115 ty120 t120 ty121 t121 ty122 t122 ty124 t124 ty128 t128 ty131 t131 ty133 t133 ty135 t135 ty137 t137 ty139 t139 ty142 t142 ty143 t143 ty145 t145 ty147 t147 ty148 t148 ty151 t151 ty152 t152 ty154 t154 ty158 t158 ty164 t164 ty172 t172 ty173 t173 ty175 t175 ty176 t176 ty178 t178 ty185 t185 ty190 t190 ty193 t193 ty195 t195 ty196 t196 ty213 t213 ty215 t215
attribute [local simp] eqv2 eqv3 eqv4 eqv5 eqv9 eqv22 eqv23 eqv26 eqv27 eqv28 eqv33 eqv34 eqv43 eqv45 eqv46 eqv47 eqv52 eqv57 eqv67 eqv68 eqv69 eqv72 eqv73 eqv76 eqv82 eqv84 eqv87 eqv88 eqv89 eqv90 eqv95 eqv98 eqv103 eqv112 eqv121 eqv122 eqv128 eqv135 eqv143 eqv145 eqv148 eqv151 eqv152 eqv158 eqv176 eqv190 eqv195 eqv196 eqv213
section
attribute [local simp] loopN loops drawN draws
noncomputable def R10 : Array Oper := drawN body10 0
theorem reg10_none (self : Self) (s : S) (tm : Tr V) (q c d m h) (t12 : tm.get 12 = some (.ptr (some (q, 0)))) (t15 : tm.get 15 = some (.ptr (some (c, 0)))) (t17 : tm.get 17 = some (.ptr (some (d, 0))))
   (hq : q < s.n) (oq : s.h.get q = some (.cells [.slice none 0 (.exact 0), .slice none 0 (.exact 0), m, h] 0 false)) :
   ∃ tm' s' a b, evRegion R10 true E self ⟨10, 97, none, none⟩ ⟨tm, [], false, 0⟩ s = .ok .normal ⟨tm', [], false, 0⟩ s' ∧ (∀ i, i < 73 → tm'.get i = tm.get i) ∧ s.n ≤ a ∧ s.n ≤ b ∧ a < s'.n ∧ b < s'.n ∧ a ≠ b ∧ s.n ≤ s'.n ∧
     s'.h.get q = some (.cells [.slice (some (a, 0)) 1 (.opn 0), .slice (some (b, 0)) 1 (.opn 0), m, h] 0 false) ∧ s'.h.get a = some (.cells [.ptr (some (c, 0))] 1 false) ∧ s'.h.get b = some (.cells [.ptr (some (d, 0))] 1 false) ∧ (∀ i, i < s.n → i ≠ q → s'.h.get i = s.h.get i) := by
  refine ⟨_, _, s.n + 1, s.n + 3, by simp (maxSteps := 2000000) (disch := first | omega | decide +kernel) [evRegion, opsOk_t, ordered_t, ordered_f, evDraw, drawCx, consSeg, aliveOk, segsOk, segOk, apartOk, sameIns, AM.within, clash, hits, oldOf, logs, insOf, isInsert, noDst, insLg,  R10, t12, t15, t17, oq]; exact ⟨rfl, rfl⟩, ?_⟩
  exact ⟨fun i hi => by simp (maxSteps := 1000000) (disch := omega), by omega, by omega, by simp only; omega, by simp only; omega, by omega, by simp only; omega, by simp (maxSteps := 1000000) (disch := omega), by simp (maxSteps := 1000000) (disch := omega), by simp (maxSteps := 1000000) (disch := omega), fun i hi hq => by simp (maxSteps := 1000000) (disch := omega)⟩
theorem reg10_some (self : Self) (s : S) (tm : Tr V) (q c d m h) (x y a0 b0) (xs ys : List V) (t12 : tm.get 12 = some (.ptr (some (q, 0)))) (t15 : tm.get 15 = some (.ptr (some (c, 0)))) (t17 : tm.get 17 = some (.ptr (some (d, 0))))
   (hx : xs.length ≤ 4) (hy : ys.length ≤ 4)
   (hq : q < s.n) (oq : s.h.get q = some (.cells [.slice (some (a0, 0)) (xs.length + 1) (.opn 0), .slice (some (b0, 0)) (ys.length + 1) (.opn 0), m, h] 0 false))
   (ha : a0 < s.n) (hb : b0 < s.n) (hab : a0 ≠ b0) (haq : a0 ≠ q) (hbq : b0 ≠ q) (oa : s.h.get a0 = some (.cells (x :: xs) 1 false)) (ob : s.h.get b0 = some (.cells (y :: ys) 1 false)) :
   ∃ tm' s' a b, evRegion R10 true E self ⟨10, 97, none, none⟩ ⟨tm, [], false, 0⟩ s = .ok .normal ⟨tm', [], false, 0⟩ s' ∧ (∀ i, i < 73 → tm'.get i = tm.get i) ∧ s.n ≤ a ∧ s.n ≤ b ∧ a < s'.n ∧ b < s'.n ∧ a ≠ b ∧ s.n ≤ s'.n ∧
     s'.h.get q = some (.cells [.slice (some (a, 0)) (xs.length + 2) (.opn 0), .slice (some (b, 0)) (ys.length + 2) (.opn 0), m, h] 0 false) ∧ s'.h.get a = some (.cells (x :: xs ++ [.ptr (some (c, 0))]) 1 false) ∧ s'.h.get b = some (.cells (y :: ys ++ [.ptr (some (d, 0))]) 1 false) ∧ (∀ i, i < s.n → i ≠ q → i ≠ a0 → i ≠ b0 → s'.h.get i = s.h.get i) := by
  have e1 : splice xs.length xs [.ptr (some (c, 0))] = none := splice_end _ _ _
  have e2 : splice ys.length ys [.ptr (some (d, 0))] = none := splice_end _ _ _
  refine ⟨_, _, s.n + 1, s.n + 3, by simp (maxSteps := 2000000) (disch := first | omega | decide +kernel) [evRegion, opsOk_t, ordered_t, ordered_f, evDraw, drawCx, consSeg, aliveOk, segsOk, segOk, apartOk, sameIns, AM.within, clash, hits, oldOf, logs, insOf, isInsert, noDst, insLg,  R10, t12, t15, t17, oq, oa, ob, e1, e2]; exact ⟨rfl, rfl⟩, ?_⟩
  exact ⟨fun i hi => by simp (maxSteps := 1000000) (disch := omega), by omega, by omega, by simp only; omega, by simp only; omega, by omega, by simp only; omega, by simp (maxSteps := 1000000) (disch := omega), by simp (maxSteps := 1000000) (disch := omega), by simp (maxSteps := 1000000) (disch := omega), fun i hi hq h1 h2 => by simp (maxSteps := 1000000) (disch := omega)⟩

theorem reg10 {self : Self} {s s0 : S} {tm : Tr V} {q c d m h A B pa pb r} (hr : evRegion R10 true E self ⟨10, 97, none, none⟩ ⟨tm, [], false, 0⟩ s = r) (t12 : tm.get 12 = some (.ptr (some (q, 0)))) (t15 : tm.get 15 = some (.ptr (some (c, 0)))) (t17 : tm.get 17 = some (.ptr (some (d, 0))))
   (hs : s0.n ≤ q) (hq : q < s.n) (oq : s.h.get q = some (.cells [A, B, m, h] 0 false)) (ga : Grow s0 s A pa) (gb : Grow s0 s B pb) (hl : pa.length = pb.length) (hl4 : pa.length ≤ 4)
   (hab : ∀ a b, growId A = some a → growId B = some b → a ≠ b) :
   ∃ tm' s' A' B', r = .ok .normal ⟨tm', [], false, 0⟩ s' ∧ (∀ i, i < 73 → tm'.get i = tm.get i) ∧ s'.h.get q = some (.cells [A', B', m, h] 0 false) ∧ Grow s0 s' A' (pa ++ [.ptr (some (c, 0))]) ∧ Grow s0 s' B' (pb ++ [.ptr (some (d, 0))]) ∧
     (∀ a b, growId A' = some a → growId B' = some b → a ≠ b) ∧ (s0.n ≤ s.n → ∀ i, i < s0.n → s'.h.get i = s.h.get i) ∧ Stay (q + 1) s s' := by
  subst hr
  cases ga with
  | none =>
    cases gb with
    | some b y ys h0 h1 h2 => simp at hl
    | none =>
      obtain ⟨tm', s', a, b, e, e1, e2, e3, e4, e5, e6, e7, e8, e9, e10, e11⟩ := reg10_none self s tm q c d m h t12 t15 t17 hq oq
      exact ⟨tm', s', _, _, e, e1, e8, .some a _ [] (by omega) e4 e9, .some b _ [] (by omega) e5 e10, fun x y hx hy => by
        simp only [growId, Option.some.injEq] at hx hy; omega, fun _ i hi => e11 i (by omega) (by omega), ⟨e7, fun i cs ro g1 g2 g3 => by rw [e11 i g2 (by omega), g3]⟩⟩
  | some a0 x xs a1 a2 a3 =>
    cases gb with
    | none => simp at hl
    | some b0 y ys b1 b2 b3 =>
      have hne := hab a0 b0 rfl rfl
      simp only [List.length_cons] at hl hl4
      have haq : a0 ≠ q := fun e => by rw [e, oq] at a3; simp at a3
      have hbq : b0 ≠ q := fun e => by rw [e, oq] at b3; simp at b3
      obtain ⟨tm', s', a, b, e, e1, e2, e3, e4, e5, e6, e7, e8, e9, e10, e11⟩ := reg10_some self s tm q c d m h x y a0 b0 xs ys t12 t15 t17 (by omega) (by omega) hq oq a2 b2 hne haq hbq a3 b3
      have ga : Grow s0 s' (.slice (some (a, 0)) (xs.length + 2) (.opn 0)) (x :: xs ++ [.ptr (some (c, 0))]) := by
        have := Grow.some (s0 := s0) (s := s') a x (xs ++ [V.ptr (some (c, 0))]) (by omega) e4 e9
        simpa using this
      have gb : Grow s0 s' (.slice (some (b, 0)) (ys.length + 2) (.opn 0)) (y :: ys ++ [.ptr (some (d, 0))]) := by
        have := Grow.some (s0 := s0) (s := s') b y (ys ++ [V.ptr (some (d, 0))]) (by omega) e5 e10
        simpa using this
      exact ⟨tm', s', _, _, e, e1, e8, ga, gb, fun x y hx hy => by
        simp only [growId, Option.some.injEq] at hx hy; omega, fun _ i hi => e11 i (by omega) (by omega) (by omega) (by omega), ⟨e7, fun i cs ro g1 g2 g3 => by
          rw [e11 i g2 (by omega) (fun e => by rw [e, a3] at g3; simp at g3) (fun e => by rw [e, b3] at g3; simp at g3), g3]⟩⟩
end
section
theorem Size_of {k : Nat} {s : S} {p : V} {l : List UInt8} {r : TR} (hr : run E k (.call 19 [p] none) s = r) (hk : 1 ≤ k) (h : Img s p l) : ∃ s', r = .ret (.int .i64 l.length) false s' ∧ Ext s s' := by
  subst hr
  obtain ⟨s', e, h1, h2⟩ := Size_spec k s p l hk h
  exact ⟨s', e, ⟨by omega, fun i hi => by rw [h1]⟩⟩
attribute [local simp] loopN loops
noncomputable def L10 : Code := loopN body10 0
/-- behind i codes -/
structure Inv10 (s0 s : S) (i q : Nat) (m h : V) : Prop where
  ext : Ext s0 s
  q0 : s0.n ≤ q
  q1 : q < s.n
  nt : Net s (q + 1) m
  ar : ∃ A B pa pb, s.h.get q = some (.cells [A, B, m, h] 0 false) ∧ Grow s0 s A pa ∧ Grow s0 s B pb ∧ pa.length = i ∧ pb.length = i ∧ (∀ b ∈ pb, Cac s (q + 1) b) ∧ (∀ a b, growId A = some a → growId B = some b → a ≠ b)
theorem iter10 {k i nc q ci co n o : Nat} {s0 s : S} {tm : Tr V} {cap cs ro vs sets ways p l w m h r} (hr : run E (k + 1) (.loop ⟨10, 97, none, none⟩ L10 ⟨tm, [], false, 0⟩) s = r) (hk : 4 ≤ k)
    (t45 : tm.get 45 = some (.slice (some (ci, co)) nc cap)) (t46 : tm.get 46 = some (.int .i64 (nc : Int))) (t47 : tm.get 47 = some (.int .i64 (i : Int))) (t1 : tm.get 1 = some p) (t2 : tm.get 2 = some (.int .i64 sets)) (t3 : tm.get 3 = some (.int .i64 ways)) (t12 : tm.get 12 = some (.ptr (some (q, 0))))
    (hnc : nc ≤ 4) (hi : i < nc) (hci : ci < s0.n) (hcs : s0.h.get ci = some (.cells cs o ro)) (hvs : takeN nc (dropN co cs) = some vs) (hw : vs[i]? = some w) (hww : Wrds s0 w n) (hn : n ≤ 1024) (hsets : SetsOk sets) (hways : WaysOk ways)
    (hp : Img s0 p l) (hl : l.length ≤ 4096)
    (I : Inv10 s0 s i q m h) :
    ∃ tm' s', r = run E k (.loop ⟨10, 97, none, none⟩ L10 ⟨tm', [], false, 0⟩) s' ∧ Inv10 s0 s' (i + 1) q m h ∧
      tm'.get 45 = some (.slice (some (ci, co)) nc cap) ∧ tm'.get 46 = some (.int .i64 (nc : Int)) ∧ tm'.get 47 = some (.int .i64 ((i + 1 : Nat) : Int)) ∧ tm'.get 1 = some p ∧ tm'.get 2 = some (.int .i64 sets) ∧ tm'.get 3 = some (.int .i64 ways) ∧ tm'.get 12 = some (.ptr (some (q, 0))) := by
  subst hr
  obtain ⟨x, q0, q1, nt, A, B, pa, pb, oq, ga, gb, la, lb, cb, hab⟩ := I
  obtain ⟨rst, hrst⟩ := takeN_at hvs hw
  rw [dropN_add] at hrst
  have hcs1 := x.keep hcs hci
  have hci1 := Nat.lt_of_lt_of_le hci x.le
  simp (maxSteps := 1000000) (disch := omega) [L10, t45, t46, t47, t1, t2, t3, t12, hrst, hcs1, oq]
  generalize hr : run E k (Task.call 19 _ none) _ = r
  obtain ⟨s1, rfl, x1⟩ := Size_of hr (by omega) (hp.ext ⟨x.le, x.old⟩); clear hr
  have x1 : Ext s s1 := ⟨x1.le, x1.old⟩
  simp (maxSteps := 1000000) (disch := omega) [t45, t46, t47, t1, t2, t3, t12]
  generalize hr : run E k (Task.call 24 _ none) _ = r
  obtain ⟨s2, c, rfl, x2⟩ := coreNew_ok hr (by omega) (by omega) (by omega) (hww.ext (x.trans x1)) hn (by omega) (by omega); clear hr
  simp (maxSteps := 1000000) (disch := omega) [t45, t46, t47, t1, t2, t3, t12]
  generalize hr : run E k (Task.call 25 _ none) _ = r
  obtain ⟨s3, d, rfl, x3, c3⟩ := cacheNew_ok hr (by omega) (by omega) (by omega) hsets hways; clear hr
  have x13 := (x1.trans x2).trans x3
  have y13 := x13.le
  have y12 := (x1.trans x2).le
  simp (maxSteps := 1000000) (disch := omega) [t45, t46, t47, t1, t2, t3, t12]
  generalize hr : evRegion _ true E _ _ _ _ = r
  obtain ⟨tm', s4, A', B', rfl, e1, e2, e3, e4, e5, e6, e7⟩ := reg10 (c := c) (d := d) (q := q) hr (by simp (maxSteps := 1000000) (disch := omega) [t12]) (by simp (maxSteps := 1000000) (disch := omega)) (by simp (maxSteps := 1000000) (disch := omega)) q0 (by omega) (x13.keep oq q1) (ga.at x13) (gb.at x13) (by omega) (by omega) hab; clear hr
  have f45 := (e1 45 (by omega)).trans (show _ = _ by simp (maxSteps := 1000000) (disch := omega) [t45]; rfl)
  have f46 := (e1 46 (by omega)).trans (show _ = _ by simp (maxSteps := 1000000) (disch := omega) [t46]; rfl)
  have f47 := (e1 47 (by omega)).trans (show _ = _ by simp (maxSteps := 1000000) (disch := omega) [t47]; rfl)
  have f1 := (e1 1 (by omega)).trans (show _ = _ by simp (maxSteps := 1000000) (disch := omega) [t1]; rfl)
  have f2 := (e1 2 (by omega)).trans (show _ = _ by simp (maxSteps := 1000000) (disch := omega) [t2]; rfl)
  have f3 := (e1 3 (by omega)).trans (show _ = _ by simp (maxSteps := 1000000) (disch := omega) [t3]; rfl)
  have f12 := (e1 12 (by omega)).trans (show _ = _ by simp (maxSteps := 1000000) (disch := omega) [t12]; rfl)
  simp (maxSteps := 1000000) (disch := omega) [f45, f46, f47, f1, f2, f3, f12]
  have q4 := e7.le
  have x03 := x.trans x13
  refine ⟨_, _, rfl, ⟨⟨Nat.le_trans x03.le q4, fun j hj => by rw [e6 x03.le j hj, x03.old j hj]⟩, q0, by omega, (nt.stay x13.stay).stay e7, A', B', _, _, e2, e3, e4, by simp [la], by simp [lb], fun b hb => ?_, e5⟩, ?_, ?_, ?_, ?_, ?_, ?_, ?_⟩
  · rcases List.mem_append.1 hb with hb | hb
    · exact ((cb b hb).stay x13.stay).stay e7
    · rw [List.mem_singleton.1 hb]
      exact (c3.low (by omega)).stay e7
  · simp (maxSteps := 1000000) (disch := omega) [f45]
  · simp (maxSteps := 1000000) (disch := omega) [f46]
  · simp (maxSteps := 1000000) (disch := omega)
  · simp (maxSteps := 1000000) (disch := omega) [f1]
  · simp (maxSteps := 1000000) (disch := omega) [f2]
  · simp (maxSteps := 1000000) (disch := omega) [f3]
  · simp (maxSteps := 1000000) (disch := omega) [f12]
theorem exit10 {k i nc q ci co : Nat} {s : S} {tm : Tr V} {cap r} (hr : run E (k + 1) (.loop ⟨10, 97, none, none⟩ L10 ⟨tm, [], false, 0⟩) s = r)
    (t45 : tm.get 45 = some (.slice (some (ci, co)) nc cap)) (t46 : tm.get 46 = some (.int .i64 (nc : Int))) (t47 : tm.get 47 = some (.int .i64 (i : Int))) (hi : nc ≤ i) :
    r = .code (.ok (.exit 0) ⟨tm.put 48 (some (.bool false)), [], false, 0⟩ s) := by
  subst hr
  simp (maxSteps := 1000000) (disch := omega) [L10, t45, t46, t47]
theorem fail10 {k i nc q ci co n o : Nat} {s0 s : S} {tm : Tr V} {cap cs ro vs sets ways p l w m h r} (hr : run E (k + 1) (.loop ⟨10, 97, none, none⟩ L10 ⟨tm, [], false, 0⟩) s = r) (hk : 4 ≤ k)
    (t45 : tm.get 45 = some (.slice (some (ci, co)) nc cap)) (t46 : tm.get 46 = some (.int .i64 (nc : Int))) (t47 : tm.get 47 = some (.int .i64 (i : Int))) (t1 : tm.get 1 = some p) (t2 : tm.get 2 = some (.int .i64 sets)) (t3 : tm.get 3 = some (.int .i64 ways)) (t12 : tm.get 12 = some (.ptr (some (q, 0))))
    (hnc : nc ≤ 4) (hi : i < nc) (hci : ci < s0.n) (hcs : s0.h.get ci = some (.cells cs o ro)) (hvs : takeN nc (dropN co cs) = some vs) (hw : vs[i]? = some w) (hww : Wrds s0 w n)
    (hbad : ¬ (n ≤ 1024 ∧ SetsOk sets ∧ WaysOk ways))
    (hp : Img s0 p l) (hl : l.length ≤ 4096)
    (I : Inv10 s0 s i q m h) :
    ∃ tm' s', r = .code (.ok .ret ⟨tm', [], false, 0⟩ s') ∧ Ext s0 s' ∧ tm'.get 8 = some (.ptr none) ∧ tm'.get 9 = some (.int .i64 2) := by
  subst hr
  obtain ⟨x, q0, q1, nt, A, B, pa, pb, oq, ga, gb, la, lb, cb, hab⟩ := I
  obtain ⟨rst, hrst⟩ := takeN_at hvs hw
  rw [dropN_add] at hrst
  have hcs1 := x.keep hcs hci
  have hci1 := Nat.lt_of_lt_of_le hci x.le
  simp (maxSteps := 1000000) (disch := omega) [L10, t45, t46, t47, t1, t2, t3, t12, hrst, hcs1, oq]
  generalize hr : run E k (Task.call 19 _ none) _ = r
  obtain ⟨s1, rfl, x1⟩ := Size_of hr (by omega) (hp.ext ⟨x.le, x.old⟩); clear hr
  have x1 : Ext s s1 := ⟨x1.le, x1.old⟩
  simp (maxSteps := 1000000) (disch := omega) [t45, t46, t47, t1, t2, t3, t12]
  generalize hr : run E k (Task.call 24 _ none) _ = r
  by_cases hn : n ≤ 1024
  · obtain ⟨s2, c, rfl, x2⟩ := coreNew_ok hr (by omega) (by omega) (by omega) (hww.ext (x.trans x1)) hn (by omega) (by omega); clear hr
    simp (maxSteps := 1000000) (disch := omega) [t45, t46, t47, t1, t2, t3, t12]
    generalize hr : run E k (Task.call 25 _ none) _ = r
    obtain rfl := (cacheNew_bad k s2 _ sets ways (by omega) (by omega) (by omega) (fun h => hbad ⟨hn, h⟩)).symm.trans hr
    simp (maxSteps := 1000000) (disch := omega) [t45, t46, t47, t1, t2, t3, t12]
    exact ⟨_, _, ⟨rfl, rfl⟩, (x.trans x1).trans x2, by simp (maxSteps := 1000000) (disch := omega), by simp (maxSteps := 1000000) (disch := omega)⟩
  · obtain rfl := coreNew_bad hr (by omega) (by omega) (by omega) (hww.ext (x.trans x1)) (by omega); clear hr
    simp (maxSteps := 1000000) (disch := omega) [t45, t46, t47, t1, t2, t3, t12]
    generalize hr : run E k (Task.call 25 _ none) _ = r
    by_cases hsw : SetsOk sets ∧ WaysOk ways
    · obtain ⟨s3, d, rfl, x3, c3⟩ := cacheNew_ok hr (by omega) (by omega) (by omega) hsw.1 hsw.2; clear hr
      simp (maxSteps := 1000000) (disch := omega) [t45, t46, t47, t1, t2, t3, t12]
      exact ⟨_, _, ⟨rfl, rfl⟩, (x.trans x1).trans x3, by simp (maxSteps := 1000000) (disch := omega), by simp (maxSteps := 1000000) (disch := omega)⟩
    · obtain rfl := (cacheNew_bad k s1 _ sets ways (by omega) (by omega) (by omega) hsw).symm.trans hr
      simp (maxSteps := 1000000) (disch := omega) [t45, t46, t47, t1, t2, t3, t12]
      exact ⟨_, _, ⟨rfl, rfl⟩, x.trans x1, by simp (maxSteps := 1000000) (disch := omega), by simp (maxSteps := 1000000) (disch := omega)⟩
theorem loop10 {nc q ci co o : Nat} {s0 : S} {cap cs ro vs sets ways p l m h}
    (hnc : nc ≤ 4) (hci : ci < s0.n) (hcs : s0.h.get ci = some (.cells cs o ro)) (hvs : takeN nc (dropN co cs) = some vs) (hww : ∀ w ∈ vs, ∃ n, Wrds s0 w n)
    (hp : Img s0 p l) (hl : l.length ≤ 4096) :
    ∀ (d i k : Nat) (s : S) (tm : Tr V) (r : TR), d + i = nc → d + 5 ≤ k → run E k (.loop ⟨10, 97, none, none⟩ L10 ⟨tm, [], false, 0⟩) s = r →
    tm.get 45 = some (.slice (some (ci, co)) nc cap) → tm.get 46 = some (.int .i64 (nc : Int)) → tm.get 47 = some (.int .i64 (i : Int)) → tm.get 1 = some p → tm.get 2 = some (.int .i64 sets) → tm.get 3 = some (.int .i64 ways) → tm.get 12 = some (.ptr (some (q, 0))) →
    Inv10 s0 s i q m h →
    (∃ tm' s', r = .code (.ok .ret ⟨tm', [], false, 0⟩ s') ∧ Ext s0 s' ∧ tm'.get 8 = some (.ptr none) ∧ tm'.get 9 = some (.int .i64 2)) ∨
    (∃ tm' s', r = .code (.ok (.exit 0) ⟨tm', [], false, 0⟩ s') ∧ Inv10 s0 s' nc q m h ∧ tm'.get 12 = some (.ptr (some (q, 0)))) := by
  intro d
  induction d with
  | zero =>
    intro i k s tm r hd hk hr t45 t46 t47 t1 t2 t3 t12 I
    obtain ⟨k, rfl⟩ := fuel_le (show 1 ≤ k by omega)
    obtain rfl : i = nc := by omega
    exact .inr ⟨_, s, exit10 (q := q) hr t45 t46 t47 (by omega), I, by simp (maxSteps := 1000000) (disch := omega) [t12]⟩
  | succ d ih =>
    intro i k s tm r hd hk hr t45 t46 t47 t1 t2 t3 t12 I
    obtain ⟨k, rfl⟩ := fuel_le (show 1 ≤ k by omega)
    have hlen := takeN_len hvs
    obtain ⟨w, hw⟩ : ∃ w, vs[i]? = some w := ⟨vs[i], by rw [List.getElem?_eq_getElem (by omega)]⟩
    obtain ⟨n, hn⟩ := hww w (List.mem_of_getElem? hw)
    by_cases hgood : n ≤ 1024 ∧ SetsOk sets ∧ WaysOk ways
    · obtain ⟨tm', s', rfl, I', f45, f46, f47, f1, f2, f3, f12⟩ := iter10 hr (by omega) t45 t46 t47 t1 t2 t3 t12 hnc (by omega) hci hcs hvs hw hn hgood.1 hgood.2.1 hgood.2.2 hp hl I
      exact ih (i + 1) k s' tm' _ (by omega) (by omega) rfl f45 f46 f47 f1 f2 f3 f12 I'
    · exact .inl (fail10 hr (by omega) t45 t46 t47 t1 t2 t3 t12 hnc (by omega) hci hcs hvs hw hn hgood hp hl I)
end
section
/-- a machine of no line -/
def Mach (s : S) (p : V) (l : List UInt8) : Prop :=
  ∃ i q b ni hi A pb, p = .ptr (some (i, 0)) ∧ i < s.n ∧ q < s.n ∧ b < s.n ∧ ni < s.n ∧ s.h.get i = some (.cells [.ptr (some (q, 0))] 0 false) ∧
    s.h.get q = some (.cells [A, .slice (some (b, 0)) pb.length (.opn 0), .ptr (some (ni, 0)), .ptr (some (hi, 0))] 0 false) ∧ s.h.get b = some (.cells pb 1 false) ∧ 1 ≤ pb.length ∧ pb.length ≤ 4 ∧ (∀ x ∈ pb, Cac s 0 x) ∧
    s.h.get ni = some (.cells [.slice none 0 (.exact 0), .int .i64 1024] 0 false) ∧ Hom s (.ptr (some (hi, 0))) l
/-- codes that come in -/
inductive Cods (s : S) : V → Nat → Prop where
  | none (c : Nat) : Cods s (.slice .none 0 (.exact c)) 0
  | some (id off nc : Nat) (cap : Cap) (cs : List V) (o : Nat) (ro : Bool) (vs : List V) (hi : id < s.n) (ho : s.h.get id = .some (.cells cs o ro)) (ht : takeN nc (dropN off cs) = .some vs) (hw : ∀ w ∈ vs, ∃ n, Wrds s w n) :
      Cods s (.slice (.some (id, off)) nc cap) nc
theorem homeNew_of {k : Nat} {s : S} {p : V} {l : List UInt8} {r : TR} (hr : run E k (.call 22 [p] none) s = r) (hk : 4 ≤ k) (h : Img s p l) (hl : 1 ≤ l.length) (hl2 : l.length ≤ 4096) : ∃ s' p', r = .ret (.tuple [.ptr (some (p', 0)), .int .i64 0]) false s' ∧ Ext s s' ∧ Hom s' (.ptr (some (p', 0))) l := by
  subst hr
  obtain ⟨s', p', e, x, hh⟩ := homeNew_spec k s p l hk h hl hl2
  obtain ⟨i, m, q, rfl, hh'⟩ := hh
  exact ⟨s', i, e, x, i, m, q, rfl, hh'⟩
theorem netNew (k : Nat) (s : S) (hk : 1 ≤ k) : run E k (.call 23 [.int .i64 1024] none) s = .ret (.tuple [.ptr (some (s.n, 0)), .int .i64 0]) false ⟨s.h.put s.n (some (.cells [.slice none 0 (.exact 0), .int .i64 1024] 0 false)), s.n + 1, (s.n, true) :: s.lg⟩ := by
  obtain ⟨k, rfl⟩ := fuel_le hk
  simp (maxSteps := 1000000) (disch := omega)
theorem machNew_few {k nc : Nat} {s : S} {p v : V} {sets ways : Int} {l : List UInt8} {r : TR} (hr : run E k (.call 10 [v, p, .int .i64 sets, .int .i64 ways] none) s = r) (hk : 5 ≤ k) (h : Img s p l) (hl : 1 ≤ l.length) (hl2 : l.length ≤ 4096) (hv : Cods s v nc) (hnc : nc < 1 ∨ 4 < nc) :
    ∃ s', r = .ret (.tuple [.ptr none, .int .i64 2]) false s' ∧ Ext s s' := by
  subst hr
  obtain ⟨k, rfl⟩ := fuel_le (show 1 ≤ k by omega)
  cases hv with
  | none c =>
    simp (maxSteps := 1000000) (disch := omega)
    generalize hr : run E k (Task.call 22 _ none) _ = r
    obtain ⟨s1, p', rfl, x1, h1⟩ := homeNew_of hr (by omega) h hl hl2; clear hr
    simp (maxSteps := 1000000) (disch := omega)
    exact x1
  | some id off _ cap cs o ro vs hi ho ht hw =>
    simp (maxSteps := 1000000) (disch := omega)
    generalize hr : run E k (Task.call 22 _ none) _ = r
    obtain ⟨s1, p', rfl, x1, h1⟩ := homeNew_of hr (by omega) h hl hl2; clear hr
    rcases hnc with hnc | hnc
    · simp (maxSteps := 1000000) (disch := omega)
      exact x1
    · simp (maxSteps := 1000000) (disch := omega)
      exact x1
theorem machNew_some {k nc : Nat} {s : S} {p v : V} {sets ways : Int} {l : List UInt8} {r : TR} (hr : run E k (.call 10 [v, p, .int .i64 sets, .int .i64 ways] none) s = r) (hk : 12 ≤ k) (h : Img s p l) (hl : 1 ≤ l.length) (hl2 : l.length ≤ 4096) (hv : Cods s v nc) (hn1 : 1 ≤ nc) (hn4 : nc ≤ 4) :
    (∃ s', r = .ret (.tuple [.ptr none, .int .i64 2]) false s' ∧ Ext s s') ∨ ∃ s' p', r = .ret (.tuple [.ptr (some (p', 0)), .int .i64 0]) false s' ∧ Ext s s' ∧ Mach s' (.ptr (some (p', 0))) l := by
  subst hr
  obtain ⟨k, rfl⟩ := fuel_le (show 1 ≤ k by omega)
  cases hv with
  | none c => omega
  | some id off _ cap cs o ro vs hi ho ht hw =>
    simp (maxSteps := 1000000) (disch := omega)
    generalize hr : run E k (Task.call 22 _ none) _ = r
    obtain ⟨s1, p', rfl, x1, h1⟩ := homeNew_of hr (by omega) h hl hl2; clear hr
    simp (maxSteps := 1000000) (disch := omega) [netNew k _ (by omega : 1 ≤ k)]
    generalize hr : run E k (Task.loop _ _ _) _ = r
    have hs1 := x1.le
    rcases loop10 (s0 := s1) (q := s1.n) (m := .ptr (some (s1.n + 1, 0))) (h := .ptr (some (p', 0))) (l := l) (p := p) (sets := sets) (ways := ways) hn4 (Nat.lt_of_lt_of_le hi x1.le) (x1.keep ho hi) ht (fun w hw' => (hw w hw').imp fun n hn => hn.ext x1) (h.ext x1) hl2 nc 0 k _ _ r (by omega) (by omega) hr
        (by simp (maxSteps := 1000000) (disch := omega); rfl) (by simp (maxSteps := 1000000) (disch := omega)) (by simp (maxSteps := 1000000) (disch := omega)) (by simp (maxSteps := 1000000) (disch := omega)) (by simp (maxSteps := 1000000) (disch := omega)) (by simp (maxSteps := 1000000) (disch := omega)) (by simp (maxSteps := 1000000) (disch := omega))
        ⟨⟨by simp only; omega, fun i hi => by simp (disch := omega)⟩, by omega, by simp only; omega, ⟨s1.n + 1, rfl, by omega, by simp only; omega, by simp (maxSteps := 1000000) (disch := omega)⟩, V.slice none 0 (.exact 0), V.slice none 0 (.exact 0), [], [], by simp (maxSteps := 1000000) (disch := omega), .none, .none, rfl, rfl, (fun b hb => by cases hb), (fun a b ha => by cases ha)⟩ with ⟨tm', s', rfl, x2, t8, t9⟩ | ⟨tm', s', rfl, I, t12⟩
    · clear hr
      simp (maxSteps := 1000000) (disch := omega) [t8, t9]
      exact x1.trans x2
    · clear hr
      simp (maxSteps := 1000000) (disch := omega) [t12]
      obtain ⟨x2, q0, q1, ⟨ni, e, n1, n2, n3⟩, A, B, pa, pb, oq, ga, gb, la, lb, cb, hab⟩ := I
      cases e
      have x3 : Ext s' ⟨s'.h.put s'.n (some (Ob.cells [V.ptr (some (s1.n, 0))] 0 false)), s'.n + 1, (s'.n, true) :: s'.lg⟩ := ⟨by simp only; omega, fun i hi => by simp (disch := omega)⟩
      cases gb with
      | none => simp at lb; omega
      | some b y ys b0 b1 b2 =>
        refine ⟨_, _, ⟨rfl, rfl⟩, (x1.trans x2).trans x3, s'.n, s1.n, b, s1.n + 1, p', A, y :: ys, rfl, by simp only; omega, by simp only; omega, by simp only; omega, by simp only; omega, by simp (maxSteps := 1000000) (disch := omega), ?_, x3.keep b2 b1, by simp, by omega, fun z hz => ((cb z hz).low (by omega)).stay x3.stay, x3.keep n3 n2, (h1.ext x2).ext x3⟩
        rw [x3.keep oq q1]
        simp
end
end Go.Proofs.Ytfcakcaepbmefaa
