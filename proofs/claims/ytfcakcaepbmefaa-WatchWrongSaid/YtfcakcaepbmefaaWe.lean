/- What the law WatchWrong answers in the model, for any arguments. No condition. -/
import Derived.Test.YtfcakcaepbmefaaRows
import Derived.ProofKit
import Derived.Test.YtfcakcaepbmefaaWd
namespace Go.Proofs.Ytfcakcaepbmefaa
open Go Go.AM
set_option linter.unusedSimpArgs false
set_option linter.unusedVariables false
set_option linter.all false
set_option maxRecDepth 100000
set_option maxHeartbeats 4000000
attribute [local simp] run_succ task callTask ev evSeq evRegion_f evOps evCond evBlock exec1 guardOk guardNot notIs exec opMove opPick pickOf opAlloc allocOf opBox boxOf opBuild buildOf opLoad loadAt opStore storeAt putCells opNilCheck nilCheckOf
  opUn unOf opConvert convOf opIface ifaceOf opMakeFunc opMakeSlice makeSliceOf opSlice sliceOf sliceSl sub3 bounds3 boundOf bothOr opFieldAddr fieldAddrOf opField fieldOf opIndexAddr indexAddrOf opIndex indexOf inside opLookup opMapUpdate opExtract extractOf opPanic panicOf makeMapOf
  retV Q.val Q.opt Q.run after setTm putTm opd opds tmV Tr.get_put leaf_get ofV ofVA ofVL opBin binAt binOf binInt binStr eqOp eqInt eqBool eqPtr eqSlice eqMap eqFunc eqIface eqStr eqAgg isNilIface boolIs optV
  opBuildSlice buildSliceOf Env.desc fillV repl pairs opCall callOf extCall builtinOf type1 type2 head1 head2 builtinAppend isIntD lenOf srcOf appendAt roomOk dropN takeN noMore appendOn appendNew lenAt capAt builtinCopy
  afterBody AM.unwind resultsOf one afterCall orRet listTm takeN_all isShift kindEq intOp iAdd iSub iMul iLss iLeq iGtr iGeq iEql iNeq iShl iShr iQuo iRem V.cells V.isCell allCells partOf splice over placeOfField elemPlace knownFs aggOpt zeroOf isU8 isIface
  afterLoop afterScope asCode strOp undefV isConst not_false_eq_true
  List.getElem?_cons_succ List.getElem?_cons_zero S.new S.rd S.wr nat_ne ble_t ble_f beq_t beq_f ltI_t ltI_f eqI_t eqI_f isub_def iadd_def imul_def wrapQ_i64 wrapQ_u32 wrapQ_u8 iAnd_pred inside_in bytes_len bytes_all bytesOf_cells over_bytes repl_len1
attribute [local simp] ng_eq ext_eq
attribute [local simp] fiOfFn fn3 bd3 rs3 nt3 body3 Try.f3 fn4 bd4 rs4 nt4 body4 Try.f4 fn5 bd5 rs5 nt5 body5 Try.f5 fn6 bd6 rs6 nt6 body6 Try.f6 fn7 bd7 rs7 nt7 body7 Try.f7 fn8 bd8 rs8 nt8 body8 Try.f8 fn9 bd9 rs9 nt9 body9 Try.f9 fn10 bd10 rs10 nt10 body10 Try.f10 fn11 bd11 rs11 nt11 body11 Try.f11 fn12 bd12 rs12 nt12 body12 Try.f12 fn13 bd13 rs13 nt13 body13 Try.f13 fn14 bd14 rs14 nt14 body14 Try.f14 fn15 bd15 rs15 nt15 body15 Try.f15 fn16 bd16 rs16 nt16 body16 Try.f16 fn17 bd17 rs17 nt17 body17 Try.f17 fn18 bd18 rs18 nt18 body18 Try.f18 fn19 bd19 rs19 nt19 body19 Try.f19 fn20 bd20 rs20 nt20 body20 Try.f20 fn21 bd21 rs21 nt21 body21 Try.f21 fn22 bd22 rs22 nt22 body22 Try.f22 fn23 bd23 rs23 nt23 body23 Try.f23 fn24 bd24 rs24 nt24 body24 Try.f24 fn25 bd25 rs25 nt25 body25 Try.f25 fn26 bd26 rs26 nt26 body26 Try.f26 fn27 bd27 rs27 nt27 body27 Try.f27 fn28 bd28 rs28 nt28 body28 Try.f28 fn29 bd29 rs29 nt29 body29 Try.f29 fn30 bd30 rs30 nt30 body30 Try.f30 fn31 bd31 rs31 nt31 body31 Try.f31 fn32 bd32 rs32 nt32 body32 Try.f32 fn33 bd33 rs33 nt33 body33 Try.f33 fn34 bd34 rs34 nt34 body34 Try.f34 fn35 bd35 rs35 nt35 body35 Try.f35 fn36 bd36 rs36 nt36 body36 Try.f36 fn37 bd37 rs37 nt37 body37 Try.f37 fn38 bd38 rs38 nt38 body38 Try.f38 fn39 bd39 rs39 nt39 body39 Try.f39 fn40 bd40 rs40 nt40 body40 Try.f40 fn41 bd41 rs41 nt41 body41 Try.f41 fn42 bd42 rs42 nt42 body42 Try.f42 fn43 bd43 rs43 nt43 body43 Try.f43 fn44 bd44 rs44 nt44 body44 Try.f44 fn45 bd45 rs45 nt45 body45 Try.f45 fn46 bd46 rs46 nt46 body46 Try.f46 fn47 bd47 rs47 nt47 body47 Try.f47 fn48 bd48 rs48 nt48 body48 Try.f48 fn49 bd49 rs49 nt49 body49 Try.f49 fn50 bd50 rs50 nt50 body50 Try.f50 fn51 bd51 rs51 nt51 body51 Try.f51 fn52 bd52 rs52 nt52 body52 Try.f52 fn53 bd53 rs53 nt53 body53 Try.f53 fn54 bd54 rs54 nt54 body54 Try.f54 fn55 bd55 rs55 nt55 body55 Try.f55 fn56 bd56 rs56 nt56 body56 Try.f56 fn57 bd57 rs57 nt57 body57 Try.f57 fn58 bd58 rs58 nt58 body58 Try.f58 fn59 bd59 rs59 nt59 body59 Try.f59 fn60 bd60 rs60 nt60 body60 Try.f60 fn61 bd61 rs61 nt61 body61 Try.f61 fn62 bd62 rs62 nt62 body62 Try.f62 fn63 bd63 rs63 nt63 body63 Try.f63 fn64 bd64 rs64 nt64 body64 Try.f64 fn65 bd65 rs65 nt65 body65 Try.f65 fn66 bd66 rs66 nt66 body66 Try.f66 fn67 bd67 rs67 nt67 body67 Try.f67 fn68 bd68 rs68 nt68 body68 Try.f68 fn69 bd69 rs69 nt69 body69 Try.f69 fn70 bd70 rs70 nt70 body70 Try.f70 fn71 bd71 rs71 nt71 body71 Try.f71 fn72 bd72 rs72 nt72 body72 Try.f72 fn73 bd73 rs73 nt73 body73 Try.f73 fn74 bd74 rs74 nt74 body74 Try.f74 fn75 bd75 rs75 nt75 body75 Try.f75 fn76 bd76 rs76 nt76 body76 Try.f76 fn77 bd77 rs77 nt77 body77 Try.f77 fn78 bd78 rs78 nt78 body78 Try.f78 fn79 bd79 rs79 nt79 body79 Try.f79 fn80 bd80 rs80 nt80 body80 Try.f80 fn81 bd81 rs81 nt81 body81 Try.f81 fn82 bd82 rs82 nt82 body82 Try.f82 fn83 bd83 rs83 nt83 body83 Try.f83 fn84 bd84 rs84 nt84 body84 Try.f84 ty2 t2 ty3 t3 ty4 t4 ty5 t5 ty9 t9 ty22 t22 ty23 t23 ty25 t25 ty26 t26 ty27 t27 ty28 t28 ty33 t33 ty34 t34 ty43 t43 ty45 t45 ty46 t46 ty47 t47 ty49 t49 ty51 t51 ty52 t52 ty54 t54 ty57 t57 ty59 t59 ty61 t61 ty66 t66 ty67 t67 ty68 t68 ty69 t69 ty71 t71 ty72 t72 ty73 t73 ty75 t75 ty76 t76 ty78 t78 ty82 t82 ty84 t84 ty87 t87 ty88 t88 ty89 t89 ty90 t90 ty92 t92 ty95 t95 ty98 t98 ty102 t102 ty103 t103 ty112 t112 ty113 t113 ty115 t115 ty120 t120 ty121 t121 ty122 t122 ty124 t124 ty128 t128 ty131 t131 ty133 t133 ty135 t135 ty137 t137 ty139 t139 ty142 t142 ty143 t143 ty145 t145 ty147 t147 ty148 t148 ty151 t151 ty152 t152 ty154 t154 ty158 t158 ty164 t164 ty172 t172 ty173 t173 ty175 t175 ty176 t176 ty178 t178 ty185 t185 ty190 t190 ty193 t193 ty195 t195 ty196 t196 ty213 t213 ty215 t215
attribute [local simp] eqv2 eqv3 eqv4 eqv5 eqv9 eqv22 eqv23 eqv26 eqv27 eqv28 eqv33 eqv34 eqv43 eqv45 eqv46 eqv47 eqv52 eqv57 eqv67 eqv68 eqv69 eqv72 eqv73 eqv76 eqv82 eqv84 eqv87 eqv88 eqv89 eqv90 eqv95 eqv98 eqv103 eqv112 eqv121 eqv122 eqv128 eqv135 eqv143 eqv145 eqv148 eqv151 eqv152 eqv158 eqv176 eqv190 eqv195 eqv196 eqv213
section
section
variable {H : Type} {enc : TypeId × Value → H} {P : Program} {W : World}
theorem cellsFrom_len (k : IntKind) (x : Nat → Int) : ∀ n i, (cellsFrom k x i n).length = n
  | 0, _ => rfl
  | n + 1, i => by simp [cellsFrom, cellsFrom_len k x n]
theorem cellsFrom_all (k : IntKind) (x : Nat → Int) : ∀ n i, allCells (cellsFrom k x i n) = true
  | 0, _ => rfl
  | n + 1, i => by simp [cellsFrom, allCells, V.isCell, cellsFrom_all k x n]
/-- a state in which nothing may be written -/
structure Opn (W : World) (φ : Map) (s : S) : Prop where
  rel : Rel φ s W
  ro : ∀ id l, φ id = some l → l.ro = true
theorem block_of {w : World} {a : Addr} {v : Value} (h : w.cell? a = some v) : a.spot = none ∧ ∃ arr el fz, w.heap[a.block]? = some (.cells arr el fz) ∧ arr[a.off]? = some v := by
  unfold World.cell? at h
  cases hh : w.heap[a.block]? with
  | none => simp [hh] at h
  | some ob =>
    cases ob with
    | cells arr el fz =>
      simp only [hh] at h
      cases hs : a.spot with
      | none => rw [hs] at h; exact ⟨rfl, arr, el, fz, rfl, by simpa using h⟩
      | some _ => rw [hs] at h; simp at h
    | _ => simp [hh] at h
theorem heap_lt {w : World} {b : Nat} {o : Obj} (h : w.heap[b]? = some o) : b < w.heap.size := by
  rcases Nat.lt_or_ge b w.heap.size with h' | h'
  · exact h'
  · rw [Array.getElem?_eq_none h'] at h; cases h
/-- one more object that is looked at alone -/
theorem Opn.add {φ : Map} {s : S} (h : Opn W φ s) {b off : Nat} {cs : List V} {arr : Array Value} {el : TypeId} {fz : Nat × Nat} (hb : W.heap[b]? = some (.cells arr el fz)) (hc : ∀ j c, cs[j]? = some c → ∃ x, arr[off + j]? = some x ∧ VR φ c x) :
    Opn W (φ.upd s.n ⟨b, off, 0, 0, true⟩) (s.new (.cells cs 0 true)) :=
  ⟨h.rel.addRo h.ro rfl (heap_lt hb) ⟨arr, el, fz, hb, fun j c hj => (hc j c hj).imp fun x hx => ⟨hx.1, VR.mono (Map.upd_ext h.rel.fresh) _ _ hx.2⟩, fun h => absurd rfl h, fun h => by cases h⟩, upd_ro h.ro rfl⟩
theorem new_ext (s : S) (o : Ob) : Ext s (s.new o) := ⟨Nat.le_succ _, fun i hi => by rw [get_new _ _ _ (by omega)]⟩
/-- a slice of whole numbers inside another -/
theorem open_words {t e : TypeId} {k : IntKind} {fuel : Nat} {c : Value} {x : DataW H × List MemPlace} {φ : Map} {s : S} (ht : P.underlying t = some (.slice e)) (he : P.underlying e = some (.int k)) (hc : P.cellsOf e = 1)
    (h : DataW.trod enc P W 0 (fun _ => true) true fuel t [c] = some x) (hop : Opn W φ s) :
    ∃ φ' s' v n, Opn W φ' s' ∧ (∀ id l, φ id = some l → φ' id = some l) ∧ Ext s s' ∧ VR φ' v c ∧ Wrds s' v n := by
  rcases Go.ChangeShapes.open_ints ht he hc h with ⟨h, _⟩ | ⟨a, len, cap, zs, h, _, hle, _, hzs, _, hcs, _⟩
  · simp only [List.cons.injEq, and_true] at h
    subst h
    exact ⟨φ, s, .slice none 0 (.exact 0), 0, hop, fun _ _ h => h, Ext.refl s, ⟨0, rfl, rfl⟩, .none 0⟩
  · simp only [List.cons.injEq, and_true] at h
    subst h
    simp only [if_true] at hzs
    by_cases h0 : cap = 0
    · subst h0
      obtain rfl : len = 0 := by omega
      exact ⟨φ, s, .esl, 0, hop, fun _ _ h => h, Ext.refl s, ⟨a, rfl⟩, .esl⟩
    · have h1 := hcs 0 (by omega)
      rw [show a.add 0 = a from rfl] at h1
      obtain ⟨hs, arr, el, fz, hb, hv⟩ := block_of h1
      obtain ⟨b, o, sp⟩ := a
      simp only at hs hb hv
      subst hs
      have hall : ∀ i, i < cap → arr[o + i]? = some (.int k (zs.getD i 0)) := fun i hi => cell_block hb (by
        have := hcs i (by omega)
        have e : (⟨b, o, none⟩ : Addr).add i = ⟨b, o + i, none⟩ := by
          unfold Addr.add
          split
          · rename_i h; subst h; rfl
          · rfl
        rw [e] at this
        exact this)
      have hop' := hop.add (off := o) (cs := cellsFrom k (fun i => zs.getD i 0) 0 len) hb fun j c hj => by
        obtain ⟨h1, rfl⟩ := cellsFrom_get hj
        exact ⟨_, hall j (by omega), by rw [Nat.zero_add]; rfl⟩
      refine ⟨_, _, .slice (some (s.n, 0)) len (.exact cap), len, hop', Map.upd_ext hop.rel.fresh, new_ext _ _, ⟨_, Map.upd_self, rfl⟩, ?_⟩
      exact .some s.n 0 len (.exact cap) _ 0 true (cellsFrom k (fun i => zs.getD i 0) 0 len) (Nat.lt_succ_self _) (get_same _ _ _ rfl) (takeN_all2 _ _ (cellsFrom_len _ _ _ _)) (cellsFrom_all _ _ _ _)
/-- cells, one behind the other -/
theorem open_list {t e : TypeId} {k : IntKind} (ht : P.underlying t = some (.slice e)) (he : P.underlying e = some (.int k)) (hc : P.cellsOf e = 1) :
    ∀ (cs : List Value) {φ : Map} {s : S}, (∀ c ∈ cs, ∃ fuel x, DataW.trod enc P W 0 (fun _ => true) true fuel t [c] = some x) → Opn W φ s →
    ∃ φ' s' vs, Opn W φ' s' ∧ (∀ id l, φ id = some l → φ' id = some l) ∧ Ext s s' ∧ VRL φ' vs cs ∧ ∀ w ∈ vs, ∃ n, Wrds s' w n
  | [], φ, s, _, hop => ⟨φ, s, [], hop, fun _ _ h => h, Ext.refl s, rfl, fun w hw => by cases hw⟩
  | c :: cs, φ, s, h, hop => by
    obtain ⟨fuel, x, hx⟩ := h c (List.mem_cons_self)
    obtain ⟨φ1, s1, v, n, o1, e1, x1, r1, w1⟩ := open_words ht he hc hx hop
    obtain ⟨φ2, s2, vs, o2, e2, x2, r2, w2⟩ := open_list ht he hc cs (fun c hc => h c (List.mem_cons_of_mem _ hc)) o1
    refine ⟨φ2, s2, v :: vs, o2, fun id l h => e2 _ _ (e1 _ _ h), x1.trans x2, ⟨c, cs, rfl, VR.mono e2 _ _ r1, r2⟩, fun w hw => ?_⟩
    rcases List.mem_cons.1 hw with rfl | hw
    · exact ⟨n, w1.ext x2⟩
    · exact w2 w hw
end
end
section
section
open Go.ChangeShapes
variable {H : Type} {enc : TypeId × Value → H} {P : Program} {W : World} {r : Reach} {base : Nat}
/-- a slice's own cell says where it lies -/
theorem cell_slice {t e : TypeId} {v : Value} (ht : P.underlying t = some (.slice e)) (h : Cell.okWide P W r base t v) :
    v = .slice none 0 0 ∨ ∃ b o len cap arr el fz, v = .slice (some ⟨b, o, none⟩) len cap ∧ len ≤ cap ∧ W.heap[b]? = some (.cells arr el fz) := by
  unfold Cell.okWide at h
  rw [ht] at h
  simp only [Cell.ok, ht] at h
  cases v with
  | slice a len cap =>
    cases a with
    | none =>
      cases len <;> cases cap <;> first
        | exact .inl rfl
        | (cases h; done)
    | some a =>
      obtain ⟨h1, _, _, h2, row, cells, h3, _⟩ := h
      obtain ⟨b, o, sp⟩ := a
      simp only at h2 h3
      subst h2
      unfold World.shape? at h3
      cases hh : W.heap[b]? with
      | none => simp [hh] at h3
      | some ob =>
        cases ob with
        | cells arr el fz => exact .inr ⟨b, o, len, cap, arr, el, fz, rfl, h1, hh⟩
        | _ => simp [hh] at h3
  | _ => cases h
theorem addr_at (b o i : Nat) : (⟨b, o, none⟩ : Addr).add i = ⟨b, o + i, none⟩ := by
  unfold Addr.add
  split
  · rename_i h; subst h; rfl
  · rfl
/-- a slice of slices of whole numbers -/
theorem open_codes {t e u : TypeId} {k : IntKind} {fuel : Nat} {v : Value} {x : DataW H × List MemPlace} {φ : Map} {s : S} (ht : P.underlying t = some (.slice e)) (he : P.underlying e = some (.slice u)) (hu : P.underlying u = some (.int k)) (hce : P.cellsOf e = 1) (hcu : P.cellsOf u = 1)
    (hok : Cell.okWide P W r base t v) (h : DataW.trod enc P W 0 (fun _ => true) true fuel t [v] = some x) (hop : Opn W φ s) :
    ∃ φ' s' cv n, Opn W φ' s' ∧ (∀ id l, φ id = some l → φ' id = some l) ∧ Ext s s' ∧ VR φ' cv v ∧ Cods s' cv n := by
  rcases DataW.trod_slice ht h with ⟨h0, _⟩ | ⟨a, len, cap, elems, rest, n, _, h0, _, _, hle, _, hlen, hel, _, _⟩
  · simp only [List.cons.injEq, and_true] at h0
    subst h0
    exact ⟨φ, s, .slice none 0 (.exact 0), 0, hop, fun _ _ h => h, Ext.refl s, ⟨0, rfl, rfl⟩, .none 0⟩
  · simp only [List.cons.injEq, and_true] at h0
    subst h0
    rcases cell_slice ht hok with h0 | ⟨b, o, len', cap', arr, el, fz, h0, _, hb⟩
    · cases h0
    · cases h0
      have hat : ∀ i, i < len → ∃ c fuel x, arr[o + i]? = some c ∧ DataW.trod enc P W 0 (fun _ => true) true fuel e [c] = some x := fun i hi => by
        have h1 := hel i hi
        rw [List.getElem?_eq_getElem (by omega), hce, Nat.mul_one, addr_at] at h1
        cases hc : W.cells? 0 ⟨b, o + i, none⟩ 1 with
        | none => rw [hc] at h1; cases h1
        | some l =>
          rw [hc] at h1
          have h1 : DataW.trod enc P W 0 (fun _ => true) true n e l = some elems[i] := h1
          have hl : ∃ c, l = [c] ∧ W.cell? ⟨b, o + i, none⟩ = some c := by
            obtain ⟨_, g1, g2⟩ := World.cells?_some hc
            obtain ⟨c, rfl⟩ : ∃ c, l = [c] := by
              match l, g1 with
              | [c], _ => exact ⟨c, rfl⟩
            exact ⟨c, rfl, cell_of_cells?_one hc⟩
          obtain ⟨c, rfl, h2⟩ := hl
          exact ⟨c, n, _, cell_block hb h2, h1⟩
      have hget : ∀ i, ((arr.toList.drop o).take len)[i]? = if i < len then arr[o + i]? else none := fun i => by
        rw [List.getElem?_take]
        split
        · rw [List.getElem?_drop, Array.getElem?_toList]
        · rfl
      have hlen2 : ((arr.toList.drop o).take len).length = len := by
        rcases Nat.lt_or_ge ((arr.toList.drop o).take len).length len with h | h
        · obtain ⟨c, _, _, h1, _⟩ := hat _ h
          have h2 := hget ((arr.toList.drop o).take len).length
          rw [if_pos h, h1, List.getElem?_eq_none (Nat.le_refl _)] at h2
          cases h2
        · have := List.length_take_le len (arr.toList.drop o); omega
      obtain ⟨φ1, s1, vs, o1, e1, x1, r1, w1⟩ := open_list (W := W) (enc := enc) he hu hcu ((arr.toList.drop o).take len) (fun c hc => by
        obtain ⟨i, hi, rfl⟩ := List.mem_iff_getElem.1 hc
        have h2 := hget i
        rw [List.getElem?_eq_getElem hi, if_pos (by omega)] at h2
        obtain ⟨c, f, x, h3, h4⟩ := hat i (by omega)
        rw [h3] at h2
        rw [Option.some.inj h2]
        exact ⟨f, x, h4⟩) hop
      have hvl : vs.length = len := by rw [r1.length, hlen2]
      have hop' := o1.add (off := o) (cs := vs) hb fun j c hj => by
        obtain ⟨y, h2, h3⟩ := r1.get hj
        have h4 := hget j
        rw [h2] at h4
        split at h4
        · exact ⟨y, h4.symm, h3⟩
        · cases h4
      refine ⟨_, _, .slice (some (s1.n, 0)) len (.exact cap), len, hop', fun id l h => Map.upd_ext o1.rel.fresh _ _ (e1 _ _ h), x1.trans (new_ext _ _), ⟨_, Map.upd_self, rfl⟩, ?_⟩
      exact .some s1.n 0 len (.exact cap) vs 0 true vs (Nat.lt_succ_self _) (get_same _ _ _ rfl) (takeN_all2 _ _ hvl) (fun w hw => (w1 w hw).imp fun n hn => hn.ext (new_ext _ _))
end
end
section
section
open Go.ChangeShapes
variable {H : Type} {enc : TypeId × Value → H} {P : Program} {W : World} {r : Reach} {base : Nat}
theorem wf_u8 {n : Int} (h : (Lit.int .u8 n).wf = true) : 0 ≤ n ∧ n ≤ 255 := by
  simp [Lit.wf, IntKind.min, IntKind.max, IntKind.signed, IntKind.bits] at h
  omega
theorem byteCells_get : ∀ (l : List UInt8) (j : Nat) (c : V), (byteCells l)[j]? = some c → ∃ b, l[j]? = some b ∧ c = .int .u8 (b.toNat : Int)
  | [], j, c, h => by simp [byteCells] at h
  | b :: l, 0, c, h => by simp [byteCells] at h; exact ⟨b, rfl, h.symm⟩
  | b :: l, j + 1, c, h => by simpa using byteCells_get l j c (by simpa [byteCells] using h)
/-- a slice of bytes -/
theorem open_bytes {t e : TypeId} {fuel : Nat} {v : Value} {x : DataW H × List MemPlace} {φ : Map} {s : S} (ht : P.underlying t = some (.slice e)) (he : P.underlying e = some (.int .u8)) (hce : P.cellsOf e = 1)
    (hok : Cell.okWide P W r base t v) (h : DataW.trod enc P W 0 (fun _ => true) true fuel t [v] = some x) (hop : Opn W φ s) :
    ∃ φ' s' bv l, Opn W φ' s' ∧ (∀ id l, φ id = some l → φ' id = some l) ∧ Ext s s' ∧ VR φ' bv v ∧ Byts s' bv l := by
  rcases Go.ChangeShapes.open_ints ht he hce h with ⟨h0, _⟩ | ⟨a, len, cap, zs, h0, _, hle, _, hzs, _, hcs, hwf⟩
  · simp only [List.cons.injEq, and_true] at h0
    subst h0
    exact ⟨φ, s, .slice none 0 (.exact 0), [], hop, fun _ _ h => h, Ext.refl s, ⟨0, rfl, rfl⟩, .none 0⟩
  · simp only [List.cons.injEq, and_true] at h0
    subst h0
    simp only [if_true] at hzs
    rcases cell_slice ht hok with h0 | ⟨b, o, len', cap', arr, el, fz, h0, _, hb⟩
    · cases h0
    · cases h0
      have hop' := hop.add (off := o) (cs := byteCells ((zs.take len).map fun n => UInt8.ofNat n.toNat)) hb fun j c hj => by
        obtain ⟨y, h1, rfl⟩ := byteCells_get _ _ _ hj
        simp only [List.getElem?_map, Option.map_eq_some_iff] at h1
        obtain ⟨z, h2, rfl⟩ := h1
        rw [List.getElem?_take] at h2
        split at h2
        · rename_i hj2
          have hz := wf_u8 (hwf z (List.mem_of_getElem? h2))
          have h3 := hcs j (by omega)
          rw [addr_at] at h3
          refine ⟨_, cell_block hb h3, ?_⟩
          rw [List.getD_eq_getElem?_getD, h2]
          show Value.int .u8 z = Value.int .u8 _
          congr 1
          rw [UInt8.toNat_ofNat']
          omega
        · cases h2
      refine ⟨_, _, .slice (some (s.n, 0)) len (.exact cap), (zs.take len).map fun n => UInt8.ofNat n.toNat, hop', Map.upd_ext hop.rel.fresh, new_ext _ _, ⟨_, Map.upd_self, rfl⟩, ?_⟩
      have := Byts.full (s := s.new (.cells (byteCells ((zs.take len).map fun n => UInt8.ofNat n.toNat)) 0 true)) (cap := .exact cap) (l := (zs.take len).map fun n => UInt8.ofNat n.toNat) (Nat.lt_succ_self _) (get_same _ _ _ rfl)
      rwa [show ((zs.take len).map fun n => UInt8.ofNat n.toNat).length = len by simp; omega] at this
/-- a slice, of which the length alone is asked -/
theorem open_len {t e : TypeId} {v : Value} {φ : Map} {s : S} (ht : P.underlying t = some (.slice e)) (hok : Cell.okWide P W r base t v) (hop : Opn W φ s) :
    ∃ φ' s' al n cap, Opn W φ' s' ∧ (∀ id l, φ id = some l → φ' id = some l) ∧ Ext s s' ∧ VR φ' (.slice al n cap) v := by
  rcases cell_slice ht hok with rfl | ⟨b, o, len', cap', arr, el, fz, rfl, _, hb⟩
  · exact ⟨φ, s, none, 0, .exact 0, hop, fun _ _ h => h, Ext.refl s, ⟨0, rfl, rfl⟩⟩
  · exact ⟨_, _, some (s.n, 0), len', .exact cap', hop.add (off := o) (cs := []) hb (fun j c hj => by simp at hj), Map.upd_ext hop.rel.fresh, new_ext _ _, ⟨_, Map.upd_self, rfl⟩⟩
end
end
section
section
open Go.ChangeShapes Go.WideShapes Go.RowKit
theorem Try.own : ownKnob Try.prog.godebug = none := by kernel_rfl
theorem Try.laidOut : laidOutB Try.prog = true := by kernel_rfl
theorem known_run : gives kKnown.v (run E 60 (.call kKnown.f kKnown.args none) ⟨laidH kKnown.g, E.ng, []⟩) = true := by kernel_rfl
theorem known_ok : ∀ k ∈ [kKnown], KnOk E Try.prog k := kns_cons (kn_ok (run_ok E_ok 60) (by kernel_rfl) (by kernel_rfl) trivial known_run) kns_nil
theorem top_ok (k : Nat) : SelfOk E Try.prog (top k) := task_ok E_ok (ovT_ok known_ok (run_ok E_ok k)) (draw_ok E_ok (ovT_ok known_ok (run_ok E_ok k)) (lcl_ovT (lcl_run k)))
#print axioms top_ok
end
end
section
section
open Go.ChangeShapes Go.WideShapes Go.RowKit
theorem cells25 : Try.prog.cellTypes Try.prog.depth 25 = some [22, 23, 3, 3] := by kernel_rfl
theorem cell_num {P : Program} {W : World} {r : Reach} {base : Nat} {t : TypeId} {v : Value} {k : IntKind} (ht : P.underlying t = some (.int k)) (h : Cell.okWide P W r base t v) : ∃ n, v = .int k n := by
  obtain ⟨n, h, _⟩ := cell_int ht h
  exact ⟨n, h⟩
theorem law_run {H : Type} {enc : TypeId × Value → H} (v0 v1 v2 : Value) (d0 : DataW H) (p0 : List MemPlace) (W : World) (base : Nat) (h0 : Value.okWide Try.prog W .any base 25 v0) (h1 : Value.okWide Try.prog W .any base 26 v1) (h2 : Value.okWide Try.prog W .any base 3 v2)
    (hd : DataW.Trod enc Try.prog W 0 (fun _ => true) true 25 v0 d0 p0) :
    Calls Try.prog 3 #[v0, v1, v2] W fun e W' => e = .returned (.bool true) ∧ Below W.heap.size W W' := by
  obtain ⟨at', rfl⟩ : ∃ n, v2 = .int .i64 n := okWide_int Try.underlying3 h2
  have h1' : Cell.okWide Try.prog W .any base 26 v1 := by
    unfold Value.okWide at h1
    rwa [Try.underlying26] at h1
  unfold Value.okWide at h0
  rw [Try.underlying25] at h0
  obtain ⟨cs, rfl, hsz, ts, g1, _, g2⟩ := h0
  rw [cells25] at g1
  cases g1
  have hsz4 : cs.size = 4 := hsz.trans (by kernel_rfl)
  obtain ⟨c0, c1, c2, c3, rfl⟩ : ∃ c0 c1 c2 c3, cs = #[c0, c1, c2, c3] := by
    rcases cs with ⟨l⟩
    match l, hsz4 with
    | [c0, c1, c2, c3], _ => exact ⟨c0, c1, c2, c3, rfl⟩
  have k0 : Cell.okWide Try.prog W .any base 22 c0 := by
    obtain ⟨u, e1, e2⟩ := g2 0 c0 rfl
    cases e1; exact e2
  have k1 : Cell.okWide Try.prog W .any base 23 c1 := by
    obtain ⟨u, e1, e2⟩ := g2 1 c1 rfl
    cases e1; exact e2
  have k2 : Cell.okWide Try.prog W .any base 3 c2 := by
    obtain ⟨u, e1, e2⟩ := g2 2 c2 rfl
    cases e1; exact e2
  have k3 : Cell.okWide Try.prog W .any base 3 c3 := by
    obtain ⟨u, e1, e2⟩ := g2 3 c3 rfl
    cases e1; exact e2
  obtain ⟨sets, rfl⟩ := cell_num Try.underlying3 k2
  obtain ⟨ways, rfl⟩ := cell_num Try.underlying3 k3
  obtain ⟨fuel, hd⟩ := hd
  obtain ⟨xs, n, _, _, _, hxl, hf⟩ := DataW.trod_struct Try.underlying25 hd
  have hf0 := hf 0 _ rfl
  have hf1 := hf 1 _ rfl
  have hx0 : ∃ x, xs[0]? = some x := ⟨xs[0]'(by rw [hxl]; exact of_decide_eq_true (by kernel_rfl)), List.getElem?_eq_getElem _⟩
  have hx1 : ∃ x, xs[1]? = some x := ⟨xs[1]'(by rw [hxl]; exact of_decide_eq_true (by kernel_rfl)), List.getElem?_eq_getElem _⟩
  obtain ⟨x0, hx0⟩ := hx0
  obtain ⟨x1, hx1⟩ := hx1
  rw [hx0] at hf0
  rw [hx1] at hf1
  have hf0' : DataW.trod enc Try.prog W 0 (fun _ => true) true n 22 [c0] = some x0 := hf0
  have hf1' : DataW.trod enc Try.prog W 0 (fun _ => true) true n 23 [c1] = some x1 := hf1
  have hst : Opn W (globMap E.ng) ⟨.leaf, E.ng, []⟩ := ⟨globMap_rel (Nat.zero_le _), globMap_ro⟩
  obtain ⟨φ1, s1, cv, nc, o1, e1, y1, r1, w1⟩ := open_codes Try.underlying22 Try.underlying43 Try.underlying45 (by kernel_rfl) (by kernel_rfl) k0 hf0' hst
  obtain ⟨φ2, s2, bv, l, o2, e2, y2, r2, w2⟩ := open_bytes Try.underlying23 Try.underlying5 (by kernel_rfl) k1 hf1' o1
  obtain ⟨φ3, s3, al, nl, capl, o3, e3, y3, r3⟩ := open_len Try.underlying26 h1' o2
  have ha : VRL φ3 [.agg [cv, bv, .int .i64 sets, .int .i64 ways], .slice al nl capl, .int .i64 at'] (#[.agg #[c0, c1, .int .i64 sets, .int .i64 ways], v1, .int .i64 at'] : Array Value).toList :=
    ⟨_, _, rfl, ⟨_, rfl, _, _, rfl, VR.mono (fun id l h => e3 _ _ (e2 _ _ h)) _ _ r1, _, _, rfl, VR.mono e3 _ _ r2, _, _, rfl, rfl, _, _, rfl, rfl, rfl⟩, _, _, rfl, r3, _, _, rfl, rfl, rfl⟩
  obtain ⟨s', hrun⟩ := law3 (k := 90) (s := s3) (at' := at') (al := al) (nl := nl) (capl := capl) (sets := sets) (ways := ways) (by omega) ((w1.ext y2).ext y3) (w2.ext y3)
  exact law_callsR (top_ok 90) (fun g hg => absurd hg (Nat.not_lt_zero g)) o3.rel o3.ro ha hrun
end
end
end Go.Proofs.Ytfcakcaepbmefaa
