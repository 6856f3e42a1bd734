/- An abstract machine for the model's programs, and what its runs say of the model (part AmC). No condition. -/
import Derived.Test.YtfcakcaepbmefaaAmB
set_option linter.unusedVariables false
set_option linter.unusedSimpArgs false
set_option linter.unusedSectionVars false
namespace Go.AM
open Go

section
variable {P : Program} {φ : Map} {s : S} {w : World} {E : Env}

/-- what append does, once it is known how many elements come and which cells they are -/
structure AppIn (P : Program) (e : TypeId) (w : World) (size bytes : Nat) (ts : Array TypeId) (ty : TypeId) (c : Value) (d : Value) (n : Nat) (xs : List Value) : Prop where
  room : ∀ base len cap, c = .slice base len cap → len + n ≤ cap → ∀ u w', (match base with | some a => storeCells (a.add (len * size)) xs | none => pure () : Sem Unit).run P w = .ok u w' →
    (Builtin.append_ ts ty #[c, d]).run P w = .ok (.slice base (len + n) cap) w'
  grow : ∀ base len cap old z, c = .slice base len cap → ¬ len + n ≤ cap → (len + n) * (bytes + 1) ≤ 4294967296 →
    (∀ dr, (Builtin.firstCells size len c).run P { w with drawn := dr } = .ok old { w with drawn := dr }) → (∀ dr, (zeroValue e).run P { w with drawn := dr } = .ok z { w with drawn := dr }) →
    ∃ newCap, len + n ≤ newCap ∧ (Builtin.append_ ts ty #[c, d]).run P w =
      .ok (.slice (some ⟨w.heap.size, 0, none⟩) (len + n) newCap) { w with heap := w.heap.push (.cells (old ++ xs.toArray ++ Builtin.zeroCells z.cells (newCap - (len + n))) e), drawn := w.drawn + 1 }

theorem nextcap_le (n c : Nat) (h : c < n) : Builtin.nextslicecap n c ≤ 2 * n + 1024 := by
  have grow : ∀ (r c : Nat), c < n → Builtin.growBy n r c ≤ 2 * n + 1024 := by
    intro r
    induction r with
    | zero => intro c h; simp only [Builtin.growBy]; omega
    | succ r ih =>
      intro c h
      simp only [Builtin.growBy]
      split
      · omega
      · by_cases h2 : c + (c + 768) / 4 < n
        · exact ih _ h2
        · cases r with
          | zero => simp only [Builtin.growBy]; omega
          | succ r =>
            simp only [Builtin.growBy]
            rw [if_pos (by omega)]
            omega
  unfold Builtin.nextslicecap
  split
  · omega
  · split
    · omega
    · exact grow 4 c h

theorem isInt_cond {d : TypeDesc} (h : isIntD (some d) = false) : (match (generalizing := false) d with | .int _ => true | _ => false) = false := by
  cases d <;> first | rfl | (simp [isIntD] at h)

theorem appIn_plain (hE : EnvOk E P) {t1 t2 e ty : TypeId} {te : TI} {d2 : TypeDesc} {c d : Value} {n : Nat} {xs : List Value} {ts : List TypeId} (hu : P.underlying t1 = some (.slice e)) (hte : E.ty e = some te)
    (hu2 : P.underlying t2 = some d2) (hni : isIntD (some d2) = false) (hl : ∀ w, (Builtin.lenOf d).run P w = .ok n w) (hf : ∀ dr, (Builtin.firstCells te.size n d).run P { w with drawn := dr } = .ok xs.toArray { w with drawn := dr }) :
    AppIn P e w te.size te.bytes (t1 :: t2 :: ts).toArray ty c d n xs := by
  have hok := hE.ty _ _ hte
  have hm := isInt_cond hni
  have ht1 : ((t1 :: t2 :: ts).toArray)[0]? = some t1 := rfl
  have ht2 : ((t1 :: t2 :: ts).toArray)[1]? = some t2 := rfl
  refine ⟨fun base len cap hc hle u w' hr => ?_, fun base len cap old z hc hgt hby ho hz => ?_⟩
  · subst hc
    have hf' := hf w.drawn
    cases d2 <;> first | (simp [isIntD] at hni; done) | skip
    all_goals
      simp only [Builtin.append_, ht1, ht2, List.getElem?_toArray, List.getElem?_cons_zero, List.getElem?_cons_succ, Sem.run_bind, run_underlying hu, Result.andThen_ok, run_sizeOf hok, run_underlying hu2, Sem.run_pure, Bool.false_eq_true, if_false, hl, if_pos hle, Bool.not_false, if_true, hf']
      cases base with
      | none => simp at hr; simp [hr]
      | some a => simp at hr; simp [hr]
  · subst hc
    have hneed : len + n ≤ 4294967296 := by
      have : (len + n) * 1 ≤ (len + n) * (te.bytes + 1) := Nat.mul_le_mul_left _ (by omega)
      omega
    have hnb : (len + n) * te.bytes ≤ 4294967296 := Nat.le_trans (Nat.mul_le_mul_left _ (by omega)) hby
    have hmax : ¬ (((len + n : Nat) : Int) > IntKind.i64.max) := by
      simp [IntKind.max, IntKind.signed, IntKind.bits]; omega
    have hnsc := nextcap_le (len + n) cap (by omega)
    obtain ⟨inf, hinf, hinb, _⟩ := run_typeInfo hok w
    have hbig : ¬ Builtin.nextslicecap (len + n) cap * inf.bytes > 2 ^ 48 := by
      rw [hinb]
      have h1 : Builtin.nextslicecap (len + n) cap * te.bytes ≤ (2 * (len + n) + 1024) * te.bytes := Nat.mul_le_mul_right _ hnsc
      have h2 : te.bytes ≤ 4294967296 := by
        have : 1 * (te.bytes + 1) ≤ (len + n) * (te.bytes + 1) := Nat.mul_le_mul_right _ (by omega)
        omega
      have h3 : (2 * (len + n) + 1024) * te.bytes = 2 * ((len + n) * te.bytes) + 1024 * te.bytes := by rw [Nat.add_mul, Nat.mul_assoc]
      have h4 : (2 : Nat) ^ 48 = 281474976710656 := by decide
      omega
    obtain ⟨newCap, hcap, hch⟩ : ∃ k, len + n ≤ k ∧ (choose (.appendCap (len + n) cap e)).run P w = .ok k { w with drawn := w.drawn + 1 } :=
      ⟨(Question.appendCap (len + n) cap e).cut (w.tape w.drawn (.appendCap (len + n) cap e)), by simp [Question.cut], by simp [choose, Sem.run, Question.forced]⟩
    have hroom : ∀ w', (askRoom (newCap * inf.bytes)).run P w' = .ok () w' := fun w' => by
      simp only [askRoom]
      split
      · rfl
      · rfl
    obtain ⟨inf', hinf', hinb', _⟩ := run_typeInfo hok { w with drawn := w.drawn + 1 }
    have hroom' : ∀ w', (askRoom (newCap * inf'.bytes)).run P w' = .ok () w' := fun w' => by rw [hinb', ← hinb]; exact hroom w'
    have hif : ¬ (((len + n : Nat) : Int) > IntKind.i64.max ∧ (False ∨ inf.bytes = 0)) := fun h => hmax h.1
    refine ⟨newCap, hcap, ?_⟩
    cases d2 <;> first | (simp [isIntD] at hni; done) | skip
    all_goals
      simp only [Builtin.append_, ht1, ht2, List.getElem?_toArray, List.getElem?_cons_zero, List.getElem?_cons_succ, Sem.run_bind, run_underlying hu, Result.andThen_ok, run_sizeOf hok, run_underlying hu2, Sem.run_pure, Bool.false_eq_true, if_false, hl, if_neg hgt, Bool.not_false, if_true, hinf, if_neg hif, if_neg hbig, hch, hinf', hroom', ho, hf, hz, newRow, newObj]
      rfl

theorem appIn_zeros (hE : EnvOk E P) {t1 t2 e ty : TypeId} {te : TI} {k2 : IntKind} {k : IntKind} {n : Nat} {z c : Value} {ts : List TypeId} (hu : P.underlying t1 = some (.slice e)) (hte : E.ty e = some te)
    (hu2 : P.underlying t2 = some (.int k2)) (hn : n ≤ 1048576) (hz : ∀ w, (zeroValue e).run P w = .ok z w) (hzs : z.cells.size = te.size) (hroomy : n * te.bytes ≤ 4294967296) :
    AppIn P e w te.size te.bytes (t1 :: t2 :: ts).toArray ty c (.int k (Int.ofNat n)) n (if n * te.size = 0 then [] else (Builtin.zeroCells z.cells n).toList) := by
  have hok := hE.ty _ _ hte
  have ht1 : ((t1 :: t2 :: ts).toArray)[0]? = some t1 := rfl
  have ht2 : ((t1 :: t2 :: ts).toArray)[1]? = some t2 := rfl
  have hw1 : IntKind.i64.wrap (Int.ofNat n) = (n : Int) := wrap_small (k := .i64) (by simp only [lim]; omega)
  have hn0 : ¬ ((n : Int) < 0) := by omega
  obtain ⟨inf, hinf, hinb, _⟩ := run_typeInfo hok w
  have hbn : ¬ ((n : Int) * (inf.bytes : Int) > 2 ^ 48) := by
    rw [hinb, ← Int.natCast_mul]
    have : (4294967296 : Int) < 2 ^ 48 := by decide
    have : ((n * te.bytes : Nat) : Int) ≤ 4294967296 := Int.ofNat_le.2 hroomy
    omega
  have happ : ∀ w' : World, (if n * te.size = 0 then (pure #[] : Sem (Array Value)) else (do pure (Builtin.zeroCells (← zeroValue e).cells n))).run P w' = .ok (if n * te.size = 0 then [] else (Builtin.zeroCells z.cells n).toList).toArray w' := fun w' => by
    split
    · rfl
    · simp [hz]
  refine ⟨fun base len cap hc hle u w' hr => ?_, fun base len cap old z' hc hgt hby ho hz' => ?_⟩
  · subst hc
    simp only [Builtin.append_, ht1, ht2, List.getElem?_toArray, List.getElem?_cons_zero, List.getElem?_cons_succ, Sem.run_bind, run_underlying hu, Result.andThen_ok, run_sizeOf hok, run_underlying hu2, Sem.run_pure, if_true, asInt, asIntOf, hw1, if_neg hn0, hinf, if_neg hbn,
      Int.toNat_natCast, if_pos hle, Bool.not_true, Bool.false_eq_true, if_false, happ]
    cases base with
    | none => simp at hr; simp [hr]
    | some a => simp at hr; simp [hr]
  · subst hc
    have hneed : len + n ≤ 4294967296 := by
      have : (len + n) * 1 ≤ (len + n) * (te.bytes + 1) := Nat.mul_le_mul_left _ (by omega)
      omega
    have hnb : (len + n) * te.bytes ≤ 4294967296 := Nat.le_trans (Nat.mul_le_mul_left _ (by omega)) hby
    have hmax : ¬ (((len + n : Nat) : Int) > IntKind.i64.max) := by
      simp [IntKind.max, IntKind.signed, IntKind.bits]; omega
    have hnsc := nextcap_le (len + n) cap (by omega)
    have hbig : ¬ Builtin.nextslicecap (len + n) cap * inf.bytes > 2 ^ 48 := by
      rw [hinb]
      have h1 : Builtin.nextslicecap (len + n) cap * te.bytes ≤ (2 * (len + n) + 1024) * te.bytes := Nat.mul_le_mul_right _ hnsc
      have h2 : te.bytes ≤ 4294967296 := by
        have : 1 * (te.bytes + 1) ≤ (len + n) * (te.bytes + 1) := Nat.mul_le_mul_right _ (by omega)
        omega
      have h3 : (2 * (len + n) + 1024) * te.bytes = 2 * ((len + n) * te.bytes) + 1024 * te.bytes := by rw [Nat.add_mul, Nat.mul_assoc]
      have h4 : (2 : Nat) ^ 48 = 281474976710656 := by decide
      omega
    obtain ⟨newCap, hcap, hch⟩ : ∃ k, len + n ≤ k ∧ (choose (.appendCap (len + n) cap e)).run P w = .ok k { w with drawn := w.drawn + 1 } :=
      ⟨(Question.appendCap (len + n) cap e).cut (w.tape w.drawn (.appendCap (len + n) cap e)), by simp [Question.cut], by simp [choose, Sem.run, Question.forced]⟩
    obtain ⟨inf', hinf', hinb', _⟩ := run_typeInfo hok { w with drawn := w.drawn + 1 }
    have hroom' : ∀ w', (askRoom (newCap * inf'.bytes)).run P w' = .ok () w' := fun w' => by
      simp only [askRoom]
      split
      · rfl
      · rfl
    have hif : ¬ (((len + n : Nat) : Int) > IntKind.i64.max ∧ (True ∨ inf.bytes = 0)) := fun h => hmax h.1
    refine ⟨newCap, hcap, ?_⟩
    simp only [Builtin.append_, ht1, ht2, List.getElem?_toArray, List.getElem?_cons_zero, List.getElem?_cons_succ, Sem.run_bind, run_underlying hu, Result.andThen_ok, run_sizeOf hok, run_underlying hu2, Sem.run_pure, if_true, asInt, asIntOf, hw1, if_neg hn0, hinf, if_neg hbn,
      Int.toNat_natCast, if_neg hgt, if_neg hif, if_neg hbig, hch, hinf', hroom', ho, Bool.not_true, Bool.false_eq_true, if_false, happ, hz', newRow, newObj]
    rfl

theorem VRL.allCells_take {φ : Map} {vs : List V} {cs : List Value} (h : VRL φ vs cs) (ha : allCells vs = true) : ∀ c ∈ cs, Value.isCell c = true := VRL.cellsAll h ha

/-- a block behind growth: what was there, what came, room -/
theorem good_grown (h : Rel φ s w) {e : TypeId} {size need : Nat} {old new : List V} {oc xc : List Value} {z : Value} {newCap : Nat} {r : Result Next} (ho : VRL φ old oc) (hx : VRL φ new xc)
    (hlen : oc.length + xc.length = need * size) (hz : z.cells.size = size) (hcap : need ≤ newCap)
    (hr : r = .ok (.value (.slice (some ⟨w.heap.size, 0, none⟩) need newCap)) { w with heap := w.heap.push (.cells (oc.toArray ++ xc.toArray ++ Builtin.zeroCells z.cells (newCap - need)) e), drawn := w.drawn + 1 }) :
    Good P φ s w (appendNew size old new need) r := by
  unfold appendNew
  have harr : (oc.toArray ++ xc.toArray ++ Builtin.zeroCells z.cells (newCap - need)).size = newCap * size := by
    simp [Builtin.zeroCells, hz]
    rw [hlen, ← Nat.add_mul]
    congr 1
    omega
  have key := good_new (P := P) (φ := φ) (s := s) (w := { w with drawn := w.drawn + 1 }) (o := .cells (old ++ new) size false) (ob := .cells (oc.toArray ++ xc.toArray ++ Builtin.zeroCells z.cells (newCap - need)) e)
    (l := ⟨w.heap.size, 0, newCap, size, false⟩) (f := fun id => retV (.slice (some (id, 0)) need (.opn 0))) (r := r) (h.drawn _) rfl ?_ ?_
  · exact good_step (Keep.drawn φ w _) key
  · refine ⟨_, e, (0, 0), rfl, fun j c hj => ?_, fun _ => ⟨rfl, by rw [harr]; simp⟩, fun _ => ⟨rfl, fun j _ _ => by simp⟩⟩
    obtain ⟨x, hx', hv⟩ := VRL.get ((ho.append hx)) hj
    refine ⟨x, ?_, VR.mono (Map.upd_ext h.fresh) _ _ hv⟩
    have hjl := (List.getElem?_eq_some_iff.1 hx').1
    simp only [Nat.zero_add]
    rw [Array.getElem?_append_left (by simpa using hjl)]
    simpa using hx'
  · intro hrel
    exact good_retV hrel hr ⟨_, Map.upd_self, rfl⟩

theorem allCells_of {vs : List V} (h : allCells vs = true) : ∀ v ∈ vs, v.isCell = true := by
  induction vs with
  | nil => simp
  | cons v vs ih =>
    simp only [allCells] at h
    cases hv : v.isCell with
    | false => simp [hv] at h
    | true =>
      simp only [hv, cond_true] at h
      intro x hx
      rcases List.mem_cons.1 hx with rfl | hx
      · exact hv
      · exact ih h x hx

theorem drawn_eta (w : World) : ({ w with drawn := w.drawn } : World) = w := rfl

/-- growth in place, beyond what is known of the block: the old number is gone -/
theorem good_inplace (h : Rel φ s w) {id off size len n skip opn : Nat} {cs old new : List V} {l : Loc} {xs : List Value} {r : Result Next} (hl : φ id = some l) (ho : s.h.get id = some (.cells cs opn false))
    (hopn : opn = size) (hsz : size ≠ 0) (hoff : off = skip * size) (hold : takeN (len * size) (dropN off cs) = some old) (hv : VRL φ new xs) (hxl : xs.length = n * size) (hle : len + n ≤ l.ccap - skip) (hpos : 1 ≤ len + n) (hcells : ∀ c ∈ xs, Value.isCell c = true)
    (hr : ∀ w', (storeCells ⟨l.blk, l.base + off + len * size, none⟩ xs).run P w = .ok () w' → r = .ok (.value (.slice (some ⟨l.blk, l.base + off, none⟩) (len + n) (l.ccap - skip))) w') :
    ∀ o s', (appendNew size old new (len + n)).eval ((s.rd id).wr id none) = some (o, s') → ∃ φ' w', Rel φ' s' w' ∧ Keep φ w φ' w' ∧ ORok P φ' w' r o := by
  intro o s' e
  obtain ⟨l', hl', hob⟩ := h.obj _ _ ho
  rw [hl] at hl'; cases hl'
  obtain ⟨arr, elem, fz, hb, hcs, hop, hrof⟩ := hob
  obtain ⟨hro, hfr⟩ := hrof rfl
  obtain ⟨hz1, hz2⟩ := hop (by omega)
  obtain ⟨hrow, hrle⟩ := VRL_of_cells hcs
  have hd := VRL.dropN (n := off) hrow
  obtain ⟨hov, holen⟩ := VRL.takeN hd hold
  have hin : l.base + off + len * size + n * size ≤ arr.size := by
    rw [hz2, hz1, hopn, hoff]
    have : (skip + (len + n)) * size ≤ l.ccap * size := by
      exact Nat.mul_le_mul_right _ (by omega)
    rw [Nat.add_mul, Nat.add_mul] at this
    omega
  have hst : (storeCells ⟨l.blk, l.base + off + len * size, none⟩ xs).run P w = .ok () (w.setCells l.blk (l.base + off + len * size) xs) := by
    have := run_storeCells_cells (P := P) l.blk (l.base + off + len * size) xs 0 w (fun j hj => by
      rw [cell?_of hb, Nat.add_zero]; simp; omega) (fun j hj => by
      rw [frozen?_of hb, Nat.add_zero]
      have := hfr (l.base + off + len * size + j) (by omega) (by omega)
      simp only [Bool.and_eq_false_iff, decide_eq_false_iff_not]
      omega) (fun v hv => oneCell_of (hcells v hv))
    simpa using this
  obtain ⟨h1, h2, h3, h4, h5, h6⟩ := setCells_heap l.blk xs (l.base + off + len * size) w arr elem fz hb
  have hr' := hr _ hst
  simp only [appendNew, Q.eval, retV, Option.some.injEq, Prod.mk.injEq] at e
  obtain ⟨rfl, rfl⟩ := e
  have hsn : ((s.rd id).wr id none).n = s.n := rfl
  have hfresh : φ s.n = none := h.fresh
  refine ⟨φ.upd s.n ⟨l.blk, l.base + off, l.ccap - skip, size, false⟩, _, ((h.rd id).kill id).new (w' := w.setCells l.blk (l.base + off + len * size) xs) (l := ⟨l.blk, l.base + off, l.ccap - skip, size, false⟩) (by omega) (by rw [h3]; have := h.bnd _ _ hl; exact this) ?_ ?_ ?_, ?_, ?_⟩
  · intro i k hk hi hblk
    simp only [S.wr, S.rd, Tr.get_put] at hi
    split at hi
    · exact hi rfl
    · rename_i hne
      rcases h.inj i id k l hk hl hi (by simp [ho]) hblk with e | ⟨_, e⟩
      · exact hne e
      · rw [hro] at e; cases e
  · intro i k hk hi
    refine h2 _ fun hblk => ?_
    simp only [S.wr, S.rd, Tr.get_put] at hi
    split at hi
    · exact hi rfl
    · rename_i hne
      rcases h.inj i id k l hk hl hi (by simp [ho]) hblk with e | ⟨_, e⟩
      · exact hne e
      · rw [hro] at e; cases e
  · refine ⟨_, elem, fz, h1, fun j c hj => ?_, fun _ => ⟨rfl, ?_⟩, fun _ => ⟨rfl, fun j hj1 hj2 => hfr j (Nat.le_trans (Nat.le_add_right _ _) hj1) (by rwa [setMany_size] at hj2)⟩⟩
    · rw [setMany_get]
      have hol : old.length = len * size := by
        have := VRL.length hov
        rw [this]
        simp at holen ⊢
        omega
      by_cases hjo : j < len * size
      · rw [List.getElem?_append_left (by omega)] at hj
        obtain ⟨x, hx, hvr⟩ := VRL.get hov hj
        refine ⟨x, ?_, VR.mono (Map.upd_ext hfresh) _ _ hvr⟩
        dsimp only
        rw [if_neg (by omega)]
        rw [List.getElem?_take_of_lt hjo, List.getElem?_drop] at hx
        have hlt : off + j < cs.length := by
          have := (List.getElem?_eq_some_iff.1 hx).1
          simp at this; omega
        rw [List.getElem?_take_of_lt hlt, List.getElem?_drop] at hx
        rw [← hx, Nat.add_assoc]
        simp
      · rw [List.getElem?_append_right (by omega)] at hj
        obtain ⟨x, hx, hvr⟩ := VRL.get hv hj
        refine ⟨x, ?_, VR.mono (Map.upd_ext hfresh) _ _ hvr⟩
        have hjl := (List.getElem?_eq_some_iff.1 hx).1
        dsimp only
        rw [if_pos (by omega), ← hx]
        congr 1; omega
    · rw [setMany_size, hz2, hz1, hopn, hoff]
      dsimp only
      rw [Nat.sub_mul]
      have : skip * size ≤ l.ccap * size := by
        have h7 := hin
        rw [hz2, hz1, hopn] at h7
        omega
      omega
  · refine ⟨Map.upd_ext hfresh, by omega, fun b _ hrr => ?_, fun i k hk => ?_, h4, h5, h6, rfl, fun i k hk => ?_⟩
    · by_cases hbl : b = l.blk
      · subst hbl
        have := hrr id l hl rfl
        rw [hro] at this; cases this
      · exact h2 b hbl
    · simp only [Map.upd] at hk
      split at hk
      · cases hk; exact .inl ⟨id, l, hl, rfl, fun _ => hro⟩
      · exact .inl ⟨i, k, hk, rfl, fun h => h⟩
    · simp only [Map.upd] at hk
      split at hk
      · cases hk; exact .inr rfl
      · exact .inl hk
  · refine .inl ⟨_, hr', _, Map.upd_self, ?_⟩
    simp [Cap.conc]

theorem good_appendAt (hE : EnvOk E P) (h : Rel φ s w) {e : TypeId} {te : TI} {ts : Array TypeId} {ty : TypeId} {a : Option (Nat × Nat)} {len n : Nat} {cap : Cap} {c d : Value} {new : List V} {xs : List Value}
    (hte : E.ty e = some te) (hx : VR φ (.slice a len cap) c) (hv : VRL φ new xs) (hxl : xs.length = n * te.size) (hA : AppIn P e w te.size te.bytes ts ty c d n xs) :
    Good P φ s w (appendAt te a len cap n new) ((do pure (.value (← Builtin.append_ ts ty #[c, d])) : Sem Next).run P w) := by
  have hok := hE.ty _ _ hte
  unfold appendAt
  cases hroom : roomOk (len + n) te.bytes with
  | false => exact good_fail
  | true =>
    have hroom' := roomOk_spec hroom
    simp only [cond_true]
    cases hnm : noMore n len cap with
    | true =>
      simp only [cond_true]
      cases cap with
      | opn k => simp [noMore] at hnm
      | exact k =>
        simp only [noMore, Bool.and_eq_true] at hnm
        obtain ⟨h1, h2⟩ := hnm
        have h1' := Nat.eq_of_beq_eq_true h1
        have h2' := Nat.le_of_ble_eq_true h2
        subst h1'
        have hxs : xs = [] := List.eq_nil_of_length_eq_zero (by simpa using hxl)
        subst hxs
        cases a with
        | none =>
          obtain ⟨m, hm, rfl⟩ := hx
          cases hm
          exact good_retV h (run_v (hA.room none len k rfl (by omega) () w rfl)) ⟨k, rfl, rfl⟩
        | some p =>
          obtain ⟨l, hl, rfl⟩ := hx
          exact good_retV h (run_v (hA.room _ len k rfl (by omega) () w (by simp [storeCells]))) ⟨l, hl, rfl⟩
    | false =>
      simp only [cond_false]
      cases hall : allCells new with
      | false => exact good_fail
      | true =>
        simp only [cond_true]
        cases hsz : Nat.beq te.size 0 with
        | true => exact good_fail
        | false =>
          simp only [cond_false]
          have hsz' : te.size ≠ 0 := fun e => by rw [e] at hsz; simp at hsz
          obtain ⟨z, hz, hz1, _⟩ := run_zeroValue hok w
          have hzall : ∀ dr, (zeroValue e).run P { w with drawn := dr } = .ok z { w with drawn := dr } := fun dr => by
            obtain ⟨i, z', hi, _, _, hz', _⟩ := hok.info
            have e1 : ∀ w : World, (zeroValue e).run P w = .ok z' w := fun w => by simp [zeroValue, typeInfo, hi, hz']
            have : z = z' := by have := hz.symm.trans (e1 w); cases this; rfl
            subst this
            exact e1 _
          have hzs : z.cells.size = te.size := by
            have := VRL.length (φ := φ) (by rw [hz1]; exact (VR_ofV φ z).cells : VRL φ te.zero z.cells.toList)
            rw [hok.len] at this
            simpa using this.symm
          have hcells := VRL.cellsAll hv hall
          unfold appendOn
          split
          · -- nil
            split
            · cases hl0 : Nat.beq len 0 with
              | false => exact good_fail
              | true =>
                simp only [cond_true]
                have hl0' := Nat.eq_of_beq_eq_true hl0
                subst hl0'
                obtain ⟨m, hm, rfl⟩ := hx
                cases hm
                by_cases hn : n = 0
                · subst hn; simp [noMore] at hnm
                · obtain ⟨newCap, hc1, hc2⟩ := hA.grow none 0 0 #[] z rfl (by omega) (by simpa using hroom') (fun dr => by simp [Builtin.firstCells]) hzall
                  refine good_grown (e := e) (oc := []) (xc := xs) (newCap := newCap) h rfl hv (by simp [hxl]) hzs (by omega) ?_
                  have := run_v hc2
                  simpa using this
            · exact good_fail
          · rename_i id off
            obtain ⟨l, hl, rfl⟩ := hx
            refine good_rd fun o ho => ?_
            split
            · rename_i cs opn ro
              obtain ⟨l', hl', hob⟩ := h.obj _ _ ho
              rw [hl] at hl'; cases hl'
              have hold : ∀ old, takeN (len * te.size) (dropN off cs) = some old → ∃ oc : List Value, (∀ dr, (Builtin.firstCells te.size len (.slice (some ⟨l.blk, l.base + off, none⟩) len (cap.conc l))).run P { w with drawn := dr } = .ok oc.toArray { w with drawn := dr }) ∧ VRL φ old oc ∧ oc.length = len * te.size := fun old hold => by
                obtain ⟨oc, h1, h2, h3⟩ := run_row_of (P := P) hob hold
                exact ⟨oc, fun dr => by simpa [Builtin.firstCells] using h1 dr, h2, h3⟩
              have growth : ∀ (φ' : Map) (s' : S) old, Rel φ' s' w → (∀ i k, φ i = some k → φ' i = some k) → takeN (len * te.size) (dropN off cs) = some old → ¬ len + n ≤ cap.conc l →
                  Good P φ' s' w (appendNew te.size old new (len + n)) ((do pure (.value (← Builtin.append_ ts ty #[.slice (some ⟨l.blk, l.base + off, none⟩) len (cap.conc l), d])) : Sem Next).run P w) := fun φ' s' old hs' hφ' htake hgt => by
                obtain ⟨oc, h1, h2, h3⟩ := hold old htake
                obtain ⟨newCap, hc1, hc2⟩ := hA.grow _ len (cap.conc l) oc.toArray z rfl hgt hroom' h1 hzall
                exact good_grown hs' (VRL.mono hφ' _ _ h2) (VRL.mono hφ' _ _ hv) (by rw [h3, hxl, Nat.add_mul]) hzs hc1 (run_v hc2)
              split
              · rename_i k
                cases hle : Nat.ble (len + n) k with
                | true =>
                  have hle' := Nat.le_of_ble_eq_true hle
                  simp only [cond_true]
                  cases ro with
                  | true => exact good_fail
                  | false =>
                    simp only [cond_false]
                    split
                    · rename_i cs' hcs'
                      obtain ⟨w', hr, h1, h2, h3, h4, h5, h6⟩ := run_storeCells_of (P := P) hob hcs' hv hcells
                      have hro : l.ro = false := by obtain ⟨_, _, _, _, _, _, hro⟩ := hob; exact (hro rfl).1
                      intro o s'' e'
                      simp only [Q.eval, retV, Option.some.injEq, Prod.mk.injEq] at e'
                      obtain ⟨rfl, rfl⟩ := e'
                      refine ⟨φ, w', (h.rd id).wr hl hro (show (s.rd id).h.get id ≠ none by show s.h.get id ≠ none; simp [ho]) h1 h2 h3, Keep.wr hl hro h1 h2 h4 h5 h6, .inl ⟨_, run_v (hA.room _ len k rfl hle' () w' ?_), l, hl, rfl⟩⟩
                      simpa [addr_add, Nat.add_assoc] using hr
                    · exact good_fail
                | false =>
                  simp only [cond_false]
                  have hgt : ¬ len + n ≤ k := fun hle' => by rw [Nat.ble_eq_true_of_le hle'] at hle; cases hle
                  split
                  · rename_i old hold'
                    exact growth φ _ old (h.rd id) (fun _ _ h => h) hold' hgt
                  · exact good_fail
              · rename_i skip
                cases ro with
                | true => exact good_fail
                | false =>
                  simp only [cond_false]
                  have hro : l.ro = false := by obtain ⟨_, _, _, _, _, _, hro⟩ := hob; exact (hro rfl).1
                  split
                  · rename_i cs' hcs'
                    cases hg : not (and (Nat.beq opn te.size) (Nat.beq off (skip * te.size))) with
                    | true => exact good_fail
                    | false =>
                      simp only [cond_false]
                      simp only [Bool.not_eq_false', Bool.and_eq_true] at hg
                      have hg2' := Nat.eq_of_beq_eq_true hg.1
                      have hg3' := Nat.eq_of_beq_eq_true hg.2
                      have hle' : len + n ≤ l.ccap - skip := by
                        obtain ⟨arr, elem, fz, hbk, hcs, hop, _⟩ := hob
                        obtain ⟨hz1, hz2⟩ := hop (by omega)
                        obtain ⟨_, hle⟩ := VRL_of_cells hcs
                        obtain ⟨_, hsp⟩ := splice_spec hcs'
                        have hl1 := VRL.length hv
                        have h1 : cs.length ≤ l.ccap * te.size := by
                          rcases hle with hle | hle
                          · rw [hz2, hz1, hg2'] at hle; omega
                          · subst hle; simp
                        have h2 : (len + n) * te.size ≤ (l.ccap - skip) * te.size := by
                          rw [Nat.sub_mul, Nat.add_mul, ← hg3']
                          omega
                        exact Nat.le_of_mul_le_mul_right h2 (by omega)
                      obtain ⟨w', hr, h1, h2, h3, h4, h5, h6⟩ := run_storeCells_of (P := P) hob hcs' hv hcells
                      intro o s'' e'
                      simp only [Q.eval, retV, Option.some.injEq, Prod.mk.injEq] at e'
                      obtain ⟨rfl, rfl⟩ := e'
                      refine ⟨φ, w', (h.rd id).wr hl hro (show (s.rd id).h.get id ≠ none by show s.h.get id ≠ none; simp [ho]) h1 h2 h3, Keep.wr hl hro h1 h2 h4 h5 h6, .inl ⟨_, run_v (hA.room _ len _ rfl hle' () w' ?_), l, hl, rfl⟩⟩
                      simpa [addr_add, Nat.add_assoc] using hr
                  · cases hg : and (Nat.ble 1 (len + n)) (and (Nat.beq opn te.size) (Nat.beq off (skip * te.size))) with
                    | false => exact good_fail
                    | true =>
                      simp only [cond_true]
                      simp only [Bool.and_eq_true] at hg
                      have hg1' := Nat.le_of_ble_eq_true hg.1
                      have hg2' := Nat.eq_of_beq_eq_true hg.2.1
                      have hg3' := Nat.eq_of_beq_eq_true hg.2.2
                      split
                      · rename_i old hold'
                        by_cases hle' : len + n ≤ l.ccap - skip
                        · -- in place, beyond what is known
                          refine good_inplace h hl ho hg2' hsz' hg3' hold' hv hxl hle' hg1' hcells fun w' hst => run_v (hA.room _ len _ rfl hle' () w' ?_)
                          simpa [addr_add] using hst
                        · intro o s'' e'
                          exact growth φ ((s.rd id).wr id none) old ((h.rd id).kill id) (fun _ _ h => h) hold' hle' o s'' e'
                      · exact good_fail
            · exact good_fail

end
end Go.AM

namespace Go.AM
open Go

section
variable {P : Program} {φ : Map} {s : S} {w : World} {E : Env}

theorem keyEq_plain {kt : TypeId} {k k' : V} {b : Bool} (h : keyEq E kt k k' = some b) : ∃ d, E.desc kt = some d ∧ plainKey (some d) = true := by
  unfold keyEq at h
  cases hd : E.desc kt with
  | none => simp [hd] at h
  | some d =>
    refine ⟨d, rfl, ?_⟩
    cases d <;> simp [hd] at h <;> rfl

/-- what keyEq says is what the model asks first -/
theorem keyEq_same {kt : TypeId} {d : TypeDesc} {k k' : V} {b : Bool} {c c' : Value} (hd : E.desc kt = some d) (h : keyEq E kt k k' = some b) (hk : VR φ k c) (hk' : VR φ k' c') : Instr.sameNow d c c' = some b := by
  unfold keyEq at h
  rw [hd] at h
  cases d <;> simp only at h <;> try (cases h; done)
  · cases k <;> try (cases h; done)
    cases k' <;> try (cases h; done)
    simp only [eqBool, Option.some.injEq] at h
    cases hk; cases hk'; subst h; rfl
  · cases k <;> try (cases h; done)
    cases k' <;> try (cases h; done)
    rename_i k1 a k2 b'
    simp only [eqInt] at h
    cases hkk : kindEq k1 k2 with
    | false => simp [hkk] at h
    | true =>
      rw [hkk, cond_true] at h
      cases h
      rw [kindEq_eq] at hkk
      have : k1 = k2 := by simpa using hkk
      subst this
      cases hk; cases hk'
      simp [Instr.sameNow, eqI_eq]
  · cases k <;> try (cases h; done)
    cases k' <;> try (cases h; done)
    simp only [eqStr, Option.some.injEq] at h
    cases hk; cases hk'; subst h
    rename_i a b'
    simp only [Instr.sameNow, eqB_eq]
    rw [beq_toListBytes, ByteArray.toList_eq, ByteArray.toList_eq]

theorem findNow_spec {kt : TypeId} {d : TypeDesc} {k : V} {c : Value} (hd : E.desc kt = some d) (hk : VR φ k c) : ∀ (es : List (V × V × Nat)) (cs : List MapEntry) (n : Nat) (r : Option (V × Nat)), EntsR φ es cs → findV (keyEq E kt k) es = some r →
    (r = none ∧ Instr.findNow d c cs n = some none ∧ ∀ v clock, setV (keyEq E kt k) k v clock es = some (es ++ [(k, v, clock)], Nat.succ clock)) ∨
    (∃ i v b e k', r = some (v, b) ∧ es[i]? = some (k', v, b) ∧ cs[i]? = some e ∧ VR φ v e.val ∧ keyEq E kt k k' = some true ∧ VR φ k' e.key ∧ Instr.findNow d c cs n = some (some (n + i, e.val)) ∧
      ∀ v' clock, setV (keyEq E kt k) k v' clock es = some (es.set i (k, v', b), clock))
  | [], cs, n, r, he, hf => by
    simp only [EntsR] at he; subst he
    simp only [findV, Option.some.injEq] at hf; subst hf
    exact .inl ⟨rfl, rfl, fun v clock => rfl⟩
  | (k', v, b) :: es, _, n, r, ⟨e, cs, rfl, ⟨h1, h2⟩, hr⟩, hf => by
    simp only [findV] at hf
    split at hf
    · rename_i hkk
      cases hf
      refine .inr ⟨0, v, b, e, k', rfl, rfl, rfl, h2, hkk, h1, ?_, fun v' clock => ?_⟩
      · simp [Instr.findNow, keyEq_same hd hkk hk h1]
      · simp [setV, hkk]
    · rename_i hkk
      rcases findNow_spec hd hk es cs (n + 1) r hr hf with ⟨g1, g2, g3⟩ | ⟨i, v1, b1, e1, k1, g1, g2, g3, g4, g5, g6, g7, g8⟩
      · refine .inl ⟨g1, by simp [Instr.findNow, keyEq_same hd hkk hk h1, g2], fun v' clock => ?_⟩
        simp [setV, hkk, g3 v' clock]
      · refine .inr ⟨i + 1, v1, b1, e1, k1, g1, by simpa using g2, by simpa using g3, g4, g5, g6, ?_, fun v' clock => ?_⟩
        · simp only [Instr.findNow, keyEq_same hd hkk hk h1, g7]
          congr 3; omega
        · simp [setV, hkk, g8 v' clock]
    · cases hf

theorem run_findKey_of (hE : EnvOk E P) {kt : TypeId} {d : TypeDesc} {c : Value} {cs : List MapEntry} {r : Option (Nat × Value)} (hd : E.desc kt = some d) (h : Instr.findNow d c cs 0 = some r) (w : World) : (Instr.findKey kt c cs).run P w = .ok r w := by
  simp [Instr.findKey, run_underlying (und_of hE hd), h]

theorem run_checkKey_plain (hE : EnvOk E P) {kt : TypeId} {d : TypeDesc} {c : Value} {n : Nat} {b : Bool} (hd : E.desc kt = some d) (hp : plainKey (some d) = true) (w : World) : (Instr.checkKey b (n + 1) kt c).run P w = .ok () w := by
  simp only [Instr.checkKey, Sem.run_bind, run_underlying (und_of hE hd), Result.andThen_ok]
  cases d <;> simp [plainKey] at hp <;> rfl

theorem run_getMap {l : Loc} {es : List (V × V × Nat)} {clock : Nat} {o : Ob} (ho : o = .map es clock true) (hob : ObB φ l o (w.heap[l.blk]?)) :
    ∃ cs : Array MapEntry, l.ro = false ∧ w.heap[l.blk]? = some (.map cs clock) ∧ (getObj l.blk).run P w = .ok (.map cs clock) w ∧ EntsR φ es cs.toList ∧ cs.toList.map (·.born) = bornsOf es := by
  subst ho
  obtain ⟨hro, cs, e1, e2, e3⟩ := hob
  exact ⟨cs, hro, e1, by simp [getObj, Sem.run, e1], e2, e3⟩

theorem good_zero {te : TI} {t : TypeId} (ht : TIok P t te) : ∃ z, (∀ w, (zeroValue t).run P w = .ok z w) ∧ VR φ (zeroOf te) z := by
  obtain ⟨i, z, hi, _, _, hz, _, h2⟩ := ht.info
  exact ⟨z, fun w => by simp [zeroValue, typeInfo, hi, hz], by rw [h2]; exact VR_ofV φ z⟩

theorem keyOk_plain {kt : TypeId} {k : V} (h : keyOk E kt k = true) : ∃ d, E.desc kt = some d ∧ plainKey (some d) = true := by
  unfold keyOk at h
  split at h
  · rename_i b hb; exact keyEq_plain hb
  · cases h

theorem VR_okV {ok : Bool} {v : V} {c : Value} {is : Bool} (h : VR φ v c) : VR φ (okV ok v is) (if ok then .tuple #[c, .bool is] else c) := by
  cases ok with
  | true => exact ⟨_, rfl, c, _, rfl, h, _, _, rfl, rfl, rfl⟩
  | false => exact h

theorem keyEq_ne {kt : TypeId} {k a y : V} (h : keyEq E kt k a = some true) (hn : flatNe a y) : keyEq E kt k y = some false := by
  unfold keyEq at h ⊢
  cases hd : E.desc kt with
  | none => simp [hd] at h
  | some d =>
    rw [hd] at h
    cases d <;> simp only at h ⊢ <;> try (cases h; done)
    · cases k <;> try (cases h; done)
      cases a <;> try (cases h; done)
      rename_i b1 b2
      simp only [eqBool, Option.some.injEq] at h
      have : b1 = b2 := by simpa using h
      subst this
      rcases hn with hn | hn | hn
      · simp [eqInt] at hn
      · exact hn
      · simp [eqStr] at hn
    · cases k <;> try (cases h; done)
      cases a <;> try (cases h; done)
      rename_i k1 n1 k2 n2
      simp only [eqInt] at h
      cases hkk : kindEq k1 k2 with
      | false => simp [hkk] at h
      | true =>
        rw [hkk, cond_true, eqI_eq] at h
        rw [kindEq_eq] at hkk
        have h1 : k1 = k2 := by simpa using hkk
        have h2 : n1 = n2 := by simpa using h
        subst h1; subst h2
        rcases hn with hn | hn | hn
        · exact hn
        · simp [eqBool] at hn
        · simp [eqStr] at hn
    · cases k <;> try (cases h; done)
      cases a <;> try (cases h; done)
      rename_i l1 l2
      simp only [eqStr, Option.some.injEq, eqB_eq] at h
      have : l1 = l2 := by simpa using h
      subst this
      rcases hn with hn | hn | hn
      · simp [eqInt] at hn
      · simp [eqBool] at hn
      · exact hn

theorem EntsR.mem : ∀ {es : List (V × V × Nat)} {ds : List MapEntry} {e : MapEntry}, EntsR φ es ds → e ∈ ds → ∃ x ∈ es, EntR φ x e
  | [], _, _, h, he => by simp only [EntsR] at h; subst h; simp at he
  | x :: es, _, e, ⟨c, cs, rfl, h1, h2⟩, he => by
    rcases List.mem_cons.1 he with rfl | he
    · exact ⟨x, by simp, h1⟩
    · obtain ⟨y, hy, hr⟩ := EntsR.mem h2 he
      exact ⟨y, by simp [hy], hr⟩

theorem EntsR.mem' : ∀ {es : List (V × V × Nat)} {ds : List MapEntry} {x : V × V × Nat}, EntsR φ es ds → x ∈ es → ∃ e ∈ ds, EntR φ x e
  | [], _, _, _, hx => by simp at hx
  | y :: es, _, x, ⟨c, cs, rfl, h1, h2⟩, hx => by
    rcases List.mem_cons.1 hx with rfl | hx
    · exact ⟨c, by simp, h1⟩
    · obtain ⟨e, he, hr⟩ := EntsR.mem' h2 hx
      exact ⟨e, by simp [he], hr⟩

theorem findV_all {kt : TypeId} {k : V} : ∀ {es : List (V × V × Nat)} {r : Option (V × Nat)}, es.Pairwise (fun a b => flatNe a.1 b.1) → findV (keyEq E kt k) es = some r →
    (∀ x ∈ es, (keyEq E kt k x.1 = some true ∧ r = some x.2) ∨ keyEq E kt k x.1 = some false) ∧ (∀ p, r = some p → ∃ x ∈ es, keyEq E kt k x.1 = some true)
  | [], r, _, h => by
    simp only [findV, Option.some.injEq] at h
    subst h
    exact ⟨by simp, by simp⟩
  | (k', v, b) :: es, r, hp, h => by
    simp only [findV] at h
    obtain ⟨hp1, hp2⟩ := List.pairwise_cons.1 hp
    split at h
    · rename_i hkk
      cases h
      refine ⟨fun x hx => ?_, fun p _ => ⟨(k', v, b), by simp, hkk⟩⟩
      rcases List.mem_cons.1 hx with rfl | hx
      · exact .inl ⟨hkk, rfl⟩
      · exact .inr (keyEq_ne hkk (hp1 x hx))
    · rename_i hkk
      obtain ⟨h1, h2⟩ := findV_all hp2 h
      refine ⟨fun x hx => ?_, fun p hpp => ?_⟩
      · rcases List.mem_cons.1 hx with rfl | hx
        · exact .inr hkk
        · exact h1 x hx
      · obtain ⟨x, hx, hxk⟩ := h2 p hpp
        exact ⟨x, by simp [hx], hxk⟩
    · cases h

theorem findNow_all {d : TypeDesc} {c : Value} : ∀ (cs : List MapEntry) (n : Nat), (∀ e ∈ cs, ∃ b, Instr.sameNow d c e.key = some b) →
    ((∀ e ∈ cs, Instr.sameNow d c e.key = some false) ∧ Instr.findNow d c cs n = some none) ∨ (∃ i, ∃ e ∈ cs, Instr.sameNow d c e.key = some true ∧ Instr.findNow d c cs n = some (some (i, e.val)))
  | [], n, _ => .inl ⟨by simp, rfl⟩
  | e :: cs, n, h => by
    obtain ⟨b, hb⟩ := h e (by simp)
    cases b with
    | true => exact .inr ⟨n, e, by simp, hb, by simp [Instr.findNow, hb]⟩
    | false =>
      rcases findNow_all cs (n + 1) (fun x hx => h x (by simp [hx])) with ⟨h1, h2⟩ | ⟨i, e', he', h1, h2⟩
      · refine .inl ⟨fun x hx => ?_, by simp [Instr.findNow, hb, h2]⟩
        rcases List.mem_cons.1 hx with rfl | hx
        · exact hb
        · exact h1 x hx
      · exact .inr ⟨i, e', by simp [he'], h1, by simp [Instr.findNow, hb, h2]⟩

/-- a look-up in entries in whatever order -/
theorem find_any {kt : TypeId} {d : TypeDesc} {k : V} {c : Value} (hd : E.desc kt = some d) (hk : VR φ k c) {es : List (V × V × Nat)} {ds cs : List MapEntry} {r : Option (V × Nat)} (hp : ds.Perm cs) (he : EntsR φ es ds)
    (hn : es.Pairwise (fun a b => flatNe a.1 b.1)) (hf : findV (keyEq E kt k) es = some r) :
    (r = none ∧ Instr.findNow d c cs 0 = some none) ∨ (∃ (v : V) (b i : Nat) (e : MapEntry), r = some (v, b) ∧ VR φ v e.val ∧ Instr.findNow d c cs 0 = some (some (i, e.val))) := by
  obtain ⟨h1, h2⟩ := findV_all hn hf
  have hall : ∀ e ∈ cs, ∃ b, Instr.sameNow d c e.key = some b := fun e hec => by
    obtain ⟨x, hx, hx1, _⟩ := he.mem (hp.mem_iff.2 hec)
    rcases h1 x hx with ⟨g, _⟩ | g
    · exact ⟨true, keyEq_same hd g hk hx1⟩
    · exact ⟨false, keyEq_same hd g hk hx1⟩
  rcases findNow_all cs 0 hall with ⟨g1, g2⟩ | ⟨i, e, hec, g1, g2⟩
  · cases r with
    | none => exact .inl ⟨rfl, g2⟩
    | some p =>
      obtain ⟨x, hx, hxk⟩ := h2 p rfl
      obtain ⟨e, hed, hx1, _⟩ := he.mem' hx
      have := g1 e (hp.mem_iff.1 hed)
      rw [keyEq_same hd hxk hk hx1] at this
      cases this
  · obtain ⟨x, hx, hx1, hx2⟩ := he.mem (hp.mem_iff.2 hec)
    rcases h1 x hx with ⟨_, g⟩ | g
    · exact .inr ⟨x.2.1, x.2.2, i, e, g, hx2, g2⟩
    · rw [keyEq_same hd g hk hx1] at g1; cases g1

theorem good_lookup (hE : EnvOk E P) (h : Rel φ s w) {t : TypeId} {x k : V} {ok : Bool} {c d : Value} (hx : VR φ x c) (hk : VR φ k d) :
    Good P φ s w (lookupAt E t x k ok) ((do pure (.value (← Instr.lookup t c d ok)) : Sem Next).run P w) := by
  unfold lookupAt
  split
  · rename_i kt et hd
    have hu := und_of hE hd
    split
    · exact good_fail
    · rename_i te hte
      have hok := hE.ty _ _ hte
      cases hko : keyOk E kt k with
      | false => exact good_fail
      | true =>
        simp only [cond_true]
        obtain ⟨dk, hdk, hpl⟩ := keyOk_plain hko
        obtain ⟨z, hz, hzv⟩ := good_zero (φ := φ) hok
        split
        · cases hx
          refine good_retV h (run_v ?_) (VR_okV hzv)
          have := run_findKey_of hE (c := d) (cs := []) (r := none) hdk rfl w
          simp [Instr.lookup, run_underlying hu, run_checkKey_plain hE hdk hpl, this, hz]
        · rename_i r
          obtain ⟨l, hl, rfl⟩ := hx
          refine good_rd fun o ho => ?_
          obtain ⟨l', hl', hob⟩ := h.obj _ _ ho
          rw [hl] at hl'; cases hl'
          unfold lookupIn
          split
          · rename_i es clock ord
            have key : ∃ cs : Array MapEntry, ∃ ck, w.heap[l.blk]? = some (.map cs ck) ∧ ∀ r, findV (keyEq E kt k) es = some r →
                (r = none ∧ Instr.findNow dk d cs.toList 0 = some none) ∨ (∃ (v : V) (b i : Nat) (e : MapEntry), r = some (v, b) ∧ VR φ v e.val ∧ Instr.findNow dk d cs.toList 0 = some (some (i, e.val))) := by
              cases ord with
              | true =>
                obtain ⟨_, cs, e1, e2, _⟩ := hob
                refine ⟨cs, clock, e1, fun r hr => ?_⟩
                rcases findNow_spec hdk hk es cs.toList 0 r e2 hr with ⟨g1, g2, _⟩ | ⟨i, v1, b1, e1, k1, g1, _, _, g4, _, _, g7, _⟩
                · exact .inl ⟨g1, g2⟩
                · exact .inr ⟨v1, b1, 0 + i, e1, g1, g4, g7⟩
              | false =>
                obtain ⟨_, cs, ds, ck, e1, e2, e3, e4⟩ := hob
                refine ⟨cs, ck, e1, fun r hr => ?_⟩
                exact find_any hdk hk e3 e2 e4 hr
            obtain ⟨cs, ck, e1, hall⟩ := key
            have hg : (getObj l.blk).run P w = .ok (.map cs ck) w := by simp [getObj, Sem.run, e1]
            split
            · rename_i v b hf
              rcases hall _ hf with ⟨g1, _⟩ | ⟨v', b', i, e, g1, g2, g3⟩
              · cases g1
              · cases g1
                refine good_retV (h.rd _) (run_v ?_) (VR_okV g2)
                simp [Instr.lookup, run_underlying hu, hg, run_checkKey_plain hE hdk hpl, run_findKey_of hE hdk g3]
            · rename_i hf
              rcases hall _ hf with ⟨_, g2⟩ | ⟨v', b', i, e, g1, _⟩
              · refine good_retV (h.rd _) (run_v ?_) (VR_okV hzv)
                simp [Instr.lookup, run_underlying hu, hg, run_checkKey_plain hE hdk hpl, run_findKey_of hE hdk g2, hz]
              · cases g1
            · exact good_fail
          · exact good_fail
        · exact good_fail
  · exact good_fail

end
end Go.AM

namespace Go.AM
open Go

section
variable {P : Program} {φ : Map} {s : S} {w : World} {E : Env}

/-- a map's block is written -/
theorem good_wrMap (h : Rel φ s w) {r : Nat} {l : Loc} {es : List (V × V × Nat)} {clock : Nat} {ord : Bool} {cs : Array MapEntry} {ck : Nat} {ob : Obj} {o' : Ob} {v : V} {rr : Result Next}
    (hl : φ r = some l) (hro : l.ro = false) (hs : s.h.get r ≠ none) (hh : w.heap[l.blk]? = some (.map cs ck)) (ho' : ObB φ l o' (some ob))
    (hr : ORok P φ { w with heap := w.heap.setIfInBounds l.blk ob } rr (.val v)) : Good P φ s w (.wr r o' (retV v)) rr := by
  intro o s' e
  simp only [Q.eval, retV, Option.some.injEq, Prod.mk.injEq] at e
  obtain ⟨rfl, rfl⟩ := e
  have hlt : l.blk < w.heap.size := (Array.getElem?_eq_some_iff.1 hh).1
  have hb : ∀ b, b ≠ l.blk → ({ w with heap := w.heap.setIfInBounds l.blk ob } : World).heap[b]? = w.heap[b]? := fun b hb => Array.getElem?_setIfInBounds_ne (Ne.symm hb)
  have hs' : ({ w with heap := w.heap.setIfInBounds l.blk ob } : World).heap.size = w.heap.size := Array.size_setIfInBounds
  exact ⟨φ, _, h.wr hl hro hs hs' hb (by simpa [hlt] using ho'), Keep.wr hl hro hs' hb rfl rfl rfl, hr⟩

theorem run_setObj {w : World} {b : Nat} {cs : Array MapEntry} {ck : Nat} {o : Obj} (h : w.heap[b]? = some (.map cs ck)) : (setObj b o).run P w = .ok () { w with heap := w.heap.setIfInBounds b o } := by
  simp [setObj, Sem.run, h]

theorem EntsR.append : ∀ {es fs : List (V × V × Nat)} {cs ds : List MapEntry}, EntsR φ es cs → EntsR φ fs ds → EntsR φ (es ++ fs) (cs ++ ds)
  | [], _, _, _, h, h' => by simp only [EntsR] at h; subst h; exact h'
  | _ :: _, _, _, _, ⟨c, cs, e, r, rs⟩, h' => by subst e; exact ⟨c, _, rfl, r, EntsR.append rs h'⟩

theorem EntsR.set : ∀ {es : List (V × V × Nat)} {cs : List MapEntry} {i : Nat} {x : V × V × Nat} {e : MapEntry}, EntsR φ es cs → EntR φ x e → EntsR φ (es.set i x) (cs.set i e)
  | [], _, _, _, _, h, _ => by simp only [EntsR] at h; subst h; simp [EntsR]
  | _ :: _, _, 0, x, e, ⟨c, cs, e', r, rs⟩, h => by subst e'; exact ⟨e, cs, rfl, h, rs⟩
  | _ :: _, _, i + 1, x, e, ⟨c, cs, e', r, rs⟩, h => by subst e'; exact ⟨c, _, rfl, r, EntsR.set rs h⟩

theorem bornsOf_append : ∀ (es fs : List (V × V × Nat)), bornsOf (es ++ fs) = bornsOf es ++ bornsOf fs
  | [], _ => rfl
  | _ :: es, fs => by simp [bornsOf, bornsOf_append es fs]

theorem bornsOf_eq : ∀ es : List (V × V × Nat), bornsOf es = es.map (·.2.2)
  | [] => rfl
  | _ :: es => by simp [bornsOf, bornsOf_eq es]

theorem modify_toList (cs : Array MapEntry) (i : Nat) (f : MapEntry → MapEntry) (e : MapEntry) (h : cs[i]? = some e) : (cs.modify i f).toList = cs.toList.set i (f e) := by
  apply List.ext_getElem?
  intro j
  rw [Array.getElem?_toList, Array.getElem?_modify]
  by_cases hij : i = j
  · subst hij
    rw [if_pos rfl, h]
    have : i < cs.size := (Array.getElem?_eq_some_iff.1 h).1
    simp [this]
  · rw [if_neg hij, List.getElem?_set_ne hij, Array.getElem?_toList]

/-- the same key, written again: it is the one that was there -/
theorem run_keyStays {kt : TypeId} {d : TypeDesc} {k k' : V} {c c' : Value} (hd : E.desc kt = some d) (h : keyEq E kt k k' = some true) (hk : VR φ k c) (hk' : VR φ k' c') (w : World) : (Instr.keyThatStays c' c).run P w = .ok c w := by
  have : Instr.sameBits 10000 c' c = true := by
    unfold keyEq at h
    rw [hd] at h
    cases d <;> simp only at h <;> try (cases h; done)
    · cases k <;> try (cases h; done)
      cases k' <;> try (cases h; done)
      simp only [eqBool, Option.some.injEq] at h
      cases hk; cases hk'
      simp only [beq_iff_eq] at h
      subst h
      simp [Instr.sameBits]
    · cases k <;> try (cases h; done)
      cases k' <;> try (cases h; done)
      rename_i k1 n1 k2 n2
      simp only [eqInt] at h
      cases hkk : kindEq k1 k2 with
      | false => simp [hkk] at h
      | true =>
        rw [hkk, cond_true, eqI_eq] at h
        rw [kindEq_eq] at hkk
        have h1 : k1 = k2 := by simpa using hkk
        have h2 : n1 = n2 := by simpa using h
        subst h1; subst h2
        cases hk; cases hk'
        simp [Instr.sameBits]
    · cases k <;> try (cases h; done)
      cases k' <;> try (cases h; done)
      simp only [eqStr, Option.some.injEq, eqB_eq, beq_iff_eq] at h
      subst h
      cases hk; cases hk'
      simp only [Instr.sameBits]
      rw [beq_toListBytes]
      simp
  simp [Instr.keyThatStays, this]

theorem good_mapSet (hE : EnvOk E P) (h : Rel φ s w) {t : TypeId} {x k v : V} {c d f : Value} (hx : VR φ x c) (hk : VR φ k d) (hv : VR φ v f) :
    Good P φ s w (mapSetAt E t x k v) ((do Instr.mapUpdate t c d f; pure .skip : Sem Next).run P w) := by
  unfold mapSetAt
  split
  · rename_i r
    split
    · rename_i kt et hd
      have hu := und_of hE hd
      cases hko : keyOk E kt k with
      | false => exact good_fail
      | true =>
        simp only [cond_true]
        obtain ⟨dk, hdk, hpl⟩ := keyOk_plain hko
        obtain ⟨l, hl, rfl⟩ := hx
        refine good_rd fun o ho => ?_
        obtain ⟨l', hl', hob⟩ := h.obj _ _ ho
        rw [hl] at hl'; cases hl'
        unfold mapSetIn
        split
        · rename_i es clock
          obtain ⟨cs, hro, e1, e2, e3, e4⟩ := run_getMap (P := P) rfl hob
          split
          · rename_i es' clock' hset
            have hfind : ∃ r, findV (keyEq E kt k) es = some r := by
              have : ∀ (es : List (V × V × Nat)) p, setV (keyEq E kt k) k v clock es = some p → ∃ r, findV (keyEq E kt k) es = some r := by
                intro es
                induction es with
                | nil => intro p _; exact ⟨none, rfl⟩
                | cons x es ih =>
                  intro p hp
                  obtain ⟨k', v', b⟩ := x
                  simp only [setV] at hp
                  simp only [findV]
                  split at hp
                  · exact ⟨_, rfl⟩
                  · split at hp
                    · rename_i l c hlc; exact ih _ hlc
                    · cases hp
                  · cases hp
              exact this es _ hset
            obtain ⟨rr, hrr⟩ := hfind
            rcases findNow_spec hdk hk es cs.toList 0 rr e3 hrr with ⟨g1, g2, g3⟩ | ⟨i, v1, b1, e', k1, g1, g2, g3, g4, g5, g6, g7, g8⟩
            · have := hset.symm.trans (g3 v clock)
              simp only [Option.some.injEq, Prod.mk.injEq] at this
              obtain ⟨rfl, rfl⟩ := this
              refine good_wrMap (h.rd _) (es := es) (clock := clock) (ord := true) hl hro (show s.h.get r ≠ none by simp [ho]) e1 (ob := .map (cs.push { key := d, val := f, born := clock }) (clock + 1)) ⟨hro, _, rfl, ?_, ?_⟩ (.inr ⟨run_u ?_, #[], rfl, rfl⟩)
              · rw [Array.toList_push]
                exact e3.append ⟨_, [], rfl, ⟨hk, hv⟩, rfl⟩
              · rw [Array.toList_push, List.map_append, e4, bornsOf_append]; rfl
              · simp [Instr.mapUpdate, run_underlying hu, e2, run_checkKey_plain hE hdk hpl, run_findKey_of hE hdk g2, run_setObj e1]
            · have := hset.symm.trans (g8 v clock)
              simp only [Option.some.injEq, Prod.mk.injEq] at this
              obtain ⟨rfl, rfl⟩ := this
              have hi : cs[i]? = some e' := by simpa using g3
              have hb : e'.born = b1 := by
                have h1 : (cs.toList.map (·.born))[i]? = some e'.born := by simp [hi]
                rw [e4, bornsOf_eq] at h1
                simp [g2] at h1
                exact h1.symm
              refine good_wrMap (h.rd _) (es := es) (clock := clock') (ord := true) hl hro (show s.h.get r ≠ none by simp [ho]) e1 (ob := .map (cs.modify i fun e => { e with key := d, val := f }) clock') ⟨hro, _, rfl, ?_, ?_⟩ (.inr ⟨run_u ?_, #[], rfl, rfl⟩)
              · rw [modify_toList cs i _ e' hi]
                exact e3.set ⟨hk, hv⟩
              · rw [modify_toList cs i _ e' hi, List.map_set, e4, bornsOf_eq, bornsOf_eq, List.map_set]
                dsimp only
                rw [hb]
              · rw [Nat.zero_add] at g7
                simp [Instr.mapUpdate, run_underlying hu, e2, run_checkKey_plain hE hdk hpl, run_findKey_of hE hdk g7, hi, run_keyStays (P := P) hdk g5 hk g6, run_setObj e1]
          · exact good_fail
        · exact good_fail
    · exact good_fail
  · exact good_fail

end
end Go.AM

namespace Go.AM
open Go

section
variable {P : Program} {φ : Map} {s : S} {w : World} {E : Env}

theorem noEntry_spec {es : List (V × V × Nat)} (h : noEntry es = true) : es = [] := by
  cases es with
  | nil => rfl
  | cons _ _ => simp [noEntry] at h

/-- a key that is not there is not the same as any -/
theorem findV_none {kt : TypeId} {k : V} : ∀ {es : List (V × V × Nat)}, findV (keyEq E kt k) es = some none → ∀ x ∈ es, keyEq E kt k x.1 = some false
  | [], _ => by simp
  | (k', v, b) :: es, h => by
    simp only [findV] at h
    split at h
    · cases h
    · rename_i hkk
      intro x hx
      rcases List.mem_cons.1 hx with rfl | hx
      · exact hkk
      · exact findV_none h x hx
    · cases h

theorem flatNe_of {kt : TypeId} {k y : V} (h : keyEq E kt k y = some false) : flatNe y k := by
  unfold keyEq at h
  cases hd : E.desc kt with
  | none => simp [hd] at h
  | some d =>
    rw [hd] at h
    cases d <;> simp only at h <;> try (cases h; done)
    · cases k <;> try (cases h; done)
      cases y <;> try (cases h; done)
      simp only [eqBool, Option.some.injEq] at h
      refine .inr (.inl ?_)
      simp only [eqBool, Option.some.injEq]
      rw [← h]
      exact Bool.beq_comm
    · cases k <;> try (cases h; done)
      cases y <;> try (cases h; done)
      rename_i k1 n1 k2 n2
      simp only [eqInt] at h
      cases hkk : kindEq k1 k2 with
      | false => simp [hkk] at h
      | true =>
        rw [hkk, cond_true, eqI_eq] at h
        rw [kindEq_eq] at hkk
        have h1 : k1 = k2 := by simpa using hkk
        subst h1
        refine .inl ?_
        simp only [eqInt, kindEq_eq, decide_true, cond_true, eqI_eq, Option.some.injEq]
        have : ¬ n1 = n2 := by simpa using h
        simp [Ne.symm this]
    · cases k <;> try (cases h; done)
      cases y <;> try (cases h; done)
      simp only [eqStr, Option.some.injEq, eqB_eq] at h
      refine .inr (.inr ?_)
      simp only [eqStr, Option.some.injEq, eqB_eq]
      rename_i l1 l2
      have : ¬ l1 = l2 := by simpa using h
      simp [Ne.symm this]

theorem good_insert (hE : EnvOk E P) (h : Rel φ s w) {t : TypeId} {x k v : V} {c d f : Value} (hx : VR φ x c) (hk : VR φ k d) (hv : VR φ v f) :
    Good P φ s w (insertAt E t x k v) ((do Instr.mapUpdate t c d f; pure .skip : Sem Next).run P w) := by
  unfold insertAt
  split
  · rename_i r
    split
    · rename_i kt et hd
      have hu := und_of hE hd
      cases hko : and (plainKey (E.desc kt)) (keyOk E kt k) with
      | false => exact good_fail
      | true =>
        simp only [cond_true]
        obtain ⟨dk, hdk, hpl⟩ := keyOk_plain (by simp only [Bool.and_eq_true] at hko; exact hko.2)
        obtain ⟨l, hl, rfl⟩ := hx
        refine good_rd fun o ho => ?_
        obtain ⟨l', hl', hob⟩ := h.obj _ _ ho
        rw [hl] at hl'; cases hl'
        unfold insertIn
        split
        · rename_i es clock ord
          cases hone : and ord (not (atMost1 es)) with
          | true => exact good_fail
          | false =>
          simp only [cond_false]
          split
          · rename_i hf
            have hnew := findV_none hf
            -- the entries as they lie
            have key : ∃ cs : Array MapEntry, ∃ ck, l.ro = false ∧ w.heap[l.blk]? = some (.map cs ck) ∧ Instr.findNow dk d cs.toList 0 = some none ∧
                ObB φ l (.map (es ++ [(k, v, clock)]) (Nat.succ clock) (and ord (noEntry es))) (some (.map (cs.push { key := d, val := f, born := ck }) (ck + 1))) := by
              cases ord with
              | true =>
                obtain ⟨hro, cs, e1, e2, e3⟩ := hob
                have hfn : Instr.findNow dk d cs.toList 0 = some none := by
                  rcases findNow_spec hdk hk es cs.toList 0 none e2 hf with ⟨_, g2, _⟩ | ⟨_, _, _, _, _, g1, _⟩
                  · exact g2
                  · cases g1
                refine ⟨cs, clock, hro, e1, hfn, ?_⟩
                cases hne : noEntry es with
                | true =>
                  refine ⟨hro, _, rfl, ?_, ?_⟩
                  · rw [Array.toList_push]; exact e2.append ⟨_, [], rfl, ⟨hk, hv⟩, rfl⟩
                  · rw [Array.toList_push, List.map_append, e3, bornsOf_append]; rfl
                | false =>
                  simp only [Bool.true_and, Bool.not_eq_false'] at hone
                  refine ⟨hro, _, cs.toList ++ [{ key := d, val := f, born := clock }], clock + 1, rfl, e2.append ⟨_, [], rfl, ⟨hk, hv⟩, rfl⟩, by rw [Array.toList_push], ?_⟩
                  rw [List.pairwise_append]
                  refine ⟨?_, by simp, fun a ha b hb => ?_⟩
                  · cases es with
                    | nil => simp
                    | cons x es => rw [noEntry_spec hone]; simp
                  · simp only [List.mem_singleton] at hb
                    subst hb
                    exact flatNe_of (hnew a ha)
              | false =>
                obtain ⟨hro, cs, ds, ck, e1, e2, e3, e4⟩ := hob
                have hfn : Instr.findNow dk d cs.toList 0 = some none := by
                  rcases find_any hdk hk e3 e2 e4 hf with ⟨_, g⟩ | ⟨_, _, _, _, g, _⟩
                  · exact g
                  · cases g
                refine ⟨cs, ck, hro, e1, hfn, hro, _, ds ++ [{ key := d, val := f, born := ck }], ck + 1, rfl, e2.append ⟨_, [], rfl, ⟨hk, hv⟩, rfl⟩, ?_, ?_⟩
                · rw [Array.toList_push]; exact e3.append_right _
                · rw [List.pairwise_append]
                  refine ⟨e4, by simp, fun a ha b hb => ?_⟩
                  simp only [List.mem_singleton] at hb
                  subst hb
                  exact flatNe_of (hnew a ha)
            obtain ⟨cs, ck, hro, e1, hfn, hob'⟩ := key
            have hg : (getObj l.blk).run P w = .ok (.map cs ck) w := by simp [getObj, Sem.run, e1]
            refine good_wrMap (h.rd _) (es := es) (clock := clock) (ord := ord) hl hro (show s.h.get r ≠ none by simp [ho]) e1 hob' (.inr ⟨run_u ?_, #[], rfl, rfl⟩)
            simp [Instr.mapUpdate, run_underlying hu, hg, run_checkKey_plain hE hdk hpl, run_findKey_of hE hdk hfn, run_setObj e1]
          · exact good_fail
        · exact good_fail
    · exact good_fail
  · exact good_fail

theorem good_mapEntry (hE : EnvOk E P) (h : Rel φ s w) {t : TypeId} {x k : V} {c d : Value} (hx : VR φ x c) (hk : VR φ k d) :
    Good P φ s w (mapEntryAt E t x k) ((do pure (.value (← Instr.mapEntry t c d)) : Sem Next).run P w) := by
  unfold mapEntryAt
  split
  · rename_i r
    split
    · rename_i kt et hd
      have hu := und_of hE hd
      split
      · rename_i te hte
        have hok := hE.ty _ _ hte
        cases hko : keyOk E kt k with
        | false => exact good_fail
        | true =>
          simp only [cond_true]
          obtain ⟨dk, hdk, hpl⟩ := keyOk_plain hko
          obtain ⟨l, hl, rfl⟩ := hx
          obtain ⟨z, hz, hzv⟩ := good_zero (φ := φ) hok
          refine good_rd fun o ho => ?_
          obtain ⟨l', hl', hob⟩ := h.obj _ _ ho
          rw [hl] at hl'; cases hl'
          unfold mapEntryIn
          split
          · rename_i es clock
            obtain ⟨cs, hro, e1, e2, e3, e4⟩ := run_getMap (P := P) rfl hob
            split
            · rename_i v b hf
              rcases findNow_spec hdk hk es cs.toList 0 _ e3 hf with ⟨g1, _⟩ | ⟨i, v1, b1, e', k1, g1, g2, g3, g4, g5, g6, g7, g8⟩
              · cases g1
              · cases g1
                rw [g8 v clock]
                dsimp only
                have hi : cs[i]? = some e' := by simpa using g3
                have hb : e'.born = b := by
                  have h1 : (cs.toList.map (·.born))[i]? = some e'.born := by simp [hi]
                  rw [e4, bornsOf_eq] at h1
                  simp [g2] at h1
                  exact h1.symm
                refine good_wrMap (h.rd _) (es := es) (clock := clock) (ord := true) hl hro (show s.h.get r ≠ none by simp [ho]) e1 (ob := .map (cs.modify i fun e => { e with key := d }) clock) ⟨hro, _, rfl, ?_, ?_⟩
                  (.inl ⟨.tuple #[e'.val, .int .i64 b], run_v ?_, _, rfl, _, _, rfl, g4, _, _, rfl, rfl, rfl⟩)
                · rw [modify_toList cs i _ e' hi]
                  exact e3.set ⟨hk, g4⟩
                · rw [modify_toList cs i _ e' hi, List.map_set, e4, bornsOf_eq, bornsOf_eq, List.map_set]
                  dsimp only
                  rw [hb]
                · rw [Nat.zero_add] at g7
                  simp [Instr.mapEntry, run_underlying hu, e2, run_checkKey_plain hE hdk hpl, run_findKey_of hE hdk g7, hi, run_keyStays (P := P) hdk g5 hk g6, run_setObj e1, goInt, hb]
            · rename_i hf
              rcases findNow_spec hdk hk es cs.toList 0 _ e3 hf with ⟨_, g2, _⟩ | ⟨i, v1, b1, e', k1, g1, _⟩
              · refine good_wrMap (h.rd _) (es := es) (clock := clock) (ord := true) hl hro (show s.h.get r ≠ none by simp [ho]) e1 (ob := .map (cs.push { key := d, val := z, born := clock }) (clock + 1)) ⟨hro, _, rfl, ?_, ?_⟩
                  (.inl ⟨.tuple #[z, .int .i64 clock], run_v ?_, _, rfl, _, _, rfl, hzv, _, _, rfl, rfl, rfl⟩)
                · rw [Array.toList_push]
                  exact e3.append ⟨_, [], rfl, ⟨hk, hzv⟩, rfl⟩
                · rw [Array.toList_push, List.map_append, e4, bornsOf_append]; rfl
                · simp [Instr.mapEntry, run_underlying hu, e2, run_checkKey_plain hE hdk hpl, run_findKey_of hE hdk g2, run_setObj e1, hz, goInt]
              · cases g1
            · exact good_fail
          · exact good_fail
      · exact good_fail
    · exact good_fail
  · exact good_fail

theorem bornSet_spec {b : Nat} {v : V} {f : Value} (hv : VR φ v f) : ∀ {es es' : List (V × V × Nat)} {cs : List MapEntry}, EntsR φ es cs → cs.map (·.born) = bornsOf es → bornSet b v es = some es' →
    ∃ i e, cs[i]? = some e ∧ cs.findIdx? (fun e => (e.born : Int) == (b : Int)) = some i ∧ EntsR φ es' (cs.set i { e with val := f }) ∧ bornsOf es' = bornsOf es
  | [], _, _, _, _, h => by simp [bornSet] at h
  | (k, x, c) :: es, es', _, ⟨e, cs, rfl, ⟨h1, h2⟩, hr⟩, hb, h => by
    simp only [bornSet] at h
    simp only [List.map_cons, bornsOf, List.cons.injEq] at hb
    cases hc : Nat.beq c b with
    | true =>
      rw [hc, cond_true] at h
      cases h
      have := Nat.eq_of_beq_eq_true hc
      subst this
      refine ⟨0, e, rfl, by simp [List.findIdx?_cons, hb.1], ⟨_, cs, rfl, ⟨h1, hv⟩, hr⟩, rfl⟩
    | false =>
      rw [hc, cond_false] at h
      split at h
      · rename_i l hl
        cases h
        obtain ⟨i, e', g1, g2, g3, g4⟩ := bornSet_spec hv hr hb.2 hl
        have hne : ¬ c = b := fun e => by rw [e] at hc; simp at hc
        refine ⟨i + 1, e', by simpa using g1, ?_, ⟨e, _, rfl, ⟨h1, h2⟩, g3⟩, by simp [bornsOf, g4]⟩
        have : ((e.born : Int) == (b : Int)) = false := by
          rw [hb.1]
          simp only [beq_eq_false_iff_ne, ne_eq]
          exact fun h => hne (Int.ofNat.inj h)
        simp only [List.findIdx?_cons, this, g2]
        rfl
      · cases h

theorem good_entryStore (h : Rel φ s w) {t : TypeId} {x st v : V} {c d f : Value} (hx : VR φ x c) (hst : VR φ st d) (hv : VR φ v f) :
    Good P φ s w (entryStoreAt x st v) ((do Instr.entryStore t c d f; pure .skip : Sem Next).run P w) := by
  unfold entryStoreAt
  split
  · rename_i r
    split
    · rename_i k b
      cases hst
      obtain ⟨l, hl, rfl⟩ := hx
      refine good_rd fun o ho => ?_
      obtain ⟨l', hl', hob⟩ := h.obj _ _ ho
      rw [hl] at hl'; cases hl'
      unfold entryStoreIn
      split
      · rename_i es clock
        obtain ⟨cs, hro, e1, e2, e3, e4⟩ := run_getMap (P := P) rfl hob
        split
        · rename_i es' hes
          obtain ⟨i, e, g1, g2, g3, g4⟩ := bornSet_spec hv e3 e4 hes
          have hi : cs[i]? = some e := by simpa using g1
          have hfi : cs.findIdx? (fun e => (e.born : Int) == (b : Int)) = some i := by
            rw [← Array.toArray_toList (xs := cs), List.findIdx?_toArray]; exact g2
          refine good_wrMap (h.rd _) (es := es) (clock := clock) (ord := true) hl hro (show s.h.get r ≠ none by simp [ho]) e1 (ob := .map (cs.modify i fun e => { e with val := f }) clock) ⟨hro, _, rfl, ?_, ?_⟩ (.inr ⟨run_u ?_, #[], rfl, rfl⟩)
          · rw [modify_toList cs i _ e hi]; exact g3
          · rw [modify_toList cs i _ e hi, List.map_set, e4, g4, bornsOf_eq]
            dsimp only
            have : (es.map (·.2.2))[i]? = some e.born := by rw [← bornsOf_eq, ← e4]; simp [hi]
            apply List.ext_getElem?
            intro j
            by_cases hij : i = j
            · subst hij
              rw [List.getElem?_set_self (List.getElem?_eq_some_iff.1 this).1, this]
            · rw [List.getElem?_set_ne hij]
          · simp only [Instr.entryStore, Sem.run_bind, e2, Result.andThen_ok, asInt, asIntOf, Sem.run_pure, Int.ofNat_eq_natCast, hfi, run_setObj e1]
        · exact good_fail
      · exact good_fail
    · exact good_fail
  · exact good_fail

end
end Go.AM

namespace Go.AM
open Go

section
variable {P : Program} {φ : Map} {s : S} {w : World} {E : Env}

theorem good_range (hE : EnvOk E P) (h : Rel φ s w) {t : TypeId} {x : V} {c : Value} (hx : VR φ x c) : Good P φ s w (rangeAt E t x) ((do pure (.value (← Instr.range t c)) : Sem Next).run P w) := by
  unfold rangeAt
  split
  · rename_i kt et hd
    have hu := und_of hE hd
    split
    · cases hx
      refine good_new (ob := .mapIter none 0 #[] 0) (l := ⟨w.heap.size, 0, 0, 0, false⟩) h rfl ⟨rfl, rfl, none, rfl, rfl⟩ fun hr => ?_
      exact good_retV (c := .pointer (some ⟨w.heap.size, 0, none⟩)) hr (run_v (by simp [Instr.range, run_underlying hu, newObj, Sem.run])) ⟨_, Map.upd_self, rfl⟩
    · rename_i m
      obtain ⟨l, hl, rfl⟩ := hx
      refine good_rd fun o ho => ?_
      obtain ⟨l', hl', hob⟩ := h.obj _ _ ho
      rw [hl] at hl'; cases hl'
      split
      · rename_i es clock
        obtain ⟨cs, hro, e1, e2, e3, e4⟩ := run_getMap (P := P) rfl hob
        refine good_new (ob := .mapIter (some l.blk) clock #[] clock) (l := ⟨w.heap.size, 0, 0, 0, false⟩) (h.rd _) rfl ⟨rfl, rfl, some l.blk, rfl, l, Map.upd_ext h.fresh _ _ hl, rfl⟩ fun hr => ?_
        exact good_retV (c := .pointer (some ⟨w.heap.size, 0, none⟩)) hr (run_v (by simp [Instr.range, run_underlying hu, e2, newObj, Sem.run])) ⟨_, Map.upd_self, rfl⟩
      · exact good_fail
    · exact good_fail
  · exact good_fail

theorem VR_over : VR φ overV (.tuple #[.bool false]) := ⟨_, rfl, _, _, rfl, rfl, rfl⟩

theorem good_next (h : Rel φ s w) {it : V} {str : Bool} {ty : TypeId} {c : Value} (hx : VR φ it c) : Good P φ s w (nextAt it str) ((do pure (.value (← Instr.next c str ty)) : Sem Next).run P w) := by
  unfold nextAt
  split
  · rename_i r
    cases str with
    | true => exact good_fail
    | false =>
      simp only [cond_false]
      obtain ⟨l, hl, rfl⟩ := hx
      refine good_rd fun o ho => ?_
      obtain ⟨l', hl', hob⟩ := h.obj _ _ ho
      rw [hl] at hl'; cases hl'
      split
      · -- over nil
        rename_i since seen stepped
        obtain ⟨hro, hb, m', e1, e2⟩ := hob
        simp only [optBlk] at e2; subst e2
        have hg : (getObj l.blk).run P w = .ok (.mapIter none since seen.toArray stepped) w := by simp [getObj, Sem.run, e1]
        exact good_retV (h.rd _) (run_v (by simp [Instr.next, hb, hg])) VR_over
      · rename_i m since seen last
        obtain ⟨hro, hb, m', e1, lm, hlm, e2⟩ := hob
        subst e2
        have hg : (getObj l.blk).run P w = .ok (.mapIter (some lm.blk) since seen.toArray last) w := by simp [getObj, Sem.run, e1]
        refine good_rd fun o' ho' => ?_
        obtain ⟨l', hl', hob'⟩ := h.obj _ _ ho'
        rw [hlm] at hl'; cases hl'
        unfold nextIn
        split
        · rename_i es clock
          obtain ⟨cs, hro', f1, f2, f3, f4⟩ := run_getMap (P := P) rfl hob'
          split
          · -- no entry
            have hcs : cs = #[] := by
              have : cs.toList = [] := f3
              simpa using this
            subst hcs
            refine good_retV ((h.rd _).rd _) (run_v ?_) VR_over
            simp [Instr.next, hb, hg, f2, choose, Sem.run, Question.forced]
          · rename_i k v b rest
            split
            · obtain ⟨e, cs', hcs, ⟨g1, g2⟩, g3⟩ := f3
              simp only [EntsR] at g3; subst g3
              have hcs' : cs = #[e] := by
                apply Array.toList_inj.1; simpa using hcs
              subst hcs'
              have hborn : e.born = b := by simpa [bornsOf] using f4
              subst hborn
              split
              · -- the entry is still to come
                cases hlt : Nat.ble (Nat.succ e.born) since with
                | false => exact good_fail
                | true =>
                  simp only [cond_true]
                  have hlt' : e.born < since := Nat.le_of_ble_eq_true hlt
                  intro o s' e'
                  simp only [Q.eval, retV, Option.some.injEq, Prod.mk.injEq] at e'
                  obtain ⟨rfl, rfl⟩ := e'
                  have hltb : l.blk < w.heap.size := (Array.getElem?_eq_some_iff.1 e1).1
                  have hbb : ∀ b', b' ≠ l.blk → ({ w with heap := w.heap.setIfInBounds l.blk (.mapIter (some lm.blk) since #[e.born] clock) } : World).heap[b']? = w.heap[b']? := fun b' hb' => Array.getElem?_setIfInBounds_ne (Ne.symm hb')
                  have hs' : ({ w with heap := w.heap.setIfInBounds l.blk (.mapIter (some lm.blk) since #[e.born] clock) } : World).heap.size = w.heap.size := Array.size_setIfInBounds
                  refine ⟨φ, { w with heap := w.heap.setIfInBounds l.blk (.mapIter (some lm.blk) since #[e.born] clock) }, ((h.rd _).rd _).wr hl hro (show s.h.get r ≠ none by simp [ho]) hs' hbb ⟨hro, hb, some lm.blk, by simp [hltb], lm, hlm, rfl⟩, Keep.wr hl hro hs' hbb rfl rfl rfl,
                    .inl ⟨.tuple #[.bool true, e.key, e.val], run_v ?_, _, rfl, _, _, rfl, rfl, _, _, rfl, g1, _, _, rfl, g2, rfl⟩⟩
                  have hns : ¬ since ≤ e.born := by omega
                  simp [Instr.next, hb, hg, f2, hlt', hns, List.filter_cons, choose, Sem.run, Question.forced, setObj, e1]
              · rename_i b' more
                split
                · cases hc : and (Nat.beq e.born b') (Nat.ble (Nat.succ e.born) last) with
                  | false => exact good_fail
                  | true =>
                    simp only [cond_true]
                    simp only [Bool.and_eq_true] at hc
                    have hc1 := Nat.eq_of_beq_eq_true hc.1
                    have hc2 : e.born < last := Nat.le_of_ble_eq_true hc.2
                    subst hc1
                    refine good_retV ((h.rd _).rd _) (run_v ?_) VR_over
                    have hnl : ¬ last ≤ e.born := by omega
                    simp [Instr.next, hb, hg, f2, hnl, List.filter_cons, choose, Sem.run, Question.forced]
                · exact good_fail
            · exact good_fail
        · exact good_fail
      · exact good_fail
  · exact good_fail

theorem bornFind_spec {b : Nat} : ∀ {es : List (V × V × Nat)} {cs : List MapEntry} {v : V}, EntsR φ es cs → cs.map (·.born) = bornsOf es → bornFind b es = some v →
    ∃ e, cs.find? (fun e => e.born == b) = some e ∧ VR φ v (.tuple #[e.key, e.val])
  | [], _, _, _, _, h => by simp [bornFind] at h
  | (k, x, c) :: es, _, v, ⟨e, cs, rfl, ⟨h1, h2⟩, hr⟩, hb, h => by
    simp only [bornFind] at h
    simp only [List.map_cons, bornsOf, List.cons.injEq] at hb
    cases hc : Nat.beq c b with
    | true =>
      rw [hc, cond_true] at h
      cases h
      have := Nat.eq_of_beq_eq_true hc
      refine ⟨e, by simp [hb.1, this], _, rfl, _, _, rfl, h1, _, _, rfl, h2, rfl⟩
    | false =>
      rw [hc, cond_false] at h
      obtain ⟨e', g1, g2⟩ := bornFind_spec hr hb.2 h
      refine ⟨e', ?_, g2⟩
      have hne : ¬ c = b := fun e => by rw [e] at hc; simp at hc
      have : (e.born == b) = false := by rw [hb.1]; simpa using hne
      simp [List.find?_cons, this, g1]

theorem good_entry (h : Rel φ s w) {it : V} {c : Value} (hx : VR φ it c) : Good P φ s w (entryAt it) ((do pure (.value (← Instr.entry c)) : Sem Next).run P w) := by
  unfold entryAt
  split
  · rename_i r
    obtain ⟨l, hl, rfl⟩ := hx
    refine good_rd fun o ho => ?_
    obtain ⟨l', hl', hob⟩ := h.obj _ _ ho
    rw [hl] at hl'; cases hl'
    split
    · rename_i m since b st
      obtain ⟨hro, hb, m', e1, lm, hlm, e2⟩ := hob
      subst e2
      have hg : (getObj l.blk).run P w = .ok (.mapIter (some lm.blk) since [b].toArray st) w := by simp [getObj, Sem.run, e1]
      refine good_rd fun o' ho' => ?_
      obtain ⟨l', hl', hob'⟩ := h.obj _ _ ho'
      rw [hlm] at hl'; cases hl'
      split
      · rename_i es clock
        obtain ⟨cs, hro', f1, f2, f3, f4⟩ := run_getMap (P := P) rfl hob'
        cases hc : Nat.beq clock st with
        | false => exact good_fail
        | true =>
          simp only [cond_true]
          have hc' := Nat.eq_of_beq_eq_true hc
          subst hc'
          refine good_val ((h.rd _).rd _) fun v hv => ?_
          obtain ⟨e, g1, g2⟩ := bornFind_spec f3 f4 hv
          have : cs.find? (fun e => e.born == b) = some e := by simpa using g1
          exact ⟨_, run_v (by simp [Instr.entry, hb, hg, f2, this]), g2⟩
      · exact good_fail
    · exact good_fail
  · exact good_fail

end
end Go.AM

namespace Go.AM
open Go

section
variable {P : Program} {φ : Map} {s : S} {w : World} {E : Env} {fr : Fr} {ρ : Operand → Value}

theorem opds_ok : ∀ l : List Operand, (∀ x ∈ l, VR φ (opd x fr) (ρ x)) → VRL φ (opds l fr) (l.map ρ)
  | [], _ => rfl
  | x :: l, h => ⟨_, _, rfl, h x (by simp), opds_ok l (fun y hy => h y (by simp [hy]))⟩

theorem opds_okA (a : Array Operand) (h : ∀ x ∈ a.toList, VR φ (opd x fr) (ρ x)) : VRL φ (opds a.toList fr) (a.map ρ).toList := by
  rw [Array.toList_map]; exact opds_ok _ h

theorem pairs_ok : ∀ l : List (Nat × Operand), (∀ x ∈ l.map (·.2), VR φ (opd x fr) (ρ x)) → PairsR φ (pairs l fr) (l.map fun (i, x) => (i, ρ x))
  | [], _ => rfl
  | (i, x) :: l, h => ⟨_, _, rfl, h x (by simp), pairs_ok l (fun y hy => h y (by simp only [List.map_cons, List.mem_cons]; exact .inr hy))⟩

theorem pairs_okA (a : Array (Nat × Operand)) (h : ∀ x ∈ a.toList.map (·.2), VR φ (opd x fr) (ρ x)) : PairsR φ (pairs a.toList fr) (a.map fun (i, x) => (i, ρ x)).toList := by
  rw [Array.toList_map]; exact pairs_ok _ h

theorem optV_ok (o : Option Operand) (h : ∀ x ∈ o.toList, VR φ (opd x fr) (ρ x)) : OptR φ (optV o fr) (o.map ρ) := by
  cases o with
  | none => rfl
  | some x => exact ⟨_, rfl, h x (by simp)⟩

theorem good_append (hE : EnvOk E P) (h : Rel φ s w) {t ty : TypeId} {ts : List TypeId} {x y : V} {c d : Value} {cs : List Value} (hx : VR φ x c) (hy : VR φ y d) (hcs : cs = []) :
    Good P φ s w (builtinAppend E t (type2 (t :: ts)) x y) ((do pure (.value (← Builtin.append_ (t :: ts).toArray ty (c :: d :: cs).toArray)) : Sem Next).run P w) := by
  subst hcs
  unfold builtinAppend
  split
  · rename_i a len cap
    split
    · rename_i e hd
      have hu := und_of hE hd
      split
      · exact good_fail
      · rename_i te hte
        have hok := hE.ty _ _ hte
        cases ts with
        | nil => exact good_fail
        | cons t2 ts =>
          dsimp only [type2]
          cases hi : isIntD (E.desc t2) with
          | true =>
            simp only [cond_true]
            obtain ⟨k2, hk2⟩ : ∃ k, E.desc t2 = some (.int k) := by
              cases hd2 : E.desc t2 with
              | none => rw [hd2] at hi; simp [isIntD] at hi
              | some d2 => rw [hd2] at hi; cases d2 <;> simp [isIntD] at hi; exact ⟨_, rfl⟩
            split
            · rename_i k n
              cases hn : Nat.ble n 1048576 with
              | false => exact good_fail
              | true =>
                simp only [cond_true]
                have hn' := Nat.le_of_ble_eq_true hn
                cases hy
                cases hr : roomOk (len + n) te.bytes with
                | false => unfold appendAt; rw [hr]; exact good_fail
                | true =>
                  have hr' := roomOk_spec hr
                  obtain ⟨i, z, hinf, _, _, hz, hz1, _⟩ := hok.info
                  have hzr : ∀ w : World, (zeroValue e).run P w = .ok z w := fun w => by simp [zeroValue, typeInfo, hinf, hz]
                  have hzv : VRL φ te.zero z.cells.toList := by rw [hz1]; exact (VR_ofV φ z).cells
                  have hzs : z.cells.size = te.size := by
                    have := VRL.length hzv
                    rw [hok.len] at this
                    simpa using this.symm
                  have hroomy : n * te.bytes ≤ 4294967296 := Nat.le_trans (Nat.mul_le_mul (by omega) (by omega)) hr'
                  have hA := appIn_zeros (w := w) (ty := ty) (ts := ts) (c := c) (k := k) hE hu hte (und_of hE hk2) hn' hzr hzs hroomy
                  refine good_appendAt hE h hte hx ?_ ?_ hA
                  · split
                    · rename_i h0
                      have : repl n te.zero = [] := List.eq_nil_of_length_eq_zero (by rw [repl_length, hok.len, h0])
                      rw [this]; rfl
                    · have e1 : (Builtin.zeroCells z.cells n).toList = (List.replicate n z.cells.toList).flatten := range_map_zero z.cells n
                      rw [e1]
                      exact VRL_repl hzv n
                  · split
                    · rename_i h0; simp [h0]
                    · simp [Builtin.zeroCells, hzs]
            · exact good_fail
          | false =>
            simp only [cond_false]
            split
            · exact good_fail
            · rename_i d2 hd2
              split
              · exact good_fail
              · rename_i n hn
                refine good_src h hy fun vs xs s' hs' _ _ hf hv hxl => ?_
                have hA := appIn_plain (w := w) (c := c) (ty := ty) (ts := ts) hE hu hte (und_of hE hd2) (by rw [← hd2]; exact hi) (fun w => run_lenOf (P := P) hy hn) hf
                exact good_appendAt hE hs' hte hx hv hxl hA
    · exact good_fail
  · exact good_fail

theorem good_call (hE : EnvOk E P) (h : Rel φ s w) {f : V} {args : List V} {c : Value} {cs : Array Value} (hf : VR φ f c) (ha : VRL φ args cs.toList) :
    Good P φ s w (callOf E f args) ((do let d ← Deferred.ofValue c cs; invoke d.target d.args : Sem Next).run P w) := by
  unfold callOf
  split
  · rename_i g first cap
    obtain ⟨a', b', rfl, h1, h2⟩ := hf
    have hargs : VRL φ (first ++ (args ++ cap)) (a' ++ cs ++ b').toList := by
      simp only [Array.toList_append, List.append_assoc]
      exact h1.append (ha.append h2)
    have hrun : (do let d ← Deferred.ofValue (.func (.func g) a' b') cs; invoke d.target d.args : Sem Next).run P w = (callFunc g (a' ++ cs ++ b')).run P w := by
      simp [Deferred.ofValue, invoke]
    rw [hrun]
    unfold extCall
    have hx := hE.ext g
    split
    · exact good_ret h ⟨_, rfl, hargs⟩
    · rename_i hk
      rw [hk] at hx
      split
      · rename_i x hx1
        rw [hx1] at hargs
        obtain ⟨c1, cs1, e1, hv, hnil⟩ := hargs
        simp only [VRL] at hnil; subst hnil
        have : a' ++ cs ++ b' = #[c1] := by apply Array.toList_inj.1; simpa using e1
        rw [this]
        exact good_retV h (hx c1 w) hv
      · exact good_fail
    · rename_i hk
      rw [hk] at hx
      split
      · rename_i t r hx1
        rw [hx1] at hargs
        obtain ⟨c1, cs1, e1, ⟨c2, e2, l, hl, e3⟩, hnil⟩ := hargs
        simp only [VRL] at hnil; subst hnil
        subst e2; subst e3
        have : a' ++ cs ++ b' = #[.iface t (.map (some l.blk))] := by apply Array.toList_inj.1; simpa using e1
        rw [this]
        refine good_rd fun o ho => ?_
        obtain ⟨l', hl', hob⟩ := h.obj _ _ ho
        rw [hl] at hl'; cases hl'
        unfold clonedMap
        split
        · rename_i es clock ord
          cases ord with
          | true =>
            obtain ⟨hro, cs2, f1, f2, f3⟩ := hob
            refine good_new (ob := .map cs2 clock) (l := ⟨w.heap.size, 0, 0, 0, false⟩) (h.rd _) rfl ⟨rfl, cs2, rfl, f2.mono (Map.upd_ext h.fresh), f3⟩ fun hr => ?_
            exact good_retV hr (hx t l.blk cs2 clock w f1) ⟨_, rfl, _, Map.upd_self, rfl⟩
          | false =>
            obtain ⟨hro, cs2, ds, ck, f1, f2, f3, f4⟩ := hob
            refine good_new (ob := .map cs2 ck) (l := ⟨w.heap.size, 0, 0, 0, false⟩) (h.rd _) rfl ⟨rfl, cs2, ds, ck, rfl, f2.mono (Map.upd_ext h.fresh), f3, f4⟩ fun hr => ?_
            exact good_retV hr (hx t l.blk cs2 ck w f1) ⟨_, rfl, _, Map.upd_self, rfl⟩
        · exact good_fail
      · exact good_fail
    · exact good_fail
  · rename_i l
    obtain ⟨L, hL, rfl⟩ := hf
    refine good_ret h ⟨L, cs, hL, ?_, ha⟩
    simp [Deferred.ofValue, invoke]
  · exact good_fail

theorem good_defer (h : Rel φ s w) {f : V} {args : List V} {c : Value} {cs : Array Value} (hf : VR φ f c) (ha : VRL φ args cs.toList) :
    Good P φ s w (deferOf f args) ((do pure (.defer (← Deferred.ofValue c cs)) : Sem Next).run P w) := by
  unfold deferOf
  split
  · rename_i g first cap
    obtain ⟨a', b', rfl, h1, h2⟩ := hf
    refine good_ret h ⟨{ target := .fn (.func g) b', args := a' ++ cs }, by simp [Deferred.ofValue], b', a' ++ cs, rfl, ?_⟩
    simp only [Array.toList_append, List.append_assoc]
    exact h1.append (ha.append h2)
  · exact good_fail

theorem good_panic (h : Rel φ s w) {x : V} {c : Value} (hx : VR φ x c) : Good P φ s w (panicOf x) ((do pure (.value (← Instr.panic c)) : Sem Next).run P w) := by
  unfold panicOf
  split
  · rename_i t v
    obtain ⟨c', rfl, hv⟩ := hx
    exact good_ret h ⟨_, run_pan (by simp [Instr.panic, goPanic, Sem.run]), c', rfl, hv⟩
  · exact good_fail

theorem good_builtin (hE : EnvOk E P) (h : Rel φ s w) {b : Builtin} {ts : Array TypeId} {ty : TypeId} {consts : Array Bool} {args : List V} {cs : Array Value} (ha : VRL φ args cs.toList) :
    Good P φ s w (builtinOf b E ts.toList args) ((Go.builtin b ts ty consts cs).run P w) := by
  obtain ⟨ts⟩ := ts
  obtain ⟨cs⟩ := cs
  cases b <;> try (exact good_fail)
  all_goals simp only [builtinOf]
  case append =>
    cases ts with
    | nil => exact good_fail
    | cons t ts =>
      cases args with
      | nil => exact good_fail
      | cons x args =>
        cases args with
        | nil => exact good_fail
        | cons y args =>
          obtain ⟨c, cs1, e1, hx, d, cs2, e2, hy, hr⟩ := ha
          simp only at e1; subst e1; subst e2
          cases args with
          | nil => exact good_append hE h hx hy hr
          | cons _ _ => exact good_fail
  case cap =>
    cases ts with
    | nil => exact good_fail
    | cons t ts =>
      cases args with
      | nil => exact good_fail
      | cons x args =>
        obtain ⟨c, cs1, e1, hx, hr⟩ := ha
        simp only at e1; subst e1
        exact good_cap hE h hx
  case copy =>
    cases ts with
    | nil => exact good_fail
    | cons t ts =>
      cases args with
      | nil => exact good_fail
      | cons x args =>
        cases args with
        | nil => exact good_fail
        | cons y args =>
          obtain ⟨c, cs1, e1, hx, d, cs2, e2, hy, hr⟩ := ha
          simp only at e1; subst e1; subst e2
          cases args with
          | nil => exact good_copy (t2 := 0) (ts := ts) hE h hx hy
          | cons _ _ => exact good_fail
  case len =>
    cases ts with
    | nil => exact good_fail
    | cons t ts =>
      cases args with
      | nil => exact good_fail
      | cons x args =>
        obtain ⟨c, cs1, e1, hx, hr⟩ := ha
        simp only at e1; subst e1
        exact good_len (xs := []) hE h hx
  case max =>
    cases args with
    | nil => exact good_fail
    | cons x args =>
      obtain ⟨c, cs1, e1, hx, hr⟩ := ha
      simp only at e1; subst e1
      refine good_val h fun v hv => ?_
      obtain ⟨e, h1, h2⟩ := good_foldV (P := P) (w := w) (fun x y z c d h hx hy => max_ok x y z c d h hx hy) args x v c cs1 hv hx hr
      exact ⟨e, run_v (by simpa [Builtin.max_] using h1), h2⟩
  case min =>
    cases args with
    | nil => exact good_fail
    | cons x args =>
      obtain ⟨c, cs1, e1, hx, hr⟩ := ha
      simp only at e1; subst e1
      refine good_val h fun v hv => ?_
      obtain ⟨e, h1, h2⟩ := good_foldV (P := P) (w := w) (fun x y z c d h hx hy => min_ok x y z c d h hx hy) args x v c cs1 hv hx hr
      exact ⟨e, run_v (by simpa [Builtin.min_] using h1), h2⟩
  case panic =>
    cases args with
    | nil => exact good_fail
    | cons x args =>
      obtain ⟨c, cs1, e1, hx, hr⟩ := ha
      simp only at e1; subst e1
      exact good_panic h hx
  case recover => exact good_ret h rfl

theorem good_exec (hE : EnvOk E P) (h : Rel φ s w) (o : Oper) (hρ : ∀ x ∈ opsOf o.op, VR φ (opd x fr) (ρ x)) : Good P φ s w (exec o.op E fr) ((execOp ρ o).run P w) := by
  obtain ⟨dst, op, type, pos, after, guard⟩ := o
  cases op <;> simp only [exec] <;> try (exact good_fail)
  case move x => exact good_retV h rfl (hρ x (by simp [opsOf]))
  case assign x => exact good_retV h rfl (hρ x (by simp [opsOf]))
  case pick c a b => exact good_pick h (hρ c (by simp [opsOf])) (hρ a (by simp [opsOf])) (hρ b (by simp [opsOf]))
  case alloc e => exact good_alloc hE h
  case box e x => exact good_box h (hρ x (by simp [opsOf]))
  case build t ps => exact good_build hE h (pairs_okA ps hρ)
  case buildSlice t n ps => exact good_buildSlice hE h (pairs_okA ps hρ)
  case load t a => exact good_load hE h (hρ a (by simp [opsOf]))
  case store t a x => exact good_store hE h (hρ a (by simp [opsOf])) (hρ x (by simp [opsOf]))
  case nilCheck x => exact good_nilCheck h rfl (hρ x (by simp [opsOf]))
  case binOp op t x y t' => exact good_bin hE h (hρ x (by simp [opsOf])) (hρ y (by simp [opsOf]))
  case unOp op t x => exact good_un h (hρ x (by simp [opsOf]))
  case convert a b x => exact good_conv hE h (hρ x (by simp [opsOf]))
  case makeInterface t x => exact good_iface hE h (hρ x (by simp [opsOf]))
  case makeFunc fn first cap =>
    unfold opMakeFunc
    split
    · exact good_retV (c := .func (.func _) (first.map ρ) (cap.map ρ)) h rfl ⟨_, _, rfl, opds_okA first (fun x hx => hρ x (by simp only [opsOf, List.mem_append]; exact .inl hx)), opds_okA cap (fun x hx => hρ x (by simp only [opsOf, List.mem_append]; exact .inr hx))⟩
    · exact good_fail
  case makeMap t r => exact good_makeMap h (fun e => by rw [e]; rfl)
  case makeSlice t l c => exact good_makeSlice hE h (hρ l (by simp [opsOf])) (hρ c (by simp [opsOf]))
  case slice t x lo hi mx => exact good_slice hE h (hρ x (by simp [opsOf])) (optV_ok lo (fun x hx => hρ x (by simp only [opsOf, List.mem_cons, List.mem_append]; exact .inr (.inl hx)))) (optV_ok hi (fun x hx => hρ x (by simp only [opsOf, List.mem_cons, List.mem_append]; exact .inr (.inr (.inl hx))))) (optV_ok mx (fun x hx => hρ x (by simp only [opsOf, List.mem_cons, List.mem_append]; exact .inr (.inr (.inr hx)))))
  case fieldAddr t x f => exact good_fieldAddr hE h (hρ x (by simp [opsOf]))
  case field t x f => exact good_field hE h (hρ x (by simp [opsOf]))
  case indexAddr t x i => exact good_indexAddr hE h (hρ x (by simp [opsOf])) (hρ i (by simp [opsOf]))
  case index t x i => exact good_index hE h (hρ x (by simp [opsOf])) (hρ i (by simp [opsOf]))
  case lookup t x k ok => exact good_lookup hE h (hρ x (by simp [opsOf])) (hρ k (by simp [opsOf]))
  case mapUpdate t m k x => exact good_mapSet hE h (hρ m (by simp [opsOf])) (hρ k (by simp [opsOf])) (hρ x (by simp [opsOf]))
  case insert t m k x => exact good_insert hE h (hρ m (by simp [opsOf])) (hρ k (by simp [opsOf])) (hρ x (by simp [opsOf]))
  case mapEntry t m k => exact good_mapEntry hE h (hρ m (by simp [opsOf])) (hρ k (by simp [opsOf]))
  case entryStore t m st x => exact good_entryStore h (hρ m (by simp [opsOf])) (hρ st (by simp [opsOf])) (hρ x (by simp [opsOf]))
  case range t x => exact good_range hE h (hρ x (by simp [opsOf]))
  case next it str => exact good_next h (hρ it (by simp [opsOf]))
  case entry it => exact good_entry h (hρ it (by simp [opsOf]))
  case typeAssert x xt t ok => exact good_assert hE h (hρ x (by simp [opsOf]))
  case extract t i => exact good_extract h (hρ t (by simp [opsOf]))
  case panic x => exact good_panic h (hρ x (by simp [opsOf]))
  case call c =>
    unfold opCall
    split
    · rename_i f hc
      have : (execOp ρ { dst, op := .call c, type, pos, after, guard }).run P w = (do let d ← Deferred.ofValue (ρ f) (c.args.map ρ); invoke d.target d.args : Sem Next).run P w := by
        simp only [execOp, resolve, hc]
      rw [this]
      exact good_call hE h (hρ f (by simp [opsOf, hc])) (opds_okA c.args (fun x hx => hρ x (by simp only [opsOf, List.mem_append]; exact .inr hx)))
    · rename_i b hc
      have : (execOp ρ { dst, op := .call c, type, pos, after, guard }).run P w = (Go.builtin b c.argTypes type (c.args.map fun | .const _ => true | _ => false) (c.args.map ρ)).run P w := by
        simp only [execOp, resolve, hc]
        rfl
      rw [this]
      exact good_builtin hE h (opds_okA c.args (fun x hx => hρ x (by simp only [opsOf, List.mem_append]; exact .inr hx)))
    · exact good_fail
  case defer c =>
    unfold opDefer
    split
    · rename_i f hc
      have : (execOp ρ { dst, op := .defer c, type, pos, after, guard }).run P w = (do pure (.defer (← Deferred.ofValue (ρ f) (c.args.map ρ))) : Sem Next).run P w := by
        simp only [execOp, resolve, hc]
      rw [this]
      exact good_defer h (hρ f (by simp [opsOf, hc])) (opds_okA c.args (fun x hx => hρ x (by simp only [opsOf, List.mem_append]; exact .inr hx)))
    · exact good_fail

theorem opds_congr {fr fr' : Fr} : ∀ l : List Operand, (∀ x ∈ l, opd x fr = opd x fr') → opds l fr = opds l fr'
  | [], _ => rfl
  | x :: l, h => by simp only [opds]; rw [h x (by simp), opds_congr l (fun y hy => h y (by simp [hy]))]

theorem pairs_congr {fr fr' : Fr} : ∀ l : List (Nat × Operand), (∀ x ∈ l.map (·.2), opd x fr = opd x fr') → pairs l fr = pairs l fr'
  | [], _ => rfl
  | (i, x) :: l, h => by simp only [pairs]; rw [h x (by simp), pairs_congr l (fun y hy => h y (by simp only [List.map_cons, List.mem_cons]; exact .inr hy))]

theorem optV_congr {fr fr' : Fr} (o : Option Operand) (h : ∀ x ∈ o.toList, opd x fr = opd x fr') : optV o fr = optV o fr' := by
  cases o with
  | none => rfl
  | some x => simp only [optV]; rw [h x (by simp)]

/-- an operation depends on the frame through its operands -/
theorem exec_congr {fr fr' : Fr} (op : Op) (h : ∀ x ∈ opsOf op, opd x fr = opd x fr') : exec op E fr = exec op E fr' := by
  cases op <;> simp only [exec] <;> try rfl
  case move x => simp only [opMove]; rw [h x (by simp [opsOf])]
  case assign x => simp only [opMove]; rw [h x (by simp [opsOf])]
  case pick c a b => simp only [opPick]; rw [h c (by simp [opsOf]), h a (by simp [opsOf]), h b (by simp [opsOf])]
  case box e x => simp only [opBox]; rw [h x (by simp [opsOf])]
  case build t ps => simp only [opBuild]; rw [pairs_congr _ h]
  case buildSlice t n ps => simp only [opBuildSlice]; rw [pairs_congr _ h]
  case load t a => simp only [opLoad]; rw [h a (by simp [opsOf])]
  case store t a x => simp only [opStore]; rw [h a (by simp [opsOf]), h x (by simp [opsOf])]
  case nilCheck x => simp only [opNilCheck]; rw [h x (by simp [opsOf])]
  case binOp op t x y t' => simp only [opBin]; rw [h x (by simp [opsOf]), h y (by simp [opsOf])]
  case unOp op t x => simp only [opUn]; rw [h x (by simp [opsOf])]
  case convert a b x => simp only [opConvert]; rw [h x (by simp [opsOf])]
  case makeInterface t x => simp only [opIface]; rw [h x (by simp [opsOf])]
  case makeFunc fn first cap =>
    simp only [opMakeFunc]
    rw [opds_congr first.toList (fun x hx => h x (by simp only [opsOf, List.mem_append]; exact .inl hx)), opds_congr cap.toList (fun x hx => h x (by simp only [opsOf, List.mem_append]; exact .inr hx))]
  case makeSlice t l c => simp only [opMakeSlice]; rw [h l (by simp [opsOf]), h c (by simp [opsOf])]
  case slice t x lo hi mx =>
    simp only [opSlice]
    rw [h x (by simp [opsOf]), optV_congr lo (fun x hx => h x (by simp only [opsOf, List.mem_cons, List.mem_append]; exact .inr (.inl hx))),
      optV_congr hi (fun x hx => h x (by simp only [opsOf, List.mem_cons, List.mem_append]; exact .inr (.inr (.inl hx)))),
      optV_congr mx (fun x hx => h x (by simp only [opsOf, List.mem_cons, List.mem_append]; exact .inr (.inr (.inr hx))))]
  case fieldAddr t x f => simp only [opFieldAddr]; rw [h x (by simp [opsOf])]
  case field t x f => simp only [opField]; rw [h x (by simp [opsOf])]
  case indexAddr t x i => simp only [opIndexAddr]; rw [h x (by simp [opsOf]), h i (by simp [opsOf])]
  case index t x i => simp only [opIndex]; rw [h x (by simp [opsOf]), h i (by simp [opsOf])]
  case lookup t x k ok => simp only [opLookup]; rw [h x (by simp [opsOf]), h k (by simp [opsOf])]
  case mapUpdate t m k x => simp only [opMapUpdate]; rw [h m (by simp [opsOf]), h k (by simp [opsOf]), h x (by simp [opsOf])]
  case insert t m k x => simp only [opInsert]; rw [h m (by simp [opsOf]), h k (by simp [opsOf]), h x (by simp [opsOf])]
  case mapEntry t m k => simp only [opMapEntry]; rw [h m (by simp [opsOf]), h k (by simp [opsOf])]
  case entryStore t m st x => simp only [opEntryStore]; rw [h m (by simp [opsOf]), h st (by simp [opsOf]), h x (by simp [opsOf])]
  case range t x => simp only [opRange]; rw [h x (by simp [opsOf])]
  case next it str => simp only [opNext]; rw [h it (by simp [opsOf])]
  case entry it => simp only [opEntry]; rw [h it (by simp [opsOf])]
  case typeAssert x xt t ok => simp only [opAssert]; rw [h x (by simp [opsOf])]
  case extract t i => simp only [opExtract]; rw [h t (by simp [opsOf])]
  case panic x => simp only [opPanic]; rw [h x (by simp [opsOf])]
  case call c =>
    unfold opCall
    cases hc : c.callee with
    | value f => simp only; rw [h f (by simp [opsOf, hc]), opds_congr c.args.toList (fun x hx => h x (by simp only [opsOf, List.mem_append]; exact .inr hx))]
    | builtin b => simp only; rw [opds_congr c.args.toList (fun x hx => h x (by simp only [opsOf, List.mem_append]; exact .inr hx))]
    | invoke r n => rfl
  case defer c =>
    unfold opDefer
    cases hc : c.callee with
    | value f => simp only; rw [h f (by simp [opsOf, hc]), opds_congr c.args.toList (fun x hx => h x (by simp only [opsOf, List.mem_append]; exact .inr hx))]
    | builtin b => rfl
    | invoke r n => rfl

end
end Go.AM

