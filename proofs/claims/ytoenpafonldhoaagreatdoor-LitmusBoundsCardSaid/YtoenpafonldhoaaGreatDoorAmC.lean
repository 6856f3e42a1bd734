/- An abstract machine for the model's programs, its runs, and what they say of the model (part AmC). No condition. -/
import Derived.Test.YtoenpafonldhoaaGreatDoorAmB
set_option linter.unusedVariables false
set_option linter.unusedSimpArgs false
set_option linter.unusedSectionVars false
namespace Go.AM
open Go

section
variable {P : Program} {φ : Map} {s : S} {w : World} {E : Env}

/-- what append does, once it is known how many elements come and which cells they are -/
structure AppIn (P : Program) (e : TypeId) (w : World) (size bytes : Nat) (ts : Array TypeId) (ty : TypeId) (c : Value) (d : Value) (n : Nat) (xs : List Value) : Prop where
  room : ∀ base len cap, c = .slice base len cap → len + n ≤ cap → ∀ u w', (match base with | some a => storeCells (a.add (len * size)) xs | none => pure () : Sem Unit).run P w = .ok u w' →
    (Builtin.append_ ts ty #[c, d]).run P w = .ok (.slice base (len + n) cap) w'
  grow : ∀ base len cap old z, c = .slice base len cap → ¬ len + n ≤ cap → (len + n) * (bytes + 1) ≤ 4294967296 →
    (∀ dr, (Builtin.firstCells size len c).run P { w with drawn := dr } = .ok old { w with drawn := dr }) → (∀ dr, (zeroValue e).run P { w with drawn := dr } = .ok z { w with drawn := dr }) →
    ∃ newCap, len + n ≤ newCap ∧ (Builtin.append_ ts ty #[c, d]).run P w =
      .ok (.slice (some ⟨w.heap.size, 0, none⟩) (len + n) newCap) { w with heap := w.heap.push (.cells (old ++ xs.toArray ++ Builtin.zeroCells z.cells (newCap - (len + n))) e), drawn := w.drawn + 1 }

theorem nextcap_le (n c : Nat) (h : c < n) : Builtin.nextslicecap n c ≤ 2 * n + 1024 := by
  have grow : ∀ (r c : Nat), c < n → Builtin.growBy n r c ≤ 2 * n + 1024 := by
    intro r
    induction r with
    | zero => intro c h; simp only [Builtin.growBy]; omega
    | succ r ih =>
      intro c h
      simp only [Builtin.growBy]
      split
      · omega
      · by_cases h2 : c + (c + 768) / 4 < n
        · exact ih _ h2
        · cases r with
          | zero => simp only [Builtin.growBy]; omega
          | succ r =>
            simp only [Builtin.growBy]
            rw [if_pos (by omega)]
            omega
  unfold Builtin.nextslicecap
  split
  · omega
  · split
    · omega
    · exact grow 4 c h

theorem isInt_cond {d : TypeDesc} (h : isIntD (some d) = false) : (match (generalizing := false) d with | .int _ => true | _ => false) = false := by
  cases d <;> first | rfl | (simp [isIntD] at h)

theorem appIn_plain (hE : EnvOk E P) {t1 t2 e ty : TypeId} {te : TI} {d2 : TypeDesc} {c d : Value} {n : Nat} {xs : List Value} {ts : List TypeId} (hu : P.underlying t1 = some (.slice e)) (hte : E.ty e = some te)
    (hu2 : P.underlying t2 = some d2) (hni : isIntD (some d2) = false) (hl : ∀ w, (Builtin.lenOf d).run P w = .ok n w) (hf : ∀ dr, (Builtin.firstCells te.size n d).run P { w with drawn := dr } = .ok xs.toArray { w with drawn := dr }) :
    AppIn P e w te.size te.bytes (t1 :: t2 :: ts).toArray ty c d n xs := by
  have hok := hE.ty _ _ hte
  have hm := isInt_cond hni
  have ht1 : ((t1 :: t2 :: ts).toArray)[0]? = some t1 := rfl
  have ht2 : ((t1 :: t2 :: ts).toArray)[1]? = some t2 := rfl
  refine ⟨fun base len cap hc hle u w' hr => ?_, fun base len cap old z hc hgt hby ho hz => ?_⟩
  · subst hc
    have hf' := hf w.drawn
    cases d2 <;> first | (simp [isIntD] at hni; done) | skip
    all_goals
      simp only [Builtin.append_, ht1, ht2, List.getElem?_toArray, List.getElem?_cons_zero, List.getElem?_cons_succ, Sem.run_bind, run_underlying hu, Result.andThen_ok, run_sizeOf hok, run_underlying hu2, Sem.run_pure, Bool.false_eq_true, if_false, hl, if_pos hle, Bool.not_false, if_true, hf']
      cases base with
      | none => simp at hr; simp [hr]
      | some a => simp at hr; simp [hr]
  · subst hc
    have hneed : len + n ≤ 4294967296 := by
      have : (len + n) * 1 ≤ (len + n) * (te.bytes + 1) := Nat.mul_le_mul_left _ (by omega)
      omega
    have hnb : (len + n) * te.bytes ≤ 4294967296 := Nat.le_trans (Nat.mul_le_mul_left _ (by omega)) hby
    have hmax : ¬ (((len + n : Nat) : Int) > IntKind.i64.max) := by
      simp [IntKind.max, IntKind.signed, IntKind.bits]; omega
    have hnsc := nextcap_le (len + n) cap (by omega)
    obtain ⟨inf, hinf, hinb, _⟩ := run_typeInfo hok w
    have hbig : ¬ Builtin.nextslicecap (len + n) cap * inf.bytes > 2 ^ 48 := by
      rw [hinb]
      have h1 : Builtin.nextslicecap (len + n) cap * te.bytes ≤ (2 * (len + n) + 1024) * te.bytes := Nat.mul_le_mul_right _ hnsc
      have h2 : te.bytes ≤ 4294967296 := by
        have : 1 * (te.bytes + 1) ≤ (len + n) * (te.bytes + 1) := Nat.mul_le_mul_right _ (by omega)
        omega
      have h3 : (2 * (len + n) + 1024) * te.bytes = 2 * ((len + n) * te.bytes) + 1024 * te.bytes := by rw [Nat.add_mul, Nat.mul_assoc]
      have h4 : (2 : Nat) ^ 48 = 281474976710656 := by decide
      omega
    obtain ⟨newCap, hcap, hch⟩ : ∃ k, len + n ≤ k ∧ (choose (.appendCap (len + n) cap e)).run P w = .ok k { w with drawn := w.drawn + 1 } :=
      ⟨(Question.appendCap (len + n) cap e).cut (w.tape w.drawn (.appendCap (len + n) cap e)), by simp [Question.cut], by simp [choose, Sem.run, Question.forced]⟩
    have hroom : ∀ w', (askRoom (newCap * inf.bytes)).run P w' = .ok () w' := fun w' => by
      simp only [askRoom]
      split
      · rfl
      · rfl
    obtain ⟨inf', hinf', hinb', _⟩ := run_typeInfo hok { w with drawn := w.drawn + 1 }
    have hroom' : ∀ w', (askRoom (newCap * inf'.bytes)).run P w' = .ok () w' := fun w' => by rw [hinb', ← hinb]; exact hroom w'
    have hif : ¬ (((len + n : Nat) : Int) > IntKind.i64.max ∧ (False ∨ inf.bytes = 0)) := fun h => hmax h.1
    refine ⟨newCap, hcap, ?_⟩
    cases d2 <;> first | (simp [isIntD] at hni; done) | skip
    all_goals
      simp only [Builtin.append_, ht1, ht2, List.getElem?_toArray, List.getElem?_cons_zero, List.getElem?_cons_succ, Sem.run_bind, run_underlying hu, Result.andThen_ok, run_sizeOf hok, run_underlying hu2, Sem.run_pure, Bool.false_eq_true, if_false, hl, if_neg hgt, Bool.not_false, if_true, hinf, if_neg hif, if_neg hbig, hch, hinf', hroom', ho, hf, hz, newRow, newObj]
      rfl

theorem appIn_zeros (hE : EnvOk E P) {t1 t2 e ty : TypeId} {te : TI} {k2 : IntKind} {k : IntKind} {n : Nat} {z c : Value} {ts : List TypeId} (hu : P.underlying t1 = some (.slice e)) (hte : E.ty e = some te)
    (hu2 : P.underlying t2 = some (.int k2)) (hn : n ≤ 1048576) (hz : ∀ w, (zeroValue e).run P w = .ok z w) (hzs : z.cells.size = te.size) (hroomy : n * te.bytes ≤ 4294967296) :
    AppIn P e w te.size te.bytes (t1 :: t2 :: ts).toArray ty c (.int k (Int.ofNat n)) n (if n * te.size = 0 then [] else (Builtin.zeroCells z.cells n).toList) := by
  have hok := hE.ty _ _ hte
  have ht1 : ((t1 :: t2 :: ts).toArray)[0]? = some t1 := rfl
  have ht2 : ((t1 :: t2 :: ts).toArray)[1]? = some t2 := rfl
  have hw1 : IntKind.i64.wrap (Int.ofNat n) = (n : Int) := wrap_small (k := .i64) (by simp only [lim]; omega)
  have hn0 : ¬ ((n : Int) < 0) := by omega
  obtain ⟨inf, hinf, hinb, _⟩ := run_typeInfo hok w
  have hbn : ¬ ((n : Int) * (inf.bytes : Int) > 2 ^ 48) := by
    rw [hinb, ← Int.natCast_mul]
    have : (4294967296 : Int) < 2 ^ 48 := by decide
    have : ((n * te.bytes : Nat) : Int) ≤ 4294967296 := Int.ofNat_le.2 hroomy
    omega
  have happ : ∀ w' : World, (if n * te.size = 0 then (pure #[] : Sem (Array Value)) else (do pure (Builtin.zeroCells (← zeroValue e).cells n))).run P w' = .ok (if n * te.size = 0 then [] else (Builtin.zeroCells z.cells n).toList).toArray w' := fun w' => by
    split
    · rfl
    · simp [hz]
  refine ⟨fun base len cap hc hle u w' hr => ?_, fun base len cap old z' hc hgt hby ho hz' => ?_⟩
  · subst hc
    simp only [Builtin.append_, ht1, ht2, List.getElem?_toArray, List.getElem?_cons_zero, List.getElem?_cons_succ, Sem.run_bind, run_underlying hu, Result.andThen_ok, run_sizeOf hok, run_underlying hu2, Sem.run_pure, if_true, asInt, asIntOf, hw1, if_neg hn0, hinf, if_neg hbn,
      Int.toNat_natCast, if_pos hle, Bool.not_true, Bool.false_eq_true, if_false, happ]
    cases base with
    | none => simp at hr; simp [hr]
    | some a => simp at hr; simp [hr]
  · subst hc
    have hneed : len + n ≤ 4294967296 := by
      have : (len + n) * 1 ≤ (len + n) * (te.bytes + 1) := Nat.mul_le_mul_left _ (by omega)
      omega
    have hnb : (len + n) * te.bytes ≤ 4294967296 := Nat.le_trans (Nat.mul_le_mul_left _ (by omega)) hby
    have hmax : ¬ (((len + n : Nat) : Int) > IntKind.i64.max) := by
      simp [IntKind.max, IntKind.signed, IntKind.bits]; omega
    have hnsc := nextcap_le (len + n) cap (by omega)
    have hbig : ¬ Builtin.nextslicecap (len + n) cap * inf.bytes > 2 ^ 48 := by
      rw [hinb]
      have h1 : Builtin.nextslicecap (len + n) cap * te.bytes ≤ (2 * (len + n) + 1024) * te.bytes := Nat.mul_le_mul_right _ hnsc
      have h2 : te.bytes ≤ 4294967296 := by
        have : 1 * (te.bytes + 1) ≤ (len + n) * (te.bytes + 1) := Nat.mul_le_mul_right _ (by omega)
        omega
      have h3 : (2 * (len + n) + 1024) * te.bytes = 2 * ((len + n) * te.bytes) + 1024 * te.bytes := by rw [Nat.add_mul, Nat.mul_assoc]
      have h4 : (2 : Nat) ^ 48 = 281474976710656 := by decide
      omega
    obtain ⟨newCap, hcap, hch⟩ : ∃ k, len + n ≤ k ∧ (choose (.appendCap (len + n) cap e)).run P w = .ok k { w with drawn := w.drawn + 1 } :=
      ⟨(Question.appendCap (len + n) cap e).cut (w.tape w.drawn (.appendCap (len + n) cap e)), by simp [Question.cut], by simp [choose, Sem.run, Question.forced]⟩
    obtain ⟨inf', hinf', hinb', _⟩ := run_typeInfo hok { w with drawn := w.drawn + 1 }
    have hroom' : ∀ w', (askRoom (newCap * inf'.bytes)).run P w' = .ok () w' := fun w' => by
      simp only [askRoom]
      split
      · rfl
      · rfl
    have hif : ¬ (((len + n : Nat) : Int) > IntKind.i64.max ∧ (True ∨ inf.bytes = 0)) := fun h => hmax h.1
    refine ⟨newCap, hcap, ?_⟩
    simp only [Builtin.append_, ht1, ht2, List.getElem?_toArray, List.getElem?_cons_zero, List.getElem?_cons_succ, Sem.run_bind, run_underlying hu, Result.andThen_ok, run_sizeOf hok, run_underlying hu2, Sem.run_pure, if_true, asInt, asIntOf, hw1, if_neg hn0, hinf, if_neg hbn,
      Int.toNat_natCast, if_neg hgt, if_neg hif, if_neg hbig, hch, hinf', hroom', ho, Bool.not_true, Bool.false_eq_true, if_false, happ, hz', newRow, newObj]
    rfl

theorem VRL.allCells_take {φ : Map} {vs : List V} {cs : List Value} (h : VRL φ vs cs) (ha : allCells vs = true) : ∀ c ∈ cs, Value.isCell c = true := VRL.cellsAll h ha

/-- a block behind growth: what was there, what came, room -/
theorem good_grown (h : Rel φ s w) {e : TypeId} {size need : Nat} {old new : List V} {oc xc : List Value} {z : Value} {newCap : Nat} {r : Result Next} (ho : VRL φ old oc) (hx : VRL φ new xc)
    (hlen : oc.length + xc.length = need * size) (hz : z.cells.size = size) (hcap : need ≤ newCap)
    (hr : r = .ok (.value (.slice (some ⟨w.heap.size, 0, none⟩) need newCap)) { w with heap := w.heap.push (.cells (oc.toArray ++ xc.toArray ++ Builtin.zeroCells z.cells (newCap - need)) e), drawn := w.drawn + 1 }) :
    Good P φ s w (appendNew size old new need) r := by
  unfold appendNew
  have harr : (oc.toArray ++ xc.toArray ++ Builtin.zeroCells z.cells (newCap - need)).size = newCap * size := by
    simp [Builtin.zeroCells, hz]
    rw [hlen, ← Nat.add_mul]
    congr 1
    omega
  have key := good_new (P := P) (φ := φ) (s := s) (w := { w with drawn := w.drawn + 1 }) (o := .cells (old ++ new) size false) (ob := .cells (oc.toArray ++ xc.toArray ++ Builtin.zeroCells z.cells (newCap - need)) e)
    (l := ⟨w.heap.size, 0, newCap, size, false⟩) (f := fun id => retV (.slice (some (id, 0)) need (.opn 0))) (r := r) (h.drawn _) rfl ?_ ?_
  · exact good_step (Keep.drawn φ w _) key
  · refine ⟨_, e, (0, 0), rfl, fun j c hj => ?_, fun _ => ⟨rfl, by rw [harr]; simp⟩, fun _ => ⟨rfl, fun j _ _ => by simp⟩⟩
    obtain ⟨x, hx', hv⟩ := VRL.get ((ho.append hx)) hj
    refine ⟨x, ?_, VR.mono (Map.upd_ext h.fresh) _ _ hv⟩
    have hjl := (List.getElem?_eq_some_iff.1 hx').1
    simp only [Nat.zero_add]
    rw [Array.getElem?_append_left (by simpa using hjl)]
    simpa using hx'
  · intro hrel
    exact good_retV hrel hr ⟨_, Map.upd_self, rfl⟩

theorem allCells_of {vs : List V} (h : allCells vs = true) : ∀ v ∈ vs, v.isCell = true := by
  induction vs with
  | nil => simp
  | cons v vs ih =>
    simp only [allCells] at h
    cases hv : v.isCell with
    | false => simp [hv] at h
    | true =>
      simp only [hv, cond_true] at h
      intro x hx
      rcases List.mem_cons.1 hx with rfl | hx
      · exact hv
      · exact ih h x hx

theorem drawn_eta (w : World) : ({ w with drawn := w.drawn } : World) = w := rfl

/-- growth in place, beyond what is known of the block: the old number is gone -/
theorem good_inplace (h : Rel φ s w) {id off size len n skip opn : Nat} {cs old new : List V} {l : Loc} {xs : List Value} {r : Result Next} (hl : φ id = some l) (ho : s.h.get id = some (.cells cs opn false))
    (hopn : opn = size) (hsz : size ≠ 0) (hoff : off = skip * size) (hold : takeN (len * size) (dropN off cs) = some old) (hv : VRL φ new xs) (hxl : xs.length = n * size) (hle : len + n ≤ l.ccap - skip) (hpos : 1 ≤ len + n) (hcells : ∀ c ∈ xs, Value.isCell c = true)
    (hr : ∀ w', (storeCells ⟨l.blk, l.base + off + len * size, none⟩ xs).run P w = .ok () w' → r = .ok (.value (.slice (some ⟨l.blk, l.base + off, none⟩) (len + n) (l.ccap - skip))) w') :
    ∀ o s', (appendNew size old new (len + n)).eval ((s.rd id).wr id none) = some (o, s') → ∃ φ' w', Rel φ' s' w' ∧ Keep φ w φ' w' ∧ ORok P φ' w' r o := by
  intro o s' e
  obtain ⟨l', hl', hob⟩ := h.obj _ _ ho
  rw [hl] at hl'; cases hl'
  obtain ⟨arr, elem, fz, hb, hcs, hop, hrof⟩ := hob
  obtain ⟨hro, hfr⟩ := hrof rfl
  obtain ⟨hz1, hz2⟩ := hop (by omega)
  obtain ⟨hrow, hrle⟩ := VRL_of_cells hcs
  have hd := VRL.dropN (n := off) hrow
  obtain ⟨hov, holen⟩ := VRL.takeN hd hold
  have hin : l.base + off + len * size + n * size ≤ arr.size := by
    rw [hz2, hz1, hopn, hoff]
    have : (skip + (len + n)) * size ≤ l.ccap * size := by
      exact Nat.mul_le_mul_right _ (by omega)
    rw [Nat.add_mul, Nat.add_mul] at this
    omega
  have hst : (storeCells ⟨l.blk, l.base + off + len * size, none⟩ xs).run P w = .ok () (w.setCells l.blk (l.base + off + len * size) xs) := by
    have := run_storeCells_cells (P := P) l.blk (l.base + off + len * size) xs 0 w (fun j hj => by
      rw [cell?_of hb, Nat.add_zero]; simp; omega) (fun j hj => by
      rw [frozen?_of hb, Nat.add_zero]
      have := hfr (l.base + off + len * size + j) (by omega) (by omega)
      simp only [Bool.and_eq_false_iff, decide_eq_false_iff_not]
      omega) (fun v hv => oneCell_of (hcells v hv))
    simpa using this
  obtain ⟨h1, h2, h3, h4, h5, h6⟩ := setCells_heap l.blk xs (l.base + off + len * size) w arr elem fz hb
  have hr' := hr _ hst
  simp only [appendNew, Q.eval, retV, Option.some.injEq, Prod.mk.injEq] at e
  obtain ⟨rfl, rfl⟩ := e
  have hsn : ((s.rd id).wr id none).n = s.n := rfl
  have hfresh : φ s.n = none := h.fresh
  refine ⟨φ.upd s.n ⟨l.blk, l.base + off, l.ccap - skip, size, false⟩, _, ((h.rd id).kill id).new (w' := w.setCells l.blk (l.base + off + len * size) xs) (l := ⟨l.blk, l.base + off, l.ccap - skip, size, false⟩) (by omega) (by rw [h3]; have := h.bnd _ _ hl; exact this) ?_ ?_ ?_, ?_, ?_⟩
  · intro i k hk hi hblk
    simp only [S.wr, S.rd, Tr.get_put] at hi
    split at hi
    · exact hi rfl
    · rename_i hne
      rcases h.inj i id k l hk hl hi (by simp [ho]) hblk with e | ⟨_, e⟩
      · exact hne e
      · rw [hro] at e; cases e
  · intro i k hk hi
    refine h2 _ fun hblk => ?_
    simp only [S.wr, S.rd, Tr.get_put] at hi
    split at hi
    · exact hi rfl
    · rename_i hne
      rcases h.inj i id k l hk hl hi (by simp [ho]) hblk with e | ⟨_, e⟩
      · exact hne e
      · rw [hro] at e; cases e
  · refine ⟨_, elem, fz, h1, fun j c hj => ?_, fun _ => ⟨rfl, ?_⟩, fun _ => ⟨rfl, fun j hj1 hj2 => hfr j (Nat.le_trans (Nat.le_add_right _ _) hj1) (by rwa [setMany_size] at hj2)⟩⟩
    · rw [setMany_get]
      have hol : old.length = len * size := by
        have := VRL.length hov
        rw [this]
        simp at holen ⊢
        omega
      by_cases hjo : j < len * size
      · rw [List.getElem?_append_left (by omega)] at hj
        obtain ⟨x, hx, hvr⟩ := VRL.get hov hj
        refine ⟨x, ?_, VR.mono (Map.upd_ext hfresh) _ _ hvr⟩
        dsimp only
        rw [if_neg (by omega)]
        rw [List.getElem?_take_of_lt hjo, List.getElem?_drop] at hx
        have hlt : off + j < cs.length := by
          have := (List.getElem?_eq_some_iff.1 hx).1
          simp at this; omega
        rw [List.getElem?_take_of_lt hlt, List.getElem?_drop] at hx
        rw [← hx, Nat.add_assoc]
        simp
      · rw [List.getElem?_append_right (by omega)] at hj
        obtain ⟨x, hx, hvr⟩ := VRL.get hv hj
        refine ⟨x, ?_, VR.mono (Map.upd_ext hfresh) _ _ hvr⟩
        have hjl := (List.getElem?_eq_some_iff.1 hx).1
        dsimp only
        rw [if_pos (by omega), ← hx]
        congr 1; omega
    · rw [setMany_size, hz2, hz1, hopn, hoff]
      dsimp only
      rw [Nat.sub_mul]
      have : skip * size ≤ l.ccap * size := by
        have h7 := hin
        rw [hz2, hz1, hopn] at h7
        omega
      omega
  · refine ⟨Map.upd_ext hfresh, by omega, fun b _ hrr => ?_, fun i k hk => ?_, h4, h5, h6, rfl, fun i k hk => ?_⟩
    · by_cases hbl : b = l.blk
      · subst hbl
        have := hrr id l hl rfl
        rw [hro] at this; cases this
      · exact h2 b hbl
    · simp only [Map.upd] at hk
      split at hk
      · cases hk; exact .inl ⟨id, l, hl, rfl, fun _ => hro⟩
      · exact .inl ⟨i, k, hk, rfl, fun h => h⟩
    · simp only [Map.upd] at hk
      split at hk
      · cases hk; exact .inr rfl
      · exact .inl hk
  · refine .inl ⟨_, hr', _, Map.upd_self, ?_⟩
    simp [Cap.conc]

theorem good_appendAt (hE : EnvOk E P) (h : Rel φ s w) {e : TypeId} {te : TI} {ts : Array TypeId} {ty : TypeId} {a : Option (Nat × Nat)} {len n : Nat} {cap : Cap} {c d : Value} {new : List V} {xs : List Value}
    (hte : E.ty e = some te) (hx : VR φ (.slice a len cap) c) (hv : VRL φ new xs) (hxl : xs.length = n * te.size) (hA : AppIn P e w te.size te.bytes ts ty c d n xs) :
    Good P φ s w (appendAt te a len cap n new) ((do pure (.value (← Builtin.append_ ts ty #[c, d])) : Sem Next).run P w) := by
  have hok := hE.ty _ _ hte
  unfold appendAt
  cases hroom : roomOk (len + n) te.bytes with
  | false => exact good_fail
  | true =>
    have hroom' := roomOk_spec hroom
    simp only [cond_true]
    cases hnm : noMore n len cap with
    | true =>
      simp only [cond_true]
      cases cap with
      | opn k => simp [noMore] at hnm
      | exact k =>
        simp only [noMore, Bool.and_eq_true] at hnm
        obtain ⟨h1, h2⟩ := hnm
        have h1' := Nat.eq_of_beq_eq_true h1
        have h2' := Nat.le_of_ble_eq_true h2
        subst h1'
        have hxs : xs = [] := List.eq_nil_of_length_eq_zero (by simpa using hxl)
        subst hxs
        cases a with
        | none =>
          obtain ⟨m, hm, rfl⟩ := hx
          cases hm
          exact good_retV h (run_v (hA.room none len k rfl (by omega) () w rfl)) ⟨k, rfl, rfl⟩
        | some p =>
          obtain ⟨l, hl, rfl⟩ := hx
          exact good_retV h (run_v (hA.room _ len k rfl (by omega) () w (by simp [storeCells]))) ⟨l, hl, rfl⟩
    | false =>
      simp only [cond_false]
      cases hall : allCells new with
      | false => exact good_fail
      | true =>
        simp only [cond_true]
        cases hsz : Nat.beq te.size 0 with
        | true => exact good_fail
        | false =>
          simp only [cond_false]
          have hsz' : te.size ≠ 0 := fun e => by rw [e] at hsz; simp at hsz
          obtain ⟨z, hz, hz1, _⟩ := run_zeroValue hok w
          have hzall : ∀ dr, (zeroValue e).run P { w with drawn := dr } = .ok z { w with drawn := dr } := fun dr => by
            obtain ⟨i, z', hi, _, _, hz', _⟩ := hok.info
            have e1 : ∀ w : World, (zeroValue e).run P w = .ok z' w := fun w => by simp [zeroValue, typeInfo, hi, hz']
            have : z = z' := by have := hz.symm.trans (e1 w); cases this; rfl
            subst this
            exact e1 _
          have hzs : z.cells.size = te.size := by
            have := VRL.length (φ := φ) (by rw [hz1]; exact (VR_ofV φ z).cells : VRL φ te.zero z.cells.toList)
            rw [hok.len] at this
            simpa using this.symm
          have hcells := VRL.cellsAll hv hall
          unfold appendOn
          split
          · -- nil
            split
            · cases hl0 : Nat.beq len 0 with
              | false => exact good_fail
              | true =>
                simp only [cond_true]
                have hl0' := Nat.eq_of_beq_eq_true hl0
                subst hl0'
                obtain ⟨m, hm, rfl⟩ := hx
                cases hm
                by_cases hn : n = 0
                · subst hn; simp [noMore] at hnm
                · obtain ⟨newCap, hc1, hc2⟩ := hA.grow none 0 0 #[] z rfl (by omega) (by simpa using hroom') (fun dr => by simp [Builtin.firstCells]) hzall
                  refine good_grown (e := e) (oc := []) (xc := xs) (newCap := newCap) h rfl hv (by simp [hxl]) hzs (by omega) ?_
                  have := run_v hc2
                  simpa using this
            · exact good_fail
          · rename_i id off
            obtain ⟨l, hl, rfl⟩ := hx
            refine good_rd fun o ho => ?_
            split
            · rename_i cs opn ro
              obtain ⟨l', hl', hob⟩ := h.obj _ _ ho
              rw [hl] at hl'; cases hl'
              have hold : ∀ old, takeN (len * te.size) (dropN off cs) = some old → ∃ oc : List Value, (∀ dr, (Builtin.firstCells te.size len (.slice (some ⟨l.blk, l.base + off, none⟩) len (cap.conc l))).run P { w with drawn := dr } = .ok oc.toArray { w with drawn := dr }) ∧ VRL φ old oc ∧ oc.length = len * te.size := fun old hold => by
                obtain ⟨oc, h1, h2, h3⟩ := run_row_of (P := P) hob hold
                exact ⟨oc, fun dr => by simpa [Builtin.firstCells] using h1 dr, h2, h3⟩
              have growth : ∀ (φ' : Map) (s' : S) old, Rel φ' s' w → (∀ i k, φ i = some k → φ' i = some k) → takeN (len * te.size) (dropN off cs) = some old → ¬ len + n ≤ cap.conc l →
                  Good P φ' s' w (appendNew te.size old new (len + n)) ((do pure (.value (← Builtin.append_ ts ty #[.slice (some ⟨l.blk, l.base + off, none⟩) len (cap.conc l), d])) : Sem Next).run P w) := fun φ' s' old hs' hφ' htake hgt => by
                obtain ⟨oc, h1, h2, h3⟩ := hold old htake
                obtain ⟨newCap, hc1, hc2⟩ := hA.grow _ len (cap.conc l) oc.toArray z rfl hgt hroom' h1 hzall
                exact good_grown hs' (VRL.mono hφ' _ _ h2) (VRL.mono hφ' _ _ hv) (by rw [h3, hxl, Nat.add_mul]) hzs hc1 (run_v hc2)
              split
              · rename_i k
                cases hle : Nat.ble (len + n) k with
                | true =>
                  have hle' := Nat.le_of_ble_eq_true hle
                  simp only [cond_true]
                  cases ro with
                  | true => exact good_fail
                  | false =>
                    simp only [cond_false]
                    split
                    · rename_i cs' hcs'
                      obtain ⟨w', hr, h1, h2, h3, h4, h5, h6⟩ := run_storeCells_of (P := P) hob hcs' hv hcells
                      have hro : l.ro = false := by obtain ⟨_, _, _, _, _, _, hro⟩ := hob; exact (hro rfl).1
                      intro o s'' e'
                      simp only [Q.eval, retV, Option.some.injEq, Prod.mk.injEq] at e'
                      obtain ⟨rfl, rfl⟩ := e'
                      refine ⟨φ, w', (h.rd id).wr hl hro (show (s.rd id).h.get id ≠ none by show s.h.get id ≠ none; simp [ho]) h1 h2 h3, Keep.wr hl hro h1 h2 h4 h5 h6, .inl ⟨_, run_v (hA.room _ len k rfl hle' () w' ?_), l, hl, rfl⟩⟩
                      simpa [addr_add, Nat.add_assoc] using hr
                    · exact good_fail
                | false =>
                  simp only [cond_false]
                  have hgt : ¬ len + n ≤ k := fun hle' => by rw [Nat.ble_eq_true_of_le hle'] at hle; cases hle
                  split
                  · rename_i old hold'
                    exact growth φ _ old (h.rd id) (fun _ _ h => h) hold' hgt
                  · exact good_fail
              · rename_i skip
                cases ro with
                | true => exact good_fail
                | false =>
                  simp only [cond_false]
                  have hro : l.ro = false := by obtain ⟨_, _, _, _, _, _, hro⟩ := hob; exact (hro rfl).1
                  split
                  · rename_i cs' hcs'
                    cases hg : not (and (Nat.beq opn te.size) (Nat.beq off (skip * te.size))) with
                    | true => exact good_fail
                    | false =>
                      simp only [cond_false]
                      simp only [Bool.not_eq_false', Bool.and_eq_true] at hg
                      have hg2' := Nat.eq_of_beq_eq_true hg.1
                      have hg3' := Nat.eq_of_beq_eq_true hg.2
                      have hle' : len + n ≤ l.ccap - skip := by
                        obtain ⟨arr, elem, fz, hbk, hcs, hop, _⟩ := hob
                        obtain ⟨hz1, hz2⟩ := hop (by omega)
                        obtain ⟨_, hle⟩ := VRL_of_cells hcs
                        obtain ⟨_, hsp⟩ := splice_spec hcs'
                        have hl1 := VRL.length hv
                        have h1 : cs.length ≤ l.ccap * te.size := by
                          rcases hle with hle | hle
                          · rw [hz2, hz1, hg2'] at hle; omega
                          · subst hle; simp
                        have h2 : (len + n) * te.size ≤ (l.ccap - skip) * te.size := by
                          rw [Nat.sub_mul, Nat.add_mul, ← hg3']
                          omega
                        exact Nat.le_of_mul_le_mul_right h2 (by omega)
                      obtain ⟨w', hr, h1, h2, h3, h4, h5, h6⟩ := run_storeCells_of (P := P) hob hcs' hv hcells
                      intro o s'' e'
                      simp only [Q.eval, retV, Option.some.injEq, Prod.mk.injEq] at e'
                      obtain ⟨rfl, rfl⟩ := e'
                      refine ⟨φ, w', (h.rd id).wr hl hro (show (s.rd id).h.get id ≠ none by show s.h.get id ≠ none; simp [ho]) h1 h2 h3, Keep.wr hl hro h1 h2 h4 h5 h6, .inl ⟨_, run_v (hA.room _ len _ rfl hle' () w' ?_), l, hl, rfl⟩⟩
                      simpa [addr_add, Nat.add_assoc] using hr
                  · cases hg : and (Nat.ble 1 (len + n)) (and (Nat.beq opn te.size) (Nat.beq off (skip * te.size))) with
                    | false => exact good_fail
                    | true =>
                      simp only [cond_true]
                      simp only [Bool.and_eq_true] at hg
                      have hg1' := Nat.le_of_ble_eq_true hg.1
                      have hg2' := Nat.eq_of_beq_eq_true hg.2.1
                      have hg3' := Nat.eq_of_beq_eq_true hg.2.2
                      split
                      · rename_i old hold'
                        by_cases hle' : len + n ≤ l.ccap - skip
                        · -- in place, beyond what is known
                          refine good_inplace h hl ho hg2' hsz' hg3' hold' hv hxl hle' hg1' hcells fun w' hst => run_v (hA.room _ len _ rfl hle' () w' ?_)
                          simpa [addr_add] using hst
                        · intro o s'' e'
                          exact growth φ ((s.rd id).wr id none) old ((h.rd id).kill id) (fun _ _ h => h) hold' hle' o s'' e'
                      · exact good_fail
            · exact good_fail

end
end Go.AM

namespace Go.AM
open Go

section
variable {P : Program} {φ : Map} {s : S} {w : World} {E : Env}

theorem keyEq_plain {kt : TypeId} {k k' : V} {b : Bool} (h : keyEq E kt k k' = some b) (hp : plainKey (E.desc kt) = true) : ∃ d, E.desc kt = some d ∧ plainKey (some d) = true := by
  cases hd : E.desc kt with
  | none => rw [hd] at hp; simp [plainKey] at hp
  | some d => exact ⟨d, rfl, by rw [hd] at hp; exact hp⟩

/-- what keyEq says is what the model asks first -/
theorem keyEq_same {kt : TypeId} {d : TypeDesc} {k k' : V} {b : Bool} {c c' : Value} (hd : E.desc kt = some d) (hp : plainKey (some d) = true) (h : keyEq E kt k k' = some b) (hk : VR φ k c) (hk' : VR φ k' c') : Instr.sameNow d c c' = some b := by
  unfold keyEq at h
  rw [hd] at h
  cases d <;> simp only at h <;> try (cases h; done)
  · cases k <;> try (cases h; done)
    cases k' <;> try (cases h; done)
    simp only [eqBool, Option.some.injEq] at h
    cases hk; cases hk'; subst h; rfl
  · cases k <;> try (cases h; done)
    cases k' <;> try (cases h; done)
    rename_i k1 a k2 b'
    simp only [eqInt] at h
    cases hkk : kindEq k1 k2 with
    | false => simp [hkk] at h
    | true =>
      rw [hkk, cond_true] at h
      cases h
      rw [kindEq_eq] at hkk
      have : k1 = k2 := by simpa using hkk
      subst this
      cases hk; cases hk'
      simp [Instr.sameNow, eqI_eq]
  · cases k <;> try (cases h; done)
    cases k' <;> try (cases h; done)
    simp only [eqStr, Option.some.injEq] at h
    cases hk; cases hk'; subst h
    rename_i a b'
    simp only [Instr.sameNow, eqB_eq]
    rw [beq_toListBytes, ByteArray.toList_eq, ByteArray.toList_eq]
  · simp [plainKey] at hp

theorem findNow_spec {kt : TypeId} {d : TypeDesc} {k : V} {c : Value} (hd : E.desc kt = some d) (hp : plainKey (some d) = true) (hk : VR φ k c) : ∀ (es : List (V × V × Nat)) (cs : List MapEntry) (n : Nat) (r : Option (V × Nat)), EntsR φ es cs → findV (keyEq E kt k) es = some r →
    (r = none ∧ Instr.findNow d c cs n = some none ∧ ∀ v clock, setV (keyEq E kt k) k v clock es = some (es ++ [(k, v, clock)], Nat.succ clock)) ∨
    (∃ i v b e k', r = some (v, b) ∧ es[i]? = some (k', v, b) ∧ cs[i]? = some e ∧ VR φ v e.val ∧ keyEq E kt k k' = some true ∧ VR φ k' e.key ∧ Instr.findNow d c cs n = some (some (n + i, e.val)) ∧
      ∀ v' clock, setV (keyEq E kt k) k v' clock es = some (es.set i (k, v', b), clock))
  | [], cs, n, r, he, hf => by
    simp only [EntsR] at he; subst he
    simp only [findV, Option.some.injEq] at hf; subst hf
    exact .inl ⟨rfl, rfl, fun v clock => rfl⟩
  | (k', v, b) :: es, _, n, r, ⟨e, cs, rfl, ⟨h1, h2⟩, hr⟩, hf => by
    simp only [findV] at hf
    split at hf
    · rename_i hkk
      cases hf
      refine .inr ⟨0, v, b, e, k', rfl, rfl, rfl, h2, hkk, h1, ?_, fun v' clock => ?_⟩
      · simp [Instr.findNow, keyEq_same hd hp hkk hk h1]
      · simp [setV, hkk]
    · rename_i hkk
      rcases findNow_spec hd hp hk es cs (n + 1) r hr hf with ⟨g1, g2, g3⟩ | ⟨i, v1, b1, e1, k1, g1, g2, g3, g4, g5, g6, g7, g8⟩
      · refine .inl ⟨g1, by simp [Instr.findNow, keyEq_same hd hp hkk hk h1, g2], fun v' clock => ?_⟩
        simp [setV, hkk, g3 v' clock]
      · refine .inr ⟨i + 1, v1, b1, e1, k1, g1, by simpa using g2, by simpa using g3, g4, g5, g6, ?_, fun v' clock => ?_⟩
        · simp only [Instr.findNow, keyEq_same hd hp hkk hk h1, g7]
          congr 3; omega
        · simp [setV, hkk, g8 v' clock]
    · cases hf

theorem run_findKey_of (hE : EnvOk E P) {kt : TypeId} {d : TypeDesc} {c : Value} {cs : List MapEntry} {r : Option (Nat × Value)} (hd : E.desc kt = some d) (h : Instr.findNow d c cs 0 = some r) (w : World) : (Instr.findKey kt c cs).run P w = .ok r w := by
  simp [Instr.findKey, run_underlying (und_of hE hd), h]

theorem run_checkKey_plain (hE : EnvOk E P) {kt : TypeId} {d : TypeDesc} {c : Value} {n : Nat} {b : Bool} (hd : E.desc kt = some d) (hp : plainKey (some d) = true) (w : World) : (Instr.checkKey b (n + 1) kt c).run P w = .ok () w := by
  simp only [Instr.checkKey, Sem.run_bind, run_underlying (und_of hE hd), Result.andThen_ok]
  cases d <;> simp [plainKey] at hp <;> rfl

theorem run_getMap {l : Loc} {es : List (V × V × Nat)} {clock : Nat} {o : Ob} (ho : o = .map es clock true) (hob : ObB φ l o (w.heap[l.blk]?)) :
    ∃ cs : Array MapEntry, l.ro = false ∧ w.heap[l.blk]? = some (.map cs clock) ∧ (getObj l.blk).run P w = .ok (.map cs clock) w ∧ EntsR φ es cs.toList ∧ cs.toList.map (·.born) = bornsOf es := by
  subst ho
  obtain ⟨hro, cs, e1, e2, e3⟩ := hob
  exact ⟨cs, hro, e1, by simp [getObj, Sem.run, e1], e2, e3⟩

theorem good_zero {te : TI} {t : TypeId} (ht : TIok P t te) : ∃ z, (∀ w, (zeroValue t).run P w = .ok z w) ∧ VR φ (zeroOf te) z := by
  obtain ⟨i, z, hi, _, _, hz, _, h2⟩ := ht.info
  exact ⟨z, fun w => by simp [zeroValue, typeInfo, hi, hz], by rw [h2]; exact VR_ofV φ z⟩

theorem keyOk_plain {kt : TypeId} {k : V} (h : plainKey (E.desc kt) = true) : ∃ d, E.desc kt = some d ∧ plainKey (some d) = true := by
  cases hd : E.desc kt with
  | none => rw [hd] at h; simp [plainKey] at h
  | some d => exact ⟨d, rfl, by rw [hd] at h; exact h⟩

/-- a key is plain, or a struct of whole numbers -/
theorem keyOk_kind {kt : TypeId} {k : V} (h : keyOk E kt k = true) : (∃ d, E.desc kt = some d ∧ plainKey (some d) = true) ∨ ∃ fs, E.desc kt = some (.struct fs) ∧ intFields E fs.toList = true ∧ keyEqS E kt k k = some true := by
  unfold keyOk at h
  unfold keyEq at h
  cases hd : E.desc kt with
  | none => simp [hd] at h
  | some d =>
    rw [hd] at h
    cases d <;> simp only at h <;> first
      | exact .inl ⟨_, rfl, rfl⟩
      | (rename_i fs
         cases hf : intFields E fs.toList with
         | false => rw [hf] at h; simp at h
         | true =>
           rw [hf, cond_true] at h
           refine .inr ⟨fs, rfl, hf, ?_⟩
           split at h
           · rename_i b hb; subst h; exact hb
           · cases h)
      | simp at h

theorem keyEq_struct {kt : TypeId} {fs : Array Field} (hd : E.desc kt = some (.struct fs)) (hf : intFields E fs.toList = true) : keyEq E kt = keyEqS E kt := by
  unfold keyEq; rw [hd]; simp only [hf, cond_true]

theorem keyEqS_inv {kt : TypeId} {x y : V} {b : Bool} (h : keyEqS E kt x y = some b) : ∃ xs ys, x = .agg xs ∧ y = .agg ys ∧ allInt xs = true ∧ allInt ys = true ∧ eqV E 90 kt x y = some b ∧ eqFlat xs ys = some b := by
  unfold keyEqS at h
  split at h
  · rename_i xs
    split at h
    · rename_i ys
      cases ha : and (allInt xs) (allInt ys) with
      | false => rw [ha] at h; simp at h
      | true =>
        rw [ha, cond_true] at h
        rw [Bool.and_eq_true] at ha
        unfold eqBoth at h
        cases h1 : eqV E 90 kt (.agg xs) (.agg ys) with
        | none => rw [h1] at h; simp at h
        | some p =>
          cases h2 : eqFlat xs ys with
          | none => rw [h1, h2] at h; simp at h
          | some q =>
            rw [h1, h2] at h
            simp only at h
            cases p <;> cases q <;> simp at h
            · subst h; exact ⟨xs, ys, rfl, rfl, ha.1, ha.2, rfl, h2⟩
            · subst h; exact ⟨xs, ys, rfl, rfl, ha.1, ha.2, rfl, h2⟩
    · cases h
  · cases h

theorem eqFlat_int : ∀ {xs ys : List V}, allInt xs = true → eqFlat xs ys = some true → xs = ys
  | [], [], _, _ => rfl
  | [], _ :: _, _, h => by simp [eqFlat] at h
  | _ :: _, [], _, h => by simp [eqFlat] at h
  | x :: xs, y :: ys, ha, h => by
    simp only [allInt] at ha
    cases x <;> try (simp [isIntV] at ha; done)
    rename_i k n
    simp only [isIntV, cond_true] at ha
    simp only [eqFlat] at h
    cases hr : eqFlat xs ys with
    | none => rw [hr] at h; simp at h
    | some b =>
      rw [hr] at h
      simp only at h
      cases y <;> try (simp [eqInt] at h; done)
      rename_i k' m
      simp only [eqInt] at h
      cases hk : kindEq k k' with
      | false => rw [hk] at h; simp at h
      | true =>
        rw [hk, cond_true, eqI_eq] at h
        simp only [Option.some.injEq, Bool.and_eq_true, beq_iff_eq] at h
        obtain ⟨rfl, rfl⟩ := h
        rw [kindEq_eq] at hk
        have : k = k' := by simpa using hk
        subst this
        rw [eqFlat_int ha hr]

theorem asking_spec (hE : EnvOk E P) {kt : TypeId} {fs : Array Field} {k : V} {c : Value} (hd : E.desc kt = some (.struct fs)) (hf : intFields E fs.toList = true) (hk : VR φ k c) : ∀ (es : List (V × V × Nat)) (cs : List MapEntry) (n : Nat) (r : Option (V × Nat)), EntsR φ es cs → findV (keyEq E kt k) es = some r →
    (r = none ∧ (∀ w, (Instr.findAsking kt c cs n).run P w = .ok none w) ∧ ∀ v clock, setV (keyEq E kt k) k v clock es = some (es ++ [(k, v, clock)], Nat.succ clock)) ∨
    (∃ i v b e k', r = some (v, b) ∧ es[i]? = some (k', v, b) ∧ cs[i]? = some e ∧ VR φ v e.val ∧ keyEq E kt k k' = some true ∧ VR φ k' e.key ∧ (∀ w, (Instr.findAsking kt c cs n).run P w = .ok (some (n + i, e.val)) w) ∧
      ∀ v' clock, setV (keyEq E kt k) k v' clock es = some (es.set i (k, v', b), clock))
  | [], cs, n, r, he, hfd => by
    simp only [EntsR] at he; subst he
    simp only [findV, Option.some.injEq] at hfd; subst hfd
    exact .inl ⟨rfl, fun w => by simp [Instr.findAsking], fun v clock => rfl⟩
  | (k', v, b) :: es, _, n, r, ⟨e, cs, rfl, ⟨h1, h2⟩, hr⟩, hfd => by
    have heq : ∀ b, keyEq E kt k k' = some b → ∀ w, (Op.equal kt c e.key).run P w = .ok b w := fun b hb w => by
      rw [keyEq_struct hd hf] at hb
      obtain ⟨_, _, _, _, _, _, g, _⟩ := keyEqS_inv hb
      exact eqV_sound (w := w) hE 90 10000 (by omega) kt k k' c e.key b g hk h1
    simp only [findV] at hfd
    split at hfd
    · rename_i hkk
      cases hfd
      refine .inr ⟨0, v, b, e, k', rfl, rfl, rfl, h2, hkk, h1, fun w => ?_, fun v' clock => ?_⟩
      · simp [Instr.findAsking, heq _ hkk w]
      · simp [setV, hkk]
    · rename_i hkk
      rcases asking_spec hE hd hf hk es cs (n + 1) r hr hfd with ⟨g1, g2, g3⟩ | ⟨i, v1, b1, e1, k1, g1, g2, g3, g4, g5, g6, g7, g8⟩
      · refine .inl ⟨g1, fun w => by simp [Instr.findAsking, heq _ hkk w, g2], fun v' clock => ?_⟩
        simp [setV, hkk, g3 v' clock]
      · refine .inr ⟨i + 1, v1, b1, e1, k1, g1, by simpa using g2, by simpa using g3, g4, g5, g6, fun w => ?_, fun v' clock => ?_⟩
        · simp only [Instr.findAsking, Sem.run_bind, heq _ hkk w, Result.andThen_ok, Bool.false_eq_true, if_false, g7]
          congr 3; omega
        · simp [setV, hkk, g8 v' clock]
    · cases hfd

/-- where a key is, as the model looks for it -/
theorem findAny_spec (hE : EnvOk E P) {kt : TypeId} {k : V} {c : Value} (hko : keyOk E kt k = true) (hk : VR φ k c) (es : List (V × V × Nat)) (cs : List MapEntry) (r : Option (V × Nat)) (he : EntsR φ es cs) (hf : findV (keyEq E kt k) es = some r) :
    (r = none ∧ (∀ w, (Instr.findKey kt c cs).run P w = .ok none w) ∧ ∀ v clock, setV (keyEq E kt k) k v clock es = some (es ++ [(k, v, clock)], Nat.succ clock)) ∨
    (∃ i v b e k', r = some (v, b) ∧ es[i]? = some (k', v, b) ∧ cs[i]? = some e ∧ VR φ v e.val ∧ keyEq E kt k k' = some true ∧ VR φ k' e.key ∧ (∀ w, (Instr.findKey kt c cs).run P w = .ok (some (i, e.val)) w) ∧
      ∀ v' clock, setV (keyEq E kt k) k v' clock es = some (es.set i (k, v', b), clock)) := by
  rcases keyOk_kind hko with ⟨d, hd, hp⟩ | ⟨fs, hd, hfs, _⟩
  · rcases findNow_spec hd hp hk es cs 0 r he hf with ⟨g1, g2, g3⟩ | ⟨i, v1, b1, e1, k1, g1, g2, g3, g4, g5, g6, g7, g8⟩
    · exact .inl ⟨g1, fun w => run_findKey_of hE hd g2 w, g3⟩
    · rw [Nat.zero_add] at g7
      exact .inr ⟨i, v1, b1, e1, k1, g1, g2, g3, g4, g5, g6, fun w => run_findKey_of hE hd g7 w, g8⟩
  · have hkey : ∀ r', (∀ w, (Instr.findAsking kt c cs 0).run P w = .ok r' w) → (cs = [] → r' = none) → ∀ w, (Instr.findKey kt c cs).run P w = .ok r' w := fun r' hr' h0 w => by
      cases cs with
      | nil => rw [h0 rfl]; simp [Instr.findKey, run_underlying (und_of hE hd), Instr.findNow]
      | cons e cs => simp [Instr.findKey, run_underlying (und_of hE hd), Instr.findNow, Instr.sameNow, hr' w]
    rcases asking_spec hE hd hfs hk es cs 0 r he hf with ⟨g1, g2, g3⟩ | ⟨i, v1, b1, e1, k1, g1, g2, g3, g4, g5, g6, g7, g8⟩
    · exact .inl ⟨g1, hkey none g2 (fun _ => rfl), g3⟩
    · refine .inr ⟨i, v1, b1, e1, k1, g1, g2, g3, g4, g5, g6, hkey _ (fun w => by rw [g7 w, Nat.zero_add]) (fun e => by rw [e] at g3; simp at g3), g8⟩

theorem run_checkFields (hE : EnvOk E P) {n : Nat} {b : Bool} {a : Array Value} {xs ys : List V} {r : TypeId → V → V → Option Bool} (hx : VRL φ xs a.toList) : ∀ (fs : List Field), intFields E fs = true → eqFs E r xs ys fs = some true →
    ∀ w, (forIn fs PUnit.unit fun f _ => if f.name ≠ "_" then (do
      let x ← part f.type a f.offset
      Instr.checkKey b (n + 1) f.type x
      pure (ForInStep.yield PUnit.unit)) else pure (ForInStep.yield PUnit.unit) : Sem PUnit).run P w = .ok PUnit.unit w
  | [], _, _, w => by simp
  | f :: fs, hi, he, w => by
    simp only [intFields] at hi
    cases hf : isIntT (E.desc f.type) with
    | false => rw [hf] at hi; simp at hi
    | true =>
      rw [hf, cond_true] at hi
      have hd : ∃ k, E.desc f.type = some (.int k) := by
        cases hd : E.desc f.type with
        | none => rw [hd] at hf; simp [isIntT] at hf
        | some d => cases d <;> first | exact ⟨_, rfl⟩ | (rw [hd] at hf; simp [isIntT] at hf)
      obtain ⟨k, hd⟩ := hd
      simp only [eqFs] at he
      cases hn : f.name == "_" with
      | true =>
        rw [hn, cond_true] at he
        have hn' : f.name = "_" := by simpa using hn
        have := run_checkFields (n := n) (b := b) hE hx fs hi he w
        rw [List.forIn_cons, if_neg (by simp [hn'])]
        simp only [Sem.run_bind, Sem.run_pure, Result.andThen_ok]
        exact this
      | false =>
        rw [hn, cond_false] at he
        have hn' : ¬ f.name = "_" := by simpa using hn
        split at he
        · cases he
        · rename_i v hv
          have hpart : ∃ c, (part f.type a f.offset).run P w = .ok c w := by
            unfold partV at hv
            split at hv
            · cases hv
            · rename_i ti hti
              obtain ⟨c, hc, _⟩ := run_part_of (w := w) (hE.ty _ _ hti) hx hv
              exact ⟨c, hc⟩
          obtain ⟨c, hc⟩ := hpart
          have hrest : eqFs E r xs ys fs = some true := by
            split at he
            · cases he
            · split at he
              · cases he
              · cases he
              · exact he
          have := run_checkFields (n := n) (b := b) hE hx fs hi hrest w
          have hck : (Instr.checkKey b (n + 1) f.type c).run P w = .ok () w := run_checkKey_plain hE hd rfl w
          rw [List.forIn_cons, if_pos hn']
          simp only [Sem.run_bind, hc, Result.andThen_ok, hck, Sem.run_pure]
          exact this

theorem eqV_fields {d : Nat} {kt : TypeId} {fs : Array Field} {xs ys : List V} {o : Bool} (hd : E.desc kt = some (.struct fs)) (h : eqV E (d + 1) kt (.agg xs) (.agg ys) = some o) : eqFs E (eqV E d) xs ys fs.toList = some o := by
  simp only [eqV] at h
  unfold Env.desc at hd
  cases hti : E.ty kt with
  | none => rw [hti] at h; simp at h
  | some ti =>
    rw [hti] at h hd
    simp only [Option.some.injEq] at hd
    simp only [hd] at h
    cases he : ti.eqo with
    | false => rw [he] at h; simp at h
    | true => rw [he] at h; exact h

theorem run_checkStruct (hE : EnvOk E P) {n : Nat} {kt : TypeId} {fs : Array Field} {a : Array Value} {b : Bool} (hu : P.underlying kt = some (.struct fs)) {w : World}
    (h : (forIn fs.toList PUnit.unit fun f _ => if f.name ≠ "_" then (do
      let x ← part f.type a f.offset
      Instr.checkKey b n f.type x
      pure (ForInStep.yield PUnit.unit)) else pure (ForInStep.yield PUnit.unit) : Sem PUnit).run P w = .ok PUnit.unit w) : (Instr.checkKey b (n + 1) kt (.agg a)).run P w = .ok () w := by
  rw [Instr.checkKey]
  simp only [Sem.run_bind, run_underlying hu, Result.andThen_ok]
  rw [← Array.forIn_toList, h]
  simp

theorem run_checkKey_any (hE : EnvOk E P) {kt : TypeId} {k : V} {c : Value} {b : Bool} (hko : keyOk E kt k = true) (hk : VR φ k c) (w : World) : (Instr.checkKey b 10000 kt c).run P w = .ok () w := by
  rcases keyOk_kind hko with ⟨d, hd, hp⟩ | ⟨fs, hd, hfs, hkk⟩
  · exact run_checkKey_plain (n := 9999) hE hd hp w
  · obtain ⟨xs, ys, rfl, e2, _, _, heq, _⟩ := keyEqS_inv hkk
    cases e2
    obtain ⟨a, rfl, ha⟩ := hk
    have hu := und_of hE hd
    have hr := eqV_fields (d := 89) hd heq
    exact run_checkStruct (n := 9999) hE hu (run_checkFields (n := 9998) (b := b) hE ha fs.toList hfs hr w)

theorem VR_okV {ok : Bool} {v : V} {c : Value} {is : Bool} (h : VR φ v c) : VR φ (okV ok v is) (if ok then .tuple #[c, .bool is] else c) := by
  cases ok with
  | true => exact ⟨_, rfl, c, _, rfl, h, _, _, rfl, rfl, rfl⟩
  | false => exact h

theorem keyEq_ne {kt : TypeId} {k a y : V} (hp : plainKey (E.desc kt) = true) (h : keyEq E kt k a = some true) (hn : flatNe a y) : keyEq E kt k y = some false := by
  unfold keyEq at h ⊢
  cases hd : E.desc kt with
  | none => simp [hd] at h
  | some d =>
    rw [hd] at h
    cases d <;> simp only at h ⊢ <;> try (cases h; done)
    · cases k <;> try (cases h; done)
      cases a <;> try (cases h; done)
      rename_i b1 b2
      simp only [eqBool, Option.some.injEq] at h
      have : b1 = b2 := by simpa using h
      subst this
      rcases hn with hn | hn | hn
      · simp [eqInt] at hn
      · exact hn
      · simp [eqStr] at hn
    · cases k <;> try (cases h; done)
      cases a <;> try (cases h; done)
      rename_i k1 n1 k2 n2
      simp only [eqInt] at h
      cases hkk : kindEq k1 k2 with
      | false => simp [hkk] at h
      | true =>
        rw [hkk, cond_true, eqI_eq] at h
        rw [kindEq_eq] at hkk
        have h1 : k1 = k2 := by simpa using hkk
        have h2 : n1 = n2 := by simpa using h
        subst h1; subst h2
        rcases hn with hn | hn | hn
        · exact hn
        · simp [eqBool] at hn
        · simp [eqStr] at hn
    · cases k <;> try (cases h; done)
      cases a <;> try (cases h; done)
      rename_i l1 l2
      simp only [eqStr, Option.some.injEq, eqB_eq] at h
      have : l1 = l2 := by simpa using h
      subst this
      rcases hn with hn | hn | hn
      · simp [eqInt] at hn
      · simp [eqBool] at hn
      · exact hn
    · rw [hd] at hp; simp [plainKey] at hp

theorem EntsR.mem : ∀ {es : List (V × V × Nat)} {ds : List MapEntry} {e : MapEntry}, EntsR φ es ds → e ∈ ds → ∃ x ∈ es, EntR φ x e
  | [], _, _, h, he => by simp only [EntsR] at h; subst h; simp at he
  | x :: es, _, e, ⟨c, cs, rfl, h1, h2⟩, he => by
    rcases List.mem_cons.1 he with rfl | he
    · exact ⟨x, by simp, h1⟩
    · obtain ⟨y, hy, hr⟩ := EntsR.mem h2 he
      exact ⟨y, by simp [hy], hr⟩

theorem EntsR.mem' : ∀ {es : List (V × V × Nat)} {ds : List MapEntry} {x : V × V × Nat}, EntsR φ es ds → x ∈ es → ∃ e ∈ ds, EntR φ x e
  | [], _, _, _, hx => by simp at hx
  | y :: es, _, x, ⟨c, cs, rfl, h1, h2⟩, hx => by
    rcases List.mem_cons.1 hx with rfl | hx
    · exact ⟨c, by simp, h1⟩
    · obtain ⟨e, he, hr⟩ := EntsR.mem' h2 hx
      exact ⟨e, by simp [he], hr⟩

theorem findV_all {kt : TypeId} {k : V} (hpl : plainKey (E.desc kt) = true) : ∀ {es : List (V × V × Nat)} {r : Option (V × Nat)}, es.Pairwise (fun a b => flatNe a.1 b.1) → findV (keyEq E kt k) es = some r →
    (∀ x ∈ es, (keyEq E kt k x.1 = some true ∧ r = some x.2) ∨ keyEq E kt k x.1 = some false) ∧ (∀ p, r = some p → ∃ x ∈ es, keyEq E kt k x.1 = some true)
  | [], r, _, h => by
    simp only [findV, Option.some.injEq] at h
    subst h
    exact ⟨by simp, by simp⟩
  | (k', v, b) :: es, r, hp, h => by
    simp only [findV] at h
    obtain ⟨hp1, hp2⟩ := List.pairwise_cons.1 hp
    split at h
    · rename_i hkk
      cases h
      refine ⟨fun x hx => ?_, fun p _ => ⟨(k', v, b), by simp, hkk⟩⟩
      rcases List.mem_cons.1 hx with rfl | hx
      · exact .inl ⟨hkk, rfl⟩
      · exact .inr (keyEq_ne hpl hkk (hp1 x hx))
    · rename_i hkk
      obtain ⟨h1, h2⟩ := findV_all hpl hp2 h
      refine ⟨fun x hx => ?_, fun p hpp => ?_⟩
      · rcases List.mem_cons.1 hx with rfl | hx
        · exact .inr hkk
        · exact h1 x hx
      · obtain ⟨x, hx, hxk⟩ := h2 p hpp
        exact ⟨x, by simp [hx], hxk⟩
    · cases h

theorem findNow_all {d : TypeDesc} {c : Value} : ∀ (cs : List MapEntry) (n : Nat), (∀ e ∈ cs, ∃ b, Instr.sameNow d c e.key = some b) →
    ((∀ e ∈ cs, Instr.sameNow d c e.key = some false) ∧ Instr.findNow d c cs n = some none) ∨ (∃ i, ∃ e ∈ cs, Instr.sameNow d c e.key = some true ∧ Instr.findNow d c cs n = some (some (i, e.val)))
  | [], n, _ => .inl ⟨by simp, rfl⟩
  | e :: cs, n, h => by
    obtain ⟨b, hb⟩ := h e (by simp)
    cases b with
    | true => exact .inr ⟨n, e, by simp, hb, by simp [Instr.findNow, hb]⟩
    | false =>
      rcases findNow_all cs (n + 1) (fun x hx => h x (by simp [hx])) with ⟨h1, h2⟩ | ⟨i, e', he', h1, h2⟩
      · refine .inl ⟨fun x hx => ?_, by simp [Instr.findNow, hb, h2]⟩
        rcases List.mem_cons.1 hx with rfl | hx
        · exact hb
        · exact h1 x hx
      · exact .inr ⟨i, e', by simp [he'], h1, by simp [Instr.findNow, hb, h2]⟩

/-- a look-up in entries in whatever order -/
theorem find_any {kt : TypeId} {d : TypeDesc} {k : V} {c : Value} (hd : E.desc kt = some d) (hpl : plainKey (some d) = true) (hk : VR φ k c) {es : List (V × V × Nat)} {ds cs : List MapEntry} {r : Option (V × Nat)} (hp : ds.Perm cs) (he : EntsR φ es ds)
    (hn : es.Pairwise (fun a b => flatNe a.1 b.1)) (hf : findV (keyEq E kt k) es = some r) :
    (r = none ∧ Instr.findNow d c cs 0 = some none) ∨ (∃ (v : V) (b i : Nat) (e : MapEntry), r = some (v, b) ∧ VR φ v e.val ∧ Instr.findNow d c cs 0 = some (some (i, e.val))) := by
  obtain ⟨h1, h2⟩ := findV_all (by rw [hd]; exact hpl) hn hf
  have hall : ∀ e ∈ cs, ∃ b, Instr.sameNow d c e.key = some b := fun e hec => by
    obtain ⟨x, hx, hx1, _⟩ := he.mem (hp.mem_iff.2 hec)
    rcases h1 x hx with ⟨g, _⟩ | g
    · exact ⟨true, keyEq_same hd hpl g hk hx1⟩
    · exact ⟨false, keyEq_same hd hpl g hk hx1⟩
  rcases findNow_all cs 0 hall with ⟨g1, g2⟩ | ⟨i, e, hec, g1, g2⟩
  · cases r with
    | none => exact .inl ⟨rfl, g2⟩
    | some p =>
      obtain ⟨x, hx, hxk⟩ := h2 p rfl
      obtain ⟨e, hed, hx1, _⟩ := he.mem' hx
      have := g1 e (hp.mem_iff.1 hed)
      rw [keyEq_same hd hpl hxk hk hx1] at this
      cases this
  · obtain ⟨x, hx, hx1, hx2⟩ := he.mem (hp.mem_iff.2 hec)
    rcases h1 x hx with ⟨_, g⟩ | g
    · exact .inr ⟨x.2.1, x.2.2, i, e, g, hx2, g2⟩
    · rw [keyEq_same hd hpl g hk hx1] at g1; cases g1

theorem good_lookup (hE : EnvOk E P) (h : Rel φ s w) {t : TypeId} {x k : V} {ok : Bool} {c d : Value} (hx : VR φ x c) (hk : VR φ k d) :
    Good P φ s w (lookupAt E t x k ok) ((do pure (.value (← Instr.lookup t c d ok)) : Sem Next).run P w) := by
  unfold lookupAt
  split
  · rename_i kt et hd
    have hu := und_of hE hd
    split
    · exact good_fail
    · rename_i te hte
      have hok := hE.ty _ _ hte
      cases hko : keyOk E kt k with
      | false => exact good_fail
      | true =>
        simp only [cond_true]
        obtain ⟨z, hz, hzv⟩ := good_zero (φ := φ) hok
        split
        · cases hx
          refine good_retV h (run_v ?_) (VR_okV hzv)
          have : ∀ w, (Instr.findKey kt d []).run P w = .ok none w := fun w => by
            rcases findAny_spec (φ := φ) hE hko hk [] [] none rfl rfl with ⟨_, g, _⟩ | ⟨i, v1, b1, e1, k1, g1, _⟩
            · exact g w
            · cases g1
          simp [Instr.lookup, run_underlying hu, run_checkKey_any hE hko hk, this, hz]
        · rename_i r
          obtain ⟨l, hl, rfl⟩ := hx
          refine good_rd fun o ho => ?_
          obtain ⟨l', hl', hob⟩ := h.obj _ _ ho
          rw [hl] at hl'; cases hl'
          unfold lookupIn
          split
          · rename_i es clock ord
            cases hor : or ord (plainKey (E.desc kt)) with
            | false => exact good_fail
            | true =>
            simp only [cond_true]
            have key : ∃ cs : Array MapEntry, ∃ ck, w.heap[l.blk]? = some (.map cs ck) ∧ ∀ r, findV (keyEq E kt k) es = some r →
                (r = none ∧ ∀ w, (Instr.findKey kt d cs.toList).run P w = .ok none w) ∨ (∃ (v : V) (b i : Nat) (e : MapEntry), r = some (v, b) ∧ VR φ v e.val ∧ ∀ w, (Instr.findKey kt d cs.toList).run P w = .ok (some (i, e.val)) w) := by
              cases ord with
              | true =>
                obtain ⟨_, cs, e1, e2, _⟩ := hob
                refine ⟨cs, clock, e1, fun r hr => ?_⟩
                rcases findAny_spec hE hko hk es cs.toList r e2 hr with ⟨g1, g2, _⟩ | ⟨i, v1, b1, e1, k1, g1, _, _, g4, _, _, g7, _⟩
                · exact .inl ⟨g1, g2⟩
                · exact .inr ⟨v1, b1, i, e1, g1, g4, g7⟩
              | false =>
                obtain ⟨_, cs, ds, ck, e1, e2, e3, e4⟩ := hob
                refine ⟨cs, ck, e1, fun r hr => ?_⟩
                have hpk : plainKey (E.desc kt) = true := by simpa using hor
                cases hdk : E.desc kt with
                | none => rw [hdk] at hpk; simp [plainKey] at hpk
                | some dk =>
                  rw [hdk] at hpk
                  rcases find_any hdk hpk hk e3 e2 e4 hr with ⟨g1, g2⟩ | ⟨v, b, i, e, g1, g2, g3⟩
                  · exact .inl ⟨g1, fun w => run_findKey_of hE hdk g2 w⟩
                  · exact .inr ⟨v, b, i, e, g1, g2, fun w => run_findKey_of hE hdk g3 w⟩
            obtain ⟨cs, ck, e1, hall⟩ := key
            have hg : (getObj l.blk).run P w = .ok (.map cs ck) w := by simp [getObj, Sem.run, e1]
            split
            · rename_i v b hf
              rcases hall _ hf with ⟨g1, _⟩ | ⟨v', b', i, e, g1, g2, g3⟩
              · cases g1
              · cases g1
                refine good_retV (h.rd _) (run_v ?_) (VR_okV g2)
                simp [Instr.lookup, run_underlying hu, hg, run_checkKey_any hE hko hk, g3]
            · rename_i hf
              rcases hall _ hf with ⟨_, g2⟩ | ⟨v', b', i, e, g1, _⟩
              · refine good_retV (h.rd _) (run_v ?_) (VR_okV hzv)
                simp [Instr.lookup, run_underlying hu, hg, run_checkKey_any hE hko hk, g2, hz]
              · cases g1
            · exact good_fail
          · exact good_fail
        · exact good_fail
  · exact good_fail

end
end Go.AM

namespace Go.AM
open Go

section
variable {P : Program} {φ : Map} {s : S} {w : World} {E : Env}

/-- a map's block is written -/
theorem good_wrMap (h : Rel φ s w) {r : Nat} {l : Loc} {es : List (V × V × Nat)} {clock : Nat} {ord : Bool} {cs : Array MapEntry} {ck : Nat} {ob : Obj} {o' : Ob} {v : V} {rr : Result Next}
    (hl : φ r = some l) (hro : l.ro = false) (hs : s.h.get r ≠ none) (hh : w.heap[l.blk]? = some (.map cs ck)) (ho' : ObB φ l o' (some ob))
    (hr : ORok P φ { w with heap := w.heap.setIfInBounds l.blk ob } rr (.val v)) : Good P φ s w (.wr r o' (retV v)) rr := by
  intro o s' e
  simp only [Q.eval, retV, Option.some.injEq, Prod.mk.injEq] at e
  obtain ⟨rfl, rfl⟩ := e
  have hlt : l.blk < w.heap.size := (Array.getElem?_eq_some_iff.1 hh).1
  have hb : ∀ b, b ≠ l.blk → ({ w with heap := w.heap.setIfInBounds l.blk ob } : World).heap[b]? = w.heap[b]? := fun b hb => Array.getElem?_setIfInBounds_ne (Ne.symm hb)
  have hs' : ({ w with heap := w.heap.setIfInBounds l.blk ob } : World).heap.size = w.heap.size := Array.size_setIfInBounds
  exact ⟨φ, _, h.wr hl hro hs hs' hb (by simpa [hlt] using ho'), Keep.wr hl hro hs' hb rfl rfl rfl, hr⟩

theorem run_setObj {w : World} {b : Nat} {cs : Array MapEntry} {ck : Nat} {o : Obj} (h : w.heap[b]? = some (.map cs ck)) : (setObj b o).run P w = .ok () { w with heap := w.heap.setIfInBounds b o } := by
  simp [setObj, Sem.run, h]

theorem EntsR.append : ∀ {es fs : List (V × V × Nat)} {cs ds : List MapEntry}, EntsR φ es cs → EntsR φ fs ds → EntsR φ (es ++ fs) (cs ++ ds)
  | [], _, _, _, h, h' => by simp only [EntsR] at h; subst h; exact h'
  | _ :: _, _, _, _, ⟨c, cs, e, r, rs⟩, h' => by subst e; exact ⟨c, _, rfl, r, EntsR.append rs h'⟩

theorem EntsR.set : ∀ {es : List (V × V × Nat)} {cs : List MapEntry} {i : Nat} {x : V × V × Nat} {e : MapEntry}, EntsR φ es cs → EntR φ x e → EntsR φ (es.set i x) (cs.set i e)
  | [], _, _, _, _, h, _ => by simp only [EntsR] at h; subst h; simp [EntsR]
  | _ :: _, _, 0, x, e, ⟨c, cs, e', r, rs⟩, h => by subst e'; exact ⟨e, cs, rfl, h, rs⟩
  | _ :: _, _, i + 1, x, e, ⟨c, cs, e', r, rs⟩, h => by subst e'; exact ⟨c, _, rfl, r, EntsR.set rs h⟩

theorem bornsOf_append : ∀ (es fs : List (V × V × Nat)), bornsOf (es ++ fs) = bornsOf es ++ bornsOf fs
  | [], _ => rfl
  | _ :: es, fs => by simp [bornsOf, bornsOf_append es fs]

theorem bornsOf_eq : ∀ es : List (V × V × Nat), bornsOf es = es.map (·.2.2)
  | [] => rfl
  | _ :: es => by simp [bornsOf, bornsOf_eq es]

theorem modify_toList (cs : Array MapEntry) (i : Nat) (f : MapEntry → MapEntry) (e : MapEntry) (h : cs[i]? = some e) : (cs.modify i f).toList = cs.toList.set i (f e) := by
  apply List.ext_getElem?
  intro j
  rw [Array.getElem?_toList, Array.getElem?_modify]
  by_cases hij : i = j
  · subst hij
    rw [if_pos rfl, h]
    have : i < cs.size := (Array.getElem?_eq_some_iff.1 h).1
    simp [this]
  · rw [if_neg hij, List.getElem?_set_ne hij, Array.getElem?_toList]

/-- the same key, written again: it is the one that was there -/
theorem run_keyStays {kt : TypeId} {d : TypeDesc} {k k' : V} {c c' : Value} (hd : E.desc kt = some d) (hp : plainKey (some d) = true) (h : keyEq E kt k k' = some true) (hk : VR φ k c) (hk' : VR φ k' c') (w : World) : (Instr.keyThatStays c' c).run P w = .ok c w := by
  have : Instr.sameBits 10000 c' c = true := by
    unfold keyEq at h
    rw [hd] at h
    cases d <;> simp only at h <;> try (cases h; done)
    · cases k <;> try (cases h; done)
      cases k' <;> try (cases h; done)
      simp only [eqBool, Option.some.injEq] at h
      cases hk; cases hk'
      simp only [beq_iff_eq] at h
      subst h
      simp [Instr.sameBits]
    · cases k <;> try (cases h; done)
      cases k' <;> try (cases h; done)
      rename_i k1 n1 k2 n2
      simp only [eqInt] at h
      cases hkk : kindEq k1 k2 with
      | false => simp [hkk] at h
      | true =>
        rw [hkk, cond_true, eqI_eq] at h
        rw [kindEq_eq] at hkk
        have h1 : k1 = k2 := by simpa using hkk
        have h2 : n1 = n2 := by simpa using h
        subst h1; subst h2
        cases hk; cases hk'
        simp [Instr.sameBits]
    · cases k <;> try (cases h; done)
      cases k' <;> try (cases h; done)
      simp only [eqStr, Option.some.injEq, eqB_eq, beq_iff_eq] at h
      subst h
      cases hk; cases hk'
      simp only [Instr.sameBits]
      rw [beq_toListBytes]
      simp
    · simp [plainKey] at hp
  simp [Instr.keyThatStays, this]

theorem sameInts {φ : Map} : ∀ {xs : List V} {cs ds : List Value}, allInt xs = true → VRL φ xs cs → VRL φ xs ds → cs = ds
  | [], _, _, _, h1, h2 => by simp only [VRL] at h1 h2; rw [h1, h2]
  | x :: xs, _, _, ha, ⟨c, cs, e1, h1, r1⟩, ⟨d, ds, e2, h2, r2⟩ => by
    subst e1; subst e2
    simp only [allInt] at ha
    cases x <;> try (simp [isIntV] at ha; done)
    simp only [isIntV, cond_true] at ha
    cases h1; cases h2
    rw [sameInts ha r1 r2]

theorem ints_of {φ : Map} : ∀ {xs : List V} {cs : List Value}, allInt xs = true → VRL φ xs cs → ∀ c ∈ cs, ∃ k n, c = .int k n
  | [], _, _, h1 => by simp only [VRL] at h1; subst h1; simp
  | x :: xs, _, ha, ⟨c, cs, e1, h1, r1⟩ => by
    subst e1
    simp only [allInt] at ha
    cases x <;> try (simp [isIntV] at ha; done)
    simp only [isIntV, cond_true] at ha
    intro d hd
    rcases List.mem_cons.1 hd with rfl | hd
    · exact ⟨_, _, h1⟩
    · exact ints_of ha r1 d hd

theorem sameBits_ints {n : Nat} {a : Array Value} (h : ∀ c ∈ a.toList, ∃ k n, c = .int k n) : Instr.sameBits (n + 1) (.agg a) (.agg a) = true := by
  have key : ∀ l : List Value, (∀ c ∈ l, ∃ k n, c = Value.int k n) → ((l.zip l).all fun (x, y) => Instr.sameBits n x y) = true := by
    intro l
    induction l with
    | nil => intro _; rfl
    | cons c l ih =>
      intro h
      obtain ⟨k, m, rfl⟩ := h c List.mem_cons_self
      simp only [List.zip_cons_cons, List.all_cons, Bool.and_eq_true]
      exact ⟨by simp [Instr.sameBits], ih (fun d hd => h d (List.mem_cons_of_mem _ hd))⟩
  rw [Instr.sameBits]
  simp only [beq_self_eq_true, Bool.true_and]
  exact key _ h

theorem run_keyStays_any {kt : TypeId} {k k' : V} {c c' : Value} (hko : keyOk E kt k = true) (h : keyEq E kt k k' = some true) (hk : VR φ k c) (hk' : VR φ k' c') (w : World) : (Instr.keyThatStays c' c).run P w = .ok c w := by
  rcases keyOk_kind hko with ⟨d, hd, hp⟩ | ⟨fs, hd, hfs, _⟩
  · exact run_keyStays hd hp h hk hk' w
  · rw [keyEq_struct hd hfs] at h
    obtain ⟨xs, ys, rfl, rfl, ha, _, _, hf⟩ := keyEqS_inv h
    obtain rfl := eqFlat_int ha hf
    obtain ⟨a, rfl, h1⟩ := hk
    obtain ⟨b, rfl, h2⟩ := hk'
    have : a = b := by
      have := sameInts ha h1 h2
      exact Array.toList_inj.1 this
    subst this
    have : Instr.sameBits 10000 (.agg a) (.agg a) = true := sameBits_ints (n := 9999) (ints_of ha h1)
    simp only [Instr.keyThatStays, this, if_true, Sem.run_pure]

theorem good_mapSet (hE : EnvOk E P) (h : Rel φ s w) {t : TypeId} {x k v : V} {c d f : Value} (hx : VR φ x c) (hk : VR φ k d) (hv : VR φ v f) :
    Good P φ s w (mapSetAt E t x k v) ((do Instr.mapUpdate t c d f; pure .skip : Sem Next).run P w) := by
  unfold mapSetAt
  split
  · rename_i r
    split
    · rename_i kt et hd
      have hu := und_of hE hd
      cases hko : keyOk E kt k with
      | false => exact good_fail
      | true =>
        simp only [cond_true]
        obtain ⟨l, hl, rfl⟩ := hx
        refine good_rd fun o ho => ?_
        obtain ⟨l', hl', hob⟩ := h.obj _ _ ho
        rw [hl] at hl'; cases hl'
        unfold mapSetIn
        split
        · rename_i es clock
          obtain ⟨cs, hro, e1, e2, e3, e4⟩ := run_getMap (P := P) rfl hob
          split
          · rename_i es' clock' hset
            have hfind : ∃ r, findV (keyEq E kt k) es = some r := by
              have : ∀ (es : List (V × V × Nat)) p, setV (keyEq E kt k) k v clock es = some p → ∃ r, findV (keyEq E kt k) es = some r := by
                intro es
                induction es with
                | nil => intro p _; exact ⟨none, rfl⟩
                | cons x es ih =>
                  intro p hp
                  obtain ⟨k', v', b⟩ := x
                  simp only [setV] at hp
                  simp only [findV]
                  split at hp
                  · exact ⟨_, rfl⟩
                  · split at hp
                    · rename_i l c hlc; exact ih _ hlc
                    · cases hp
                  · cases hp
              exact this es _ hset
            obtain ⟨rr, hrr⟩ := hfind
            rcases findAny_spec hE hko hk es cs.toList rr e3 hrr with ⟨g1, g2, g3⟩ | ⟨i, v1, b1, e', k1, g1, g2, g3, g4, g5, g6, g7, g8⟩
            · have := hset.symm.trans (g3 v clock)
              simp only [Option.some.injEq, Prod.mk.injEq] at this
              obtain ⟨rfl, rfl⟩ := this
              refine good_wrMap (h.rd _) (es := es) (clock := clock) (ord := true) hl hro (show s.h.get r ≠ none by simp [ho]) e1 (ob := .map (cs.push { key := d, val := f, born := clock }) (clock + 1)) ⟨hro, _, rfl, ?_, ?_⟩ (.inr ⟨run_u ?_, #[], rfl, rfl⟩)
              · rw [Array.toList_push]
                exact e3.append ⟨_, [], rfl, ⟨hk, hv⟩, rfl⟩
              · rw [Array.toList_push, List.map_append, e4, bornsOf_append]; rfl
              · simp [Instr.mapUpdate, run_underlying hu, e2, run_checkKey_any hE hko hk, g2, run_setObj e1]
            · have := hset.symm.trans (g8 v clock)
              simp only [Option.some.injEq, Prod.mk.injEq] at this
              obtain ⟨rfl, rfl⟩ := this
              have hi : cs[i]? = some e' := by simpa using g3
              have hb : e'.born = b1 := by
                have h1 : (cs.toList.map (·.born))[i]? = some e'.born := by simp [hi]
                rw [e4, bornsOf_eq] at h1
                simp [g2] at h1
                exact h1.symm
              refine good_wrMap (h.rd _) (es := es) (clock := clock') (ord := true) hl hro (show s.h.get r ≠ none by simp [ho]) e1 (ob := .map (cs.modify i fun e => { e with key := d, val := f }) clock') ⟨hro, _, rfl, ?_, ?_⟩ (.inr ⟨run_u ?_, #[], rfl, rfl⟩)
              · rw [modify_toList cs i _ e' hi]
                exact e3.set ⟨hk, hv⟩
              · rw [modify_toList cs i _ e' hi, List.map_set, e4, bornsOf_eq, bornsOf_eq, List.map_set]
                dsimp only
                rw [hb]
              · simp [Instr.mapUpdate, run_underlying hu, e2, run_checkKey_any hE hko hk, g7, hi, run_keyStays_any (P := P) hko g5 hk g6, run_setObj e1]
          · exact good_fail
        · exact good_fail
    · exact good_fail
  · exact good_fail

end
end Go.AM

namespace Go.AM
open Go

section
variable {P : Program} {φ : Map} {s : S} {w : World} {E : Env}

theorem noEntry_spec {es : List (V × V × Nat)} (h : noEntry es = true) : es = [] := by
  cases es with
  | nil => rfl
  | cons _ _ => simp [noEntry] at h

/-- a key that is not there is not the same as any -/
theorem findV_none {kt : TypeId} {k : V} : ∀ {es : List (V × V × Nat)}, findV (keyEq E kt k) es = some none → ∀ x ∈ es, keyEq E kt k x.1 = some false
  | [], _ => by simp
  | (k', v, b) :: es, h => by
    simp only [findV] at h
    split at h
    · cases h
    · rename_i hkk
      intro x hx
      rcases List.mem_cons.1 hx with rfl | hx
      · exact hkk
      · exact findV_none h x hx
    · cases h

theorem flatNe_of {kt : TypeId} {k y : V} (hp : plainKey (E.desc kt) = true) (h : keyEq E kt k y = some false) : flatNe y k := by
  unfold keyEq at h
  cases hd : E.desc kt with
  | none => simp [hd] at h
  | some d =>
    rw [hd] at h
    cases d <;> simp only at h <;> try (cases h; done)
    · cases k <;> try (cases h; done)
      cases y <;> try (cases h; done)
      simp only [eqBool, Option.some.injEq] at h
      refine .inr (.inl ?_)
      simp only [eqBool, Option.some.injEq]
      rw [← h]
      exact Bool.beq_comm
    · cases k <;> try (cases h; done)
      cases y <;> try (cases h; done)
      rename_i k1 n1 k2 n2
      simp only [eqInt] at h
      cases hkk : kindEq k1 k2 with
      | false => simp [hkk] at h
      | true =>
        rw [hkk, cond_true, eqI_eq] at h
        rw [kindEq_eq] at hkk
        have h1 : k1 = k2 := by simpa using hkk
        subst h1
        refine .inl ?_
        simp only [eqInt, kindEq_eq, decide_true, cond_true, eqI_eq, Option.some.injEq]
        have : ¬ n1 = n2 := by simpa using h
        simp [Ne.symm this]
    · cases k <;> try (cases h; done)
      cases y <;> try (cases h; done)
      simp only [eqStr, Option.some.injEq, eqB_eq] at h
      refine .inr (.inr ?_)
      simp only [eqStr, Option.some.injEq, eqB_eq]
      rename_i l1 l2
      have : ¬ l1 = l2 := by simpa using h
      simp [Ne.symm this]
    · rw [hd] at hp; simp [plainKey] at hp

theorem good_insert (hE : EnvOk E P) (h : Rel φ s w) {t : TypeId} {x k v : V} {c d f : Value} (hx : VR φ x c) (hk : VR φ k d) (hv : VR φ v f) :
    Good P φ s w (insertAt E t x k v) ((do Instr.mapUpdate t c d f; pure .skip : Sem Next).run P w) := by
  unfold insertAt
  split
  · rename_i r
    split
    · rename_i kt et hd
      have hu := und_of hE hd
      cases hko : and (plainKey (E.desc kt)) (keyOk E kt k) with
      | false => exact good_fail
      | true =>
        simp only [cond_true]
        obtain ⟨dk, hdk, hpl⟩ := keyOk_plain (k := k) (by simp only [Bool.and_eq_true] at hko; exact hko.1)
        obtain ⟨l, hl, rfl⟩ := hx
        refine good_rd fun o ho => ?_
        obtain ⟨l', hl', hob⟩ := h.obj _ _ ho
        rw [hl] at hl'; cases hl'
        unfold insertIn
        split
        · rename_i es clock ord
          cases hone : and ord (not (atMost1 es)) with
          | true => exact good_fail
          | false =>
          simp only [cond_false]
          split
          · rename_i hf
            have hnew := findV_none hf
            -- the entries as they lie
            have key : ∃ cs : Array MapEntry, ∃ ck, l.ro = false ∧ w.heap[l.blk]? = some (.map cs ck) ∧ Instr.findNow dk d cs.toList 0 = some none ∧
                ObB φ l (.map (es ++ [(k, v, clock)]) (Nat.succ clock) (and ord (noEntry es))) (some (.map (cs.push { key := d, val := f, born := ck }) (ck + 1))) := by
              cases ord with
              | true =>
                obtain ⟨hro, cs, e1, e2, e3⟩ := hob
                have hfn : Instr.findNow dk d cs.toList 0 = some none := by
                  rcases findNow_spec hdk hpl hk es cs.toList 0 none e2 hf with ⟨_, g2, _⟩ | ⟨_, _, _, _, _, g1, _⟩
                  · exact g2
                  · cases g1
                refine ⟨cs, clock, hro, e1, hfn, ?_⟩
                cases hne : noEntry es with
                | true =>
                  refine ⟨hro, _, rfl, ?_, ?_⟩
                  · rw [Array.toList_push]; exact e2.append ⟨_, [], rfl, ⟨hk, hv⟩, rfl⟩
                  · rw [Array.toList_push, List.map_append, e3, bornsOf_append]; rfl
                | false =>
                  simp only [Bool.true_and, Bool.not_eq_false'] at hone
                  refine ⟨hro, _, cs.toList ++ [{ key := d, val := f, born := clock }], clock + 1, rfl, e2.append ⟨_, [], rfl, ⟨hk, hv⟩, rfl⟩, by rw [Array.toList_push], ?_⟩
                  rw [List.pairwise_append]
                  refine ⟨?_, by simp, fun a ha b hb => ?_⟩
                  · cases es with
                    | nil => simp
                    | cons x es => rw [noEntry_spec hone]; simp
                  · simp only [List.mem_singleton] at hb
                    subst hb
                    exact flatNe_of (by rw [hdk]; exact hpl) (hnew a ha)
              | false =>
                obtain ⟨hro, cs, ds, ck, e1, e2, e3, e4⟩ := hob
                have hfn : Instr.findNow dk d cs.toList 0 = some none := by
                  rcases find_any hdk hpl hk e3 e2 e4 hf with ⟨_, g⟩ | ⟨_, _, _, _, g, _⟩
                  · exact g
                  · cases g
                refine ⟨cs, ck, hro, e1, hfn, hro, _, ds ++ [{ key := d, val := f, born := ck }], ck + 1, rfl, e2.append ⟨_, [], rfl, ⟨hk, hv⟩, rfl⟩, ?_, ?_⟩
                · rw [Array.toList_push]; exact e3.append_right _
                · rw [List.pairwise_append]
                  refine ⟨e4, by simp, fun a ha b hb => ?_⟩
                  simp only [List.mem_singleton] at hb
                  subst hb
                  exact flatNe_of (by rw [hdk]; exact hpl) (hnew a ha)
            obtain ⟨cs, ck, hro, e1, hfn, hob'⟩ := key
            have hg : (getObj l.blk).run P w = .ok (.map cs ck) w := by simp [getObj, Sem.run, e1]
            refine good_wrMap (h.rd _) (es := es) (clock := clock) (ord := ord) hl hro (show s.h.get r ≠ none by simp [ho]) e1 hob' (.inr ⟨run_u ?_, #[], rfl, rfl⟩)
            simp [Instr.mapUpdate, run_underlying hu, hg, run_checkKey_plain hE hdk hpl, run_findKey_of hE hdk hfn, run_setObj e1]
          · exact good_fail
        · exact good_fail
    · exact good_fail
  · exact good_fail

theorem sameKey_of {kt : TypeId} {k k' : V} {c c' : Value} (hko : keyOk E kt k = true) (h : keyEq E kt k k' = some true) (hk : VR φ k c) (hk' : VR φ k' c') : c = c' := by
  rcases keyOk_kind hko with ⟨d, hd, hp⟩ | ⟨fs, hd, hfs, _⟩
  · have := keyEq_same hd hp h hk hk'
    cases d <;> simp [plainKey] at hp
    · cases c <;> cases c' <;> simp_all [Instr.sameNow]
    · cases c <;> cases c' <;> simp_all [Instr.sameNow]
    · cases c <;> try (simp [Instr.sameNow] at this; done)
      cases c' <;> try (simp [Instr.sameNow] at this; done)
      rename_i a b
      simp only [Instr.sameNow, Option.some.injEq] at this
      rw [beq_toListBytes] at this
      have h2 : a.toList = b.toList := by simpa using this
      rw [ByteArray.toList_eq, ByteArray.toList_eq] at h2
      obtain ⟨a⟩ := a
      obtain ⟨b⟩ := b
      have := Array.toList_inj.1 h2
      simp only at this
      rw [this]
  · rw [keyEq_struct hd hfs] at h
    obtain ⟨xs, ys, rfl, rfl, ha, _, _, hf⟩ := keyEqS_inv h
    obtain rfl := eqFlat_int ha hf
    obtain ⟨a, rfl, h1⟩ := hk
    obtain ⟨b, rfl, h2⟩ := hk'
    have : a = b := Array.toList_inj.1 (sameInts ha h1 h2)
    rw [this]

theorem good_mapEntry (hE : EnvOk E P) (h : Rel φ s w) {t : TypeId} {x k : V} {c d : Value} (hx : VR φ x c) (hk : VR φ k d) :
    Good P φ s w (mapEntryAt E t x k) ((do pure (.value (← Instr.mapEntry t c d)) : Sem Next).run P w) := by
  unfold mapEntryAt
  split
  · rename_i r
    split
    · rename_i kt et hd
      have hu := und_of hE hd
      split
      · rename_i te hte
        have hok := hE.ty _ _ hte
        cases hko : keyOk E kt k with
        | false => exact good_fail
        | true =>
          simp only [cond_true]
          obtain ⟨l, hl, rfl⟩ := hx
          obtain ⟨z, hz, hzv⟩ := good_zero (φ := φ) hok
          refine good_rd fun o ho => ?_
          obtain ⟨l', hl', hob⟩ := h.obj _ _ ho
          rw [hl] at hl'; cases hl'
          unfold mapEntryIn
          split
          · rename_i es clock
            obtain ⟨cs, hro, e1, e2, e3, e4⟩ := run_getMap (P := P) rfl hob
            split
            · rename_i v b hf
              rcases findAny_spec hE hko hk es cs.toList _ e3 hf with ⟨g1, _⟩ | ⟨i, v1, b1, e', k1, g1, g2, g3, g4, g5, g6, g7, g8⟩
              · cases g1
              · cases g1
                have hi : cs[i]? = some e' := by simpa using g3
                have hb : e'.born = b := by
                  have h1 : (cs.toList.map (·.born))[i]? = some e'.born := by simp [hi]
                  rw [e4, bornsOf_eq] at h1
                  simp [g2] at h1
                  exact h1.symm
                have hkey : d = e'.key := sameKey_of hko g5 hk g6
                have hmod : cs.modify i (fun e => { e with key := d }) = cs := by
                  apply Array.toList_inj.1
                  rw [modify_toList cs i _ e' hi]
                  have : ({ e' with key := d } : MapEntry) = e' := by rw [hkey]
                  rw [this]
                  have h3 : cs.toList[i]? = some e' := g3
                  apply List.ext_getElem?
                  intro j
                  rw [List.getElem?_set]
                  split
                  · rename_i hj; subst hj
                    rw [if_pos (List.getElem?_eq_some_iff.1 h3).1, h3]
                  · rfl
                have hset : ({ w with heap := w.heap.setIfInBounds l.blk (.map cs clock) } : World) = w := by
                  have hlt := (Array.getElem?_eq_some_iff.1 e1).1
                  have : w.heap.setIfInBounds l.blk (.map cs clock) = w.heap := by
                    apply Array.ext_getElem?
                    intro j
                    rw [Array.getElem?_setIfInBounds]
                    split
                    · rename_i hj; subst hj; rw [e1]
                    · rfl
                  rw [this]
                refine good_retV (c := .tuple #[e'.val, .int .i64 b]) (h.rd _) (run_v ?_) ⟨_, rfl, _, _, rfl, g4, _, _, rfl, rfl, rfl⟩
                simp [Instr.mapEntry, run_underlying hu, e2, run_checkKey_any hE hko hk, g7, hi, run_keyStays_any (P := P) hko g5 hk g6, run_setObj e1, goInt, hb, hmod, hset]
            · rename_i hf
              rcases findAny_spec hE hko hk es cs.toList _ e3 hf with ⟨_, g2, _⟩ | ⟨i, v1, b1, e', k1, g1, _⟩
              · refine good_wrMap (h.rd _) (es := es) (clock := clock) (ord := true) hl hro (show s.h.get r ≠ none by simp [ho]) e1 (ob := .map (cs.push { key := d, val := z, born := clock }) (clock + 1)) ⟨hro, _, rfl, ?_, ?_⟩
                  (.inl ⟨.tuple #[z, .int .i64 clock], run_v ?_, _, rfl, _, _, rfl, hzv, _, _, rfl, rfl, rfl⟩)
                · rw [Array.toList_push]
                  exact e3.append ⟨_, [], rfl, ⟨hk, hzv⟩, rfl⟩
                · rw [Array.toList_push, List.map_append, e4, bornsOf_append]; rfl
                · simp [Instr.mapEntry, run_underlying hu, e2, run_checkKey_any hE hko hk, g2, run_setObj e1, hz, goInt]
              · cases g1
            · exact good_fail
          · exact good_fail
      · exact good_fail
    · exact good_fail
  · exact good_fail

theorem bornSet_spec {b : Nat} {v : V} {f : Value} (hv : VR φ v f) : ∀ {es es' : List (V × V × Nat)} {cs : List MapEntry}, EntsR φ es cs → cs.map (·.born) = bornsOf es → bornSet b v es = some es' →
    ∃ i e, cs[i]? = some e ∧ cs.findIdx? (fun e => (e.born : Int) == (b : Int)) = some i ∧ EntsR φ es' (cs.set i { e with val := f }) ∧ bornsOf es' = bornsOf es
  | [], _, _, _, _, h => by simp [bornSet] at h
  | (k, x, c) :: es, es', _, ⟨e, cs, rfl, ⟨h1, h2⟩, hr⟩, hb, h => by
    simp only [bornSet] at h
    simp only [List.map_cons, bornsOf, List.cons.injEq] at hb
    cases hc : Nat.beq c b with
    | true =>
      rw [hc, cond_true] at h
      cases h
      have := Nat.eq_of_beq_eq_true hc
      subst this
      refine ⟨0, e, rfl, by simp [List.findIdx?_cons, hb.1], ⟨_, cs, rfl, ⟨h1, hv⟩, hr⟩, rfl⟩
    | false =>
      rw [hc, cond_false] at h
      split at h
      · rename_i l hl
        cases h
        obtain ⟨i, e', g1, g2, g3, g4⟩ := bornSet_spec hv hr hb.2 hl
        have hne : ¬ c = b := fun e => by rw [e] at hc; simp at hc
        refine ⟨i + 1, e', by simpa using g1, ?_, ⟨e, _, rfl, ⟨h1, h2⟩, g3⟩, by simp [bornsOf, g4]⟩
        have : ((e.born : Int) == (b : Int)) = false := by
          rw [hb.1]
          simp only [beq_eq_false_iff_ne, ne_eq]
          exact fun h => hne (Int.ofNat.inj h)
        simp only [List.findIdx?_cons, this, g2]
        rfl
      · cases h

theorem good_entryStore (h : Rel φ s w) {t : TypeId} {x st v : V} {c d f : Value} (hx : VR φ x c) (hst : VR φ st d) (hv : VR φ v f) :
    Good P φ s w (entryStoreAt x st v) ((do Instr.entryStore t c d f; pure .skip : Sem Next).run P w) := by
  unfold entryStoreAt
  split
  · rename_i r
    split
    · rename_i k b
      cases hst
      obtain ⟨l, hl, rfl⟩ := hx
      refine good_rd fun o ho => ?_
      obtain ⟨l', hl', hob⟩ := h.obj _ _ ho
      rw [hl] at hl'; cases hl'
      unfold entryStoreIn
      split
      · rename_i es clock
        obtain ⟨cs, hro, e1, e2, e3, e4⟩ := run_getMap (P := P) rfl hob
        split
        · rename_i es' hes
          obtain ⟨i, e, g1, g2, g3, g4⟩ := bornSet_spec hv e3 e4 hes
          have hi : cs[i]? = some e := by simpa using g1
          have hfi : cs.findIdx? (fun e => (e.born : Int) == (b : Int)) = some i := by
            rw [← Array.toArray_toList (xs := cs), List.findIdx?_toArray]; exact g2
          refine good_wrMap (h.rd _) (es := es) (clock := clock) (ord := true) hl hro (show s.h.get r ≠ none by simp [ho]) e1 (ob := .map (cs.modify i fun e => { e with val := f }) clock) ⟨hro, _, rfl, ?_, ?_⟩ (.inr ⟨run_u ?_, #[], rfl, rfl⟩)
          · rw [modify_toList cs i _ e hi]; exact g3
          · rw [modify_toList cs i _ e hi, List.map_set, e4, g4, bornsOf_eq]
            dsimp only
            have : (es.map (·.2.2))[i]? = some e.born := by rw [← bornsOf_eq, ← e4]; simp [hi]
            apply List.ext_getElem?
            intro j
            by_cases hij : i = j
            · subst hij
              rw [List.getElem?_set_self (List.getElem?_eq_some_iff.1 this).1, this]
            · rw [List.getElem?_set_ne hij]
          · simp only [Instr.entryStore, Sem.run_bind, e2, Result.andThen_ok, asInt, asIntOf, Sem.run_pure, Int.ofNat_eq_natCast, hfi, run_setObj e1]
        · exact good_fail
      · exact good_fail
    · exact good_fail
  · exact good_fail

end
end Go.AM

namespace Go.AM
open Go

section
variable {P : Program} {φ : Map} {s : S} {w : World} {E : Env}

theorem good_range (hE : EnvOk E P) (h : Rel φ s w) {t : TypeId} {x : V} {c : Value} (hx : VR φ x c) : Good P φ s w (rangeAt E t x) ((do pure (.value (← Instr.range t c)) : Sem Next).run P w) := by
  unfold rangeAt
  split
  · rename_i kt et hd
    have hu := und_of hE hd
    split
    · cases hx
      refine good_new (ob := .mapIter none 0 #[] 0) (l := ⟨w.heap.size, 0, 0, 0, false⟩) h rfl ⟨rfl, rfl, none, rfl, rfl⟩ fun hr => ?_
      exact good_retV (c := .pointer (some ⟨w.heap.size, 0, none⟩)) hr (run_v (by simp [Instr.range, run_underlying hu, newObj, Sem.run])) ⟨_, Map.upd_self, rfl⟩
    · rename_i m
      obtain ⟨l, hl, rfl⟩ := hx
      refine good_rd fun o ho => ?_
      obtain ⟨l', hl', hob⟩ := h.obj _ _ ho
      rw [hl] at hl'; cases hl'
      split
      · rename_i es clock
        obtain ⟨cs, hro, e1, e2, e3, e4⟩ := run_getMap (P := P) rfl hob
        refine good_new (ob := .mapIter (some l.blk) clock #[] clock) (l := ⟨w.heap.size, 0, 0, 0, false⟩) (h.rd _) rfl ⟨rfl, rfl, some l.blk, rfl, l, Map.upd_ext h.fresh _ _ hl, rfl⟩ fun hr => ?_
        exact good_retV (c := .pointer (some ⟨w.heap.size, 0, none⟩)) hr (run_v (by simp [Instr.range, run_underlying hu, e2, newObj, Sem.run])) ⟨_, Map.upd_self, rfl⟩
      · exact good_fail
    · exact good_fail
  · exact good_fail

theorem VR_over : VR φ overV (.tuple #[.bool false]) := ⟨_, rfl, _, _, rfl, rfl, rfl⟩

/-! a range over a map of several entries -/
/-- what may come next -/
def cands (es : Array MapEntry) (since : Nat) (seen : Array Nat) : Array (Option MapEntry) :=
  (if ((es.filter fun e => !seen.contains e.born).filter (fun e => decide (e.born < since))).isEmpty then #[none] else #[]) ++
    (((es.filter fun e => !seen.contains e.born).filter (fun e => decide (e.born < since))) ++ ((es.filter fun e => !seen.contains e.born).filter (fun e => decide (e.born ≥ since)))).map some

/-- several entries may come next -/
def Multi (w : World) (c : Value) : Prop := ∃ (blk : Nat) (m since : Nat) (seen : Array Nat) (last : Nat) (es : Array MapEntry) (clock : Nat), c = .pointer (some ⟨blk, 0, none⟩) ∧
  w.heap[blk]? = some (.mapIter (some m) since seen last) ∧ w.heap[m]? = some (.map es clock) ∧ 2 ≤ (cands es since seen).size ∧
  (!seen.isEmpty && !es.isEmpty && es.all (fun e => decide (e.born ≥ last))) = false

theorem run_nextMany {blk m since last clock : Nat} {seen : Array Nat} {es : Array MapEntry} {ty : TypeId} (h1 : w.heap[blk]? = some (.mapIter (some m) since seen last)) (h2 : w.heap[m]? = some (.map es clock))
    (h3 : (!seen.isEmpty && !es.isEmpty && es.all (fun e => decide (e.born ≥ last))) = false) :
    (Instr.next (.pointer (some ⟨blk, 0, none⟩)) false ty).run P w = (do
      match (cands es since seen)[← choose (.mapNext (cands es since seen).size)]? with
      | some (some e) =>
        setObj blk (.mapIter (some m) since (seen.push e.born) clock)
        pure (.tuple #[.bool true, e.key, e.val])
      | some none => pure (.tuple #[.bool false])
      | none => stuck "Next: no such candidate" : Sem Value).run P w := by
  have g1 : (getObj blk).run P w = .ok (.mapIter (some m) since seen last) w := by simp [getObj, Sem.run, h1]
  have g2 : (getObj m).run P w = .ok (.map es clock) w := by simp [getObj, Sem.run, h2]
  simp only [Instr.next, Sem.run_bind, g1, Result.andThen_ok, g2, h3, Bool.false_eq_true, if_false]
  rfl

theorem seenN_eq (n : Nat) : ∀ l, seenN n l = l.contains n
  | [] => rfl
  | m :: l => by
    simp only [seenN, List.contains_cons, seenN_eq n l]
    cases h : Nat.beq m n with
    | true =>
      have : m = n := by simpa using h
      subst this; simp
    | false =>
      have : ¬ n = m := fun e => by subst e; simp at h
      have : (n == m) = false := by simpa using this
      simp [this]

theorem left_rel {seen : List Nat} : ∀ {es : List (V × V × Nat)} {cs : List MapEntry}, EntsR φ es cs → cs.map (·.born) = bornsOf es → EntsR φ (leftOf seen es) (cs.filter fun e => !seen.contains e.born)
  | [], _, h, _ => by simp only [EntsR] at h; subst h; rfl
  | e :: es, _, ⟨c, cs, hc, hr, hrs⟩, hb => by
    subst hc
    simp only [List.map_cons, bornsOf, List.cons.injEq] at hb
    simp only [leftOf, seenN_eq, ← hb.1, List.filter_cons]
    cases h : seen.contains c.born with
    | true => simp only [cond_true, Bool.not_true, Bool.false_eq_true, if_false]; exact left_rel hrs hb.2
    | false => simp only [cond_false, Bool.not_false, if_true]; exact ⟨c, _, rfl, hr, left_rel hrs hb.2⟩

theorem allOld_spec {since : Nat} : ∀ {es : List (V × V × Nat)} {cs : List MapEntry}, allOld since es = true → cs.map (·.born) = bornsOf es → ∀ c ∈ cs, c.born < since
  | [], cs, _, hb => by simp only [bornsOf, List.map_eq_nil_iff] at hb; subst hb; simp
  | e :: es, cs, h, hb => by
    cases cs with
    | nil => simp [bornsOf] at hb
    | cons c cs =>
      simp only [List.map_cons, bornsOf, List.cons.injEq] at hb
      simp only [allOld] at h
      cases h1 : Nat.ble (Nat.succ e.2.2) since with
      | false => rw [h1] at h; simp at h
      | true =>
        rw [h1, cond_true] at h
        intro d hd
        rcases List.mem_cons.1 hd with rfl | hd
        · have := Nat.le_of_ble_eq_true h1
          rw [hb.1]; exact this
        · exact allOld_spec h hb.2 d hd

theorem wasThere_spec {last : Nat} {es : List (V × V × Nat)} {cs : List MapEntry} (h : wasThere last es = true) (hb : cs.map (·.born) = bornsOf es) : ∃ c ∈ cs, c.born < last := by
  cases es with
  | nil => simp [wasThere] at h
  | cons e es =>
    cases cs with
    | nil => simp [bornsOf] at hb
    | cons c cs =>
      simp only [List.map_cons, bornsOf, List.cons.injEq] at hb
      have := Nat.le_of_ble_eq_true h
      exact ⟨c, List.mem_cons_self, by rw [hb.1]; exact this⟩

theorem EntsR.get {e : V × V × Nat} : ∀ {es : List (V × V × Nat)} {cs : List MapEntry} {i : Nat}, EntsR φ es cs → es[i]? = some e → ∃ c, cs[i]? = some c ∧ EntR φ e c
  | [], _, _, _, h => by simp at h
  | e' :: es, _, 0, ⟨c, cs, hc, hr, _⟩, h => by
    subst hc; simp only [List.getElem?_cons_zero, Option.some.injEq] at h; subst h; exact ⟨c, rfl, hr⟩
  | e' :: es, _, i + 1, ⟨c, cs, hc, _, hrs⟩, h => by
    subst hc; simp only [List.getElem?_cons_succ] at h ⊢; exact EntsR.get (i := i) hrs h

theorem EntsR.len : ∀ {es : List (V × V × Nat)} {cs : List MapEntry}, EntsR φ es cs → es.length = cs.length
  | [], _, h => by simp only [EntsR] at h; subst h; rfl
  | _ :: es, _, ⟨c, cs, hc, _, hrs⟩ => by subst hc; simp [EntsR.len hrs]

theorem filter_all {α : Type} {p : α → Bool} : ∀ {l : List α}, (∀ x ∈ l, p x = true) → l.filter p = l
  | [], _ => rfl
  | x :: l, h => by simp [List.filter_cons, h x List.mem_cons_self, filter_all (fun y hy => h y (List.mem_cons_of_mem _ hy))]

theorem filter_no {α : Type} {p : α → Bool} : ∀ {l : List α}, (∀ x ∈ l, p x = false) → l.filter p = []
  | [], _ => rfl
  | x :: l, h => by simp [List.filter_cons, h x List.mem_cons_self, filter_no (fun y hy => h y (List.mem_cons_of_mem _ hy))]

theorem cands_old {cs : Array MapEntry} {since : Nat} {seen : List Nat} (h : ∀ c ∈ cs.toList, c.born < since) :
    cands cs since seen.toArray = match cs.toList.filter fun e => !seen.contains e.born with
      | [] => #[none]
      | l => (l.map some).toArray := by
  have e1 : cs.filter (fun e => !seen.toArray.contains e.born) = (cs.toList.filter fun e => !seen.contains e.born).toArray := by
    apply Array.toList_inj.1; simp
  have e2 : (cs.toList.filter fun e => !seen.contains e.born).filter (fun e => decide (e.born < since)) = cs.toList.filter fun e => !seen.contains e.born :=
    filter_all fun x hx => by simpa using h x ((List.mem_filter.1 hx).1)
  have e3 : (cs.toList.filter fun e => !seen.contains e.born).filter (fun e => decide (e.born ≥ since)) = [] :=
    filter_no fun x hx => by have := h x ((List.mem_filter.1 hx).1); simpa using this
  unfold cands
  rw [e1]
  generalize hl : (cs.toList.filter fun e => !seen.contains e.born) = l at *
  have e2' : l.toArray.filter (fun e => decide (e.born < since)) = l.toArray := by apply Array.toList_inj.1; simpa using e2
  have e3' : l.toArray.filter (fun e => decide (e.born ≥ since)) = #[] := by apply Array.toList_inj.1; simpa using e3
  rw [e2', e3']
  cases l with
  | nil => simp
  | cons c l => simp

/-- the counter of an oracle -/
def cntAt : Option Ob → Nat
  | some (.cnt c) => c
  | _ => 0

def cnt (E : Env) (s : S) : Nat := match E.oid with
  | none => 0
  | some i => cntAt (s.h.get i)

/-- the iterator goes on by one entry -/
theorem took {r lm m since clock : Nat} {l : Loc} {seen : List Nat} {e : MapEntry} {k v : V} {b : Nat} {wt : World} (h : Rel φ s wt) (hl : φ r = some l) (hro : l.ro = false) (hb : l.base = 0) (hid : s.h.get r ≠ none) (hlm : ∃ L, φ m = some L ∧ L.blk = lm)
    (h1 : ∃ ob, wt.heap[l.blk]? = some ob) (he : EntR φ (k, v, b) e) (hborn : e.born = b) :
    Rel φ (s.wr r (some (.mapIter (some m) since (seen ++ [b]) clock))) { wt with heap := wt.heap.setIfInBounds l.blk (.mapIter (some lm) since (seen.toArray.push e.born) clock) } ∧
    Keep φ wt φ { wt with heap := wt.heap.setIfInBounds l.blk (.mapIter (some lm) since (seen.toArray.push e.born) clock) } ∧ VR φ (.tuple [.bool true, k, v]) (.tuple #[.bool true, e.key, e.val]) := by
  obtain ⟨L, hL, rfl⟩ := hlm
  obtain ⟨ob, h1⟩ := h1
  have hlt : l.blk < wt.heap.size := (Array.getElem?_eq_some_iff.1 h1).1
  have hbb : ∀ b', b' ≠ l.blk → ({ wt with heap := wt.heap.setIfInBounds l.blk (.mapIter (some L.blk) since (seen.toArray.push e.born) clock) } : World).heap[b']? = wt.heap[b']? := fun b' hb' => Array.getElem?_setIfInBounds_ne (Ne.symm hb')
  have hs' : ({ wt with heap := wt.heap.setIfInBounds l.blk (.mapIter (some L.blk) since (seen.toArray.push e.born) clock) } : World).heap.size = wt.heap.size := Array.size_setIfInBounds
  refine ⟨h.wr hl hro hid hs' hbb ⟨hro, hb, some L.blk, ?_, L, hL, rfl⟩, Keep.wr hl hro hs' hbb rfl rfl rfl, _, rfl, _, _, rfl, rfl, _, _, rfl, he.1, _, _, rfl, he.2, rfl⟩
  simp [hlt, hborn]

theorem leftOf_born {seen : List Nat} : ∀ {es : List (V × V × Nat)} {cs : List MapEntry}, EntsR φ es cs → cs.map (·.born) = bornsOf es → (cs.filter fun e => !seen.contains e.born).map (·.born) = bornsOf (leftOf seen es)
  | [], _, h, _ => by simp only [EntsR] at h; subst h; rfl
  | e :: es, _, ⟨c, cs, hc, hr, hrs⟩, hb => by
    subst hc
    simp only [List.map_cons, bornsOf, List.cons.injEq] at hb
    simp only [leftOf, seenN_eq, ← hb.1, List.filter_cons]
    cases h : seen.contains c.born with
    | true => simp only [cond_true, Bool.not_true, Bool.false_eq_true, if_false]; exact leftOf_born hrs hb.2
    | false => simp only [cond_false, Bool.not_false, if_true, List.map_cons, bornsOf, leftOf_born hrs hb.2, hb.1]

theorem cnt_wr {s : S} {r : Nat} {o : Option Ob} (h1 : s.h.get r = none ∨ cntAt (s.h.get r) = 0) (h2 : cntAt o = 0) : cnt E (s.wr r o) = cnt E s := by
  unfold cnt
  split
  · rfl
  · rename_i i _
    simp only [S.wr, Tr.get_put]
    by_cases e : i = r
    · subst e
      rw [if_pos rfl, h2]
      rcases h1 with h1 | h1
      · rw [h1]; rfl
      · exact h1.symm
    · rw [if_neg e]

/-- a tape that answers a number, or the last one that there is -/
def satT (x : Nat) : Nat → Question → Nat := fun _ q => match q with
  | .mapNext k => min x (k - 1)
  | _ => x

theorem pickAt_eq : ∀ {l : List (V × V × Nat)} {n : Nat}, pickAt l n = l[min n (l.length - 1)]?
  | [], n => by simp [pickAt]
  | [e], n => by simp [pickAt]
  | e :: e' :: l, 0 => by simp [pickAt]
  | e :: e' :: l, n + 1 => by
    have ih := pickAt_eq (l := e' :: l) (n := n)
    simp only [pickAt] at ih ⊢
    rw [ih]
    have : min (n + 1) ((e :: e' :: l).length - 1) = min n ((e' :: l).length - 1) + 1 := by
      simp only [List.length_cons]; omega
    rw [this, List.getElem?_cons_succ]

/-- what a step of a range comes to: as the model says, or, where several entries may come, as the oracle says -/
theorem good_next (h : Rel φ s w) {it : V} {str : Bool} {ty : TypeId} {c : Value} (hx : VR φ it c) {o : OR} {s' : S} (he : (nextAt E it str).eval s = some (o, s')) :
    (¬ (str = false ∧ Multi w c) ∧ cnt E s' = cnt E s ∧ ∃ φ' w', Rel φ' s' w' ∧ Keep φ w φ' w' ∧ ORok P φ' w' ((do pure (.value (← Instr.next c str ty)) : Sem Next).run P w) o) ∨
    (str = false ∧ Multi w c ∧ ∃ i, E.oid = some i ∧ cnt E s' = cnt E s + 1 ∧ ∃ w' v cv, Rel φ s' w' ∧ Keep φ w φ w' ∧ o = .val v ∧ VR φ v cv ∧
      ((do pure (.value (← Instr.next c str ty)) : Sem Next).run P { w with tape := satT (E.orc (cnt E s)) } = .ok (.value cv) { w' with tape := satT (E.orc (cnt E s)) })) := by
  unfold nextAt at he
  split at he
  · rename_i r
    cases str with
    | true => simp [Q.eval] at he
    | false =>
      simp only [cond_false, Q.eval] at he
      split at he
      · rename_i ob ho
        obtain ⟨l, hl, rfl⟩ := hx
        obtain ⟨l', hl', hob⟩ := h.obj _ _ ho
        rw [hl] at hl'; cases hl'
        split at he
        · -- over nil
          rename_i since seen stepped
          simp only [Q.eval, retV, Option.some.injEq, Prod.mk.injEq] at he
          obtain ⟨rfl, rfl⟩ := he
          obtain ⟨hro, hb, m', e1, e2⟩ := hob
          simp only [optBlk] at e2; subst e2
          have hg : (getObj l.blk).run P w = .ok (.mapIter none since seen.toArray stepped) w := by simp [getObj, Sem.run, e1]
          refine .inl ⟨?_, rfl, φ, w, h.rd _, Keep.refl _ _, .inl ⟨_, run_v (by simp [Instr.next, hb, hg]), VR_over⟩⟩
          rintro ⟨_, blk, m, since', seen', last, es, clock, q1, q2, _⟩
          simp only [Value.pointer.injEq, Option.some.injEq, Addr.mk.injEq] at q1
          rw [← q1.1, e1] at q2; simp at q2
        · rename_i m since seen last
          simp only [Q.eval] at he
          split at he
          · rename_i ob' ho'
            have ho' : s.h.get m = some ob' := ho'
            obtain ⟨hro, hb, m', e1, lm, hlm, e2⟩ := hob
            subst e2
            have hg : (getObj l.blk).run P w = .ok (.mapIter (some lm.blk) since seen.toArray last) w := by simp [getObj, Sem.run, e1]
            obtain ⟨l', hl', hob'⟩ := h.obj _ _ ho'
            rw [hlm] at hl'; cases hl'
            unfold nextIn at he
            split at he
            · rename_i es clock _
              obtain ⟨cs, hro', f1, f2, f3, f4⟩ := run_getMap (P := P) rfl hob'
              have hnot : (cands cs since seen.toArray).size ≤ 1 → ¬ (false = false ∧ Multi w (.pointer (some ⟨l.blk, l.base + 0, none⟩))) := by
                rintro hsz ⟨_, blk, m1, since', seen', last', es', clock', q1, q2, q3, q4, _⟩
                simp only [Value.pointer.injEq, Option.some.injEq, Addr.mk.injEq] at q1
                rw [← q1.1, e1] at q2
                simp only [Option.some.injEq, Obj.mapIter.injEq] at q2
                obtain ⟨q2, rfl, rfl, _⟩ := q2
                rw [← q2, f1] at q3
                simp only [Option.some.injEq, Obj.map.injEq] at q3
                obtain ⟨rfl, _⟩ := q3
                omega
              -- the general step
              have many : (nextMany E r m since seen last clock es).eval ((s.rd r).rd m) = some (o, s') → 
    (¬ (false = false ∧ Multi w (.pointer (some ⟨l.blk, l.base + 0, none⟩))) ∧ cnt E s' = cnt E s ∧ ∃ φ' w', Rel φ' s' w' ∧ Keep φ w φ' w' ∧ ORok P φ' w' ((do pure (.value (← Instr.next (.pointer (some ⟨l.blk, l.base + 0, none⟩)) false ty)) : Sem Next).run P w) o) ∨
    (false = false ∧ Multi w (.pointer (some ⟨l.blk, l.base + 0, none⟩)) ∧ ∃ i, E.oid = some i ∧ cnt E s' = cnt E s + 1 ∧ ∃ w' v cv, Rel φ s' w' ∧ Keep φ w φ w' ∧ o = .val v ∧ VR φ v cv ∧
      ((do pure (.value (← Instr.next (.pointer (some ⟨l.blk, l.base + 0, none⟩)) false ty)) : Sem Next).run P { w with tape := satT (E.orc (cnt E s)) } = .ok (.value cv) { w' with tape := satT (E.orc (cnt E s)) })) := by
                intro he
                unfold nextMany at he
                cases hok : and (allOld since es) (wasThere last es) with
                | false => rw [hok] at he; simp [Q.eval] at he
                | true =>
                  rw [hok, cond_true] at he
                  rw [Bool.and_eq_true] at hok
                  have hold := allOld_spec hok.1 f4
                  obtain ⟨c0, hc0, hc0'⟩ := wasThere_spec hok.2 f4
                  have hcond : (!seen.toArray.isEmpty && !cs.isEmpty && cs.all (fun e => decide (e.born ≥ last))) = false := by
                    have : cs.all (fun e => decide (e.born ≥ last)) = false := by
                      rw [Bool.eq_false_iff]
                      intro hall
                      rw [Array.all_eq_true'] at hall
                      have := hall c0 (by simpa using hc0)
                      simp at this; omega
                    rw [this, Bool.and_false]
                  have hcand := cands_old (seen := seen) hold
                  have hleft := left_rel (seen := seen) f3 f4
                  have hb0 : l.base + 0 = 0 := by rw [hb]
                  have hrel2 : Rel φ ((s.rd r).rd m) w := (h.rd _).rd _
                  generalize hL : cs.toList.filter (fun e => !seen.contains e.born) = ls at hcand hleft
                  have hlr : s.h.get r ≠ none := by rw [ho]; simp
                  have hlb : ∀ e ∈ ls, True := fun _ _ => trivial
                  split at he
                  · -- over
                    rename_i hnil
                    rw [hnil] at hleft
                    simp only [EntsR] at hleft; subst hleft
                    simp only [Q.eval, retV, Option.some.injEq, Prod.mk.injEq] at he
                    obtain ⟨rfl, rfl⟩ := he
                    refine .inl ⟨hnot (by rw [hcand]; simp), rfl, φ, w, hrel2, Keep.refl _ _, .inl ⟨_, run_v ?_, VR_over⟩⟩
                    rw [hb0, run_nextMany e1 f1 hcond, hcand]
                    simp [choose, Sem.run, Question.forced]
                  · rename_i e0 l0 hcons
                    rw [hcons] at hleft
                    split at he
                    · -- one
                      obtain ⟨c1, cs1, rfl, hc1, hcs1⟩ := hleft
                      simp only [EntsR] at hcs1; subst hcs1
                      have hborn : c1.born = e0.2.2 := by
                        have := leftOf_born (seen := seen) f3 f4
                        rw [hL, hcons] at this
                        simpa [bornsOf] using this
                      simp only [takeEnt, Q.eval, retV, Option.some.injEq, Prod.mk.injEq] at he
                      obtain ⟨rfl, rfl⟩ := he
                      obtain ⟨t1, t2, t3⟩ := took (m := m) (since := since) (clock := clock) (seen := seen) (e := c1) (k := e0.1) (v := e0.2.1) (b := e0.2.2) hrel2 hl hro hb hlr ⟨lm, hlm, rfl⟩ ⟨_, e1⟩ hc1 hborn
                      refine .inl ⟨hnot (by rw [hcand]; simp), cnt_wr (.inr (by simp [S.rd, ho, cntAt])) (by simp [cntAt]), φ, _, t1, t2, .inl ⟨_, run_v ?_, t3⟩⟩
                      rw [hb0, run_nextMany e1 f1 hcond, hcand]
                      simp [choose, Sem.run, Question.forced, setObj, e1]
                    · -- several
                      rename_i e2 l2
                      unfold pickEnt at he
                      split at he
                      · simp [Q.eval] at he
                      · rename_i i hi
                        simp only [Q.eval] at he
                        split at he
                        · rename_i oc hoc
                          have hoc : s.h.get i = some oc := hoc
                          split at he
                          · rename_i cn _
                            split at he
                            · rename_i ee hee
                              rw [pickAt_eq] at hee
                              have hcn : cnt E s = cn := by simp [cnt, hi, hoc, cntAt]
                              obtain ⟨ce, hce, hcee⟩ := EntsR.get hleft hee
                              have hlen := EntsR.len hleft
                              have hborn : ce.born = ee.2.2 := by
                                have := leftOf_born (seen := seen) f3 f4
                                rw [hL, hcons] at this
                                have h2 := congrArg (fun l => l[min (E.orc cn) ((e0 :: e2 :: l2).length - 1)]?) this
                                simp only [bornsOf_eq, List.getElem?_map, hce, hee, Option.map_some, Option.some.injEq] at h2
                                exact h2
                              simp only [takeEnt, Q.eval, retV, Option.some.injEq, Prod.mk.injEq] at he
                              obtain ⟨rfl, rfl⟩ := he
                              have hir : i ≠ r := fun e => by rw [e, ho] at hoc; cases hoc
                              have hrel3 : Rel φ (((s.rd r).rd m).rd i |>.wr i (some (.cnt (Nat.succ cn)))) { w with drawn := w.drawn + 1 } := by
                                have hd := (hrel2.rd i).drawn (w.drawn + 1)
                                refine ⟨fun id ob hob => ?_, fun a b la lb q1 q2 q3 q4 => hd.inj a b la lb q1 q2 ?_ ?_, hd.dom, hd.bnd, hd.un⟩
                                · simp only [S.wr, Tr.get_put] at hob
                                  by_cases hid : id = i
                                  · subst hid
                                    rw [if_pos rfl] at hob
                                    cases hob
                                    exact hd.obj id (.cnt cn) hoc
                                  · rw [if_neg hid] at hob; exact hd.obj id ob hob
                                · simp only [S.wr, Tr.get_put] at q3
                                  by_cases hid : a = i
                                  · subst hid; show s.h.get a ≠ none; rw [hoc]; simp
                                  · rw [if_neg hid] at q3; exact q3
                                · simp only [S.wr, Tr.get_put] at q4
                                  by_cases hid : b = i
                                  · subst hid; show s.h.get b ≠ none; rw [hoc]; simp
                                  · rw [if_neg hid] at q4; exact q4
                              obtain ⟨t1, t2, t3⟩ := took (m := m) (since := since) (clock := clock) (seen := seen) (e := ce) (k := ee.1) (v := ee.2.1) (b := ee.2.2) hrel3 hl hro hb (by simp only [S.wr, S.rd, Tr.get_put, if_neg (Ne.symm hir)]; exact hlr) ⟨lm, hlm, rfl⟩ ⟨_, e1⟩ hcee hborn
                              refine .inr ⟨rfl, ⟨l.blk, lm.blk, since, seen.toArray, last, cs, clock, by rw [hb0], e1, f1, ?_, hcond⟩, i, hi, ?_, _, _, _, t1, (Keep.drawn φ w (w.drawn + 1)).trans t2, rfl, t3, ?_⟩
                              · rw [hcand]
                                cases ls with
                                | nil => simp at hlen
                                | cons x ls => cases ls with
                                  | nil => simp at hlen
                                  | cons y ls => simp
                              · rw [hcn]
                                simp [cnt, hi, S.wr, S.rd, Tr.get_put, hir, cntAt]
                              · rw [hcn]
                                rw [hb0]
                                have r1 := run_nextMany (P := P) (w := { w with tape := satT (E.orc cn) }) (ty := ty) (blk := l.blk) e1 f1 hcond
                                simp only [Sem.run_bind]
                                rw [r1, hcand]
                                have hsz : ls.length = (e0 :: e2 :: l2).length := hlen.symm
                                cases ls with
                                | nil => simp at hlen
                                | cons x ls =>
                                  have hn1 : ¬ (x :: ls).length ≤ 1 := by rw [hsz]; simp
                                  have hidx : ((x :: ls).map some).toArray[min (E.orc cn) (((x :: ls).map some).toArray.size - 1) % ((x :: ls).map some).toArray.size]? = some (some ce) := by
                                    have : min (E.orc cn) (((x :: ls).map some).toArray.size - 1) % ((x :: ls).map some).toArray.size = min (E.orc cn) ((e0 :: e2 :: l2).length - 1) := by
                                      rw [← hsz]
                                      have : ((x :: ls).map some).toArray.size = (x :: ls).length := by simp
                                      rw [this]
                                      exact Nat.mod_eq_of_lt (by simp only [List.length_cons]; omega)
                                    rw [this]
                                    simp only [List.getElem?_toArray, List.getElem?_map, hce, Option.map_some]
                                  have hq : (choose (.mapNext ((x :: ls).map some).toArray.size)).run P { w with tape := satT (E.orc cn) } = .ok (min (E.orc cn) (((x :: ls).map some).toArray.size - 1) % ((x :: ls).map some).toArray.size) { w with tape := satT (E.orc cn), drawn := w.drawn + 1 } := by
                                    have : ¬ ((x :: ls).map some).toArray.size ≤ 1 := by simpa using hn1
                                    have hf : (Question.mapNext ((x :: ls).map some).toArray.size).forced = false := by simpa [Question.forced] using this
                                    simp only [choose, Sem.run, hf, Bool.false_eq_true, if_false, Question.cut, satT]
                                  simp only [Sem.run_bind, hq, Result.andThen_ok, hidx]
                                  simp [setObj, Sem.run, e1]
                            · simp [Q.eval] at he
                          · simp [Q.eval] at he
                        · simp at he
              split at he
              · -- no entry
                have hcs : cs = #[] := by
                  have : cs.toList = [] := f3
                  simpa using this
                subst hcs
                simp only [Q.eval, retV, Option.some.injEq, Prod.mk.injEq] at he
                obtain ⟨rfl, rfl⟩ := he
                refine .inl ⟨hnot (by rw [cands_old (cs := #[]) (by simp)]; simp), rfl, φ, w, (h.rd _).rd _, Keep.refl _ _, .inl ⟨_, run_v ?_, VR_over⟩⟩
                simp [Instr.next, hb, hg, f2, choose, Sem.run, Question.forced]
              · rename_i k v b rest _
                split at he
                · obtain ⟨e, cs', hcs, ⟨g1, g2⟩, g3⟩ := f3
                  simp only [EntsR] at g3; subst g3
                  have hcs' : cs = #[e] := by
                    apply Array.toList_inj.1; simpa using hcs
                  subst hcs'
                  have hborn : e.born = b := by simpa [bornsOf] using f4
                  subst hborn
                  split at he
                  · -- the entry is still to come
                    cases hlt : Nat.ble (Nat.succ e.born) since with
                    | false => rw [hlt] at he; simp [Q.eval] at he
                    | true =>
                      rw [hlt, cond_true] at he
                      have hlt' : e.born < since := Nat.le_of_ble_eq_true hlt
                      simp only [Q.eval, retV, Option.some.injEq, Prod.mk.injEq] at he
                      obtain ⟨rfl, rfl⟩ := he
                      obtain ⟨t1, t2, t3⟩ := took (m := m) (since := since) (clock := clock) (seen := []) (e := e) (k := k) (v := v) (b := e.born) ((h.rd r).rd m) hl hro hb (by rw [show ((s.rd r).rd m).h.get r = s.h.get r from rfl, ho]; simp) ⟨lm, hlm, rfl⟩ ⟨_, e1⟩ ⟨g1, g2⟩ rfl
                      have hns : ¬ since ≤ e.born := by omega
                      refine .inl ⟨hnot (by simp [cands, hlt', hns]), cnt_wr (.inr (by simp [S.rd, ho, cntAt])) (by simp [cntAt]), φ, _, t1, t2, .inl ⟨_, run_v ?_, t3⟩⟩
                      simp [Instr.next, hb, hg, f2, hlt', hns, List.filter_cons, choose, Sem.run, Question.forced, setObj, e1]
                  · rename_i b' more
                    split at he
                    · cases hc : and (Nat.beq e.born b') (Nat.ble (Nat.succ e.born) last) with
                      | false => rw [hc] at he; simp [Q.eval] at he
                      | true =>
                        rw [hc, cond_true] at he
                        simp only [Bool.and_eq_true] at hc
                        have hc1 := Nat.eq_of_beq_eq_true hc.1
                        have hc2 : e.born < last := Nat.le_of_ble_eq_true hc.2
                        subst hc1
                        simp only [Q.eval, retV, Option.some.injEq, Prod.mk.injEq] at he
                        obtain ⟨rfl, rfl⟩ := he
                        have hnl : ¬ last ≤ e.born := by omega
                        refine .inl ⟨hnot (by simp [cands, List.filter_cons]), rfl, φ, w, (h.rd _).rd _, Keep.refl _ _, .inl ⟨_, run_v ?_, VR_over⟩⟩
                        simp [Instr.next, hb, hg, f2, hnl, List.filter_cons, choose, Sem.run, Question.forced]
                    · simp [Q.eval] at he
                · exact many he
            · simp [Q.eval] at he
          · simp at he
        · simp [Q.eval] at he
      · simp at he
  · simp [Q.eval] at he

theorem bornFind_spec {b : Nat} : ∀ {es : List (V × V × Nat)} {cs : List MapEntry} {v : V}, EntsR φ es cs → cs.map (·.born) = bornsOf es → bornFind b es = some v →
    ∃ e, cs.find? (fun e => e.born == b) = some e ∧ VR φ v (.tuple #[e.key, e.val])
  | [], _, _, _, _, h => by simp [bornFind] at h
  | (k, x, c) :: es, _, v, ⟨e, cs, rfl, ⟨h1, h2⟩, hr⟩, hb, h => by
    simp only [bornFind] at h
    simp only [List.map_cons, bornsOf, List.cons.injEq] at hb
    cases hc : Nat.beq c b with
    | true =>
      rw [hc, cond_true] at h
      cases h
      have := Nat.eq_of_beq_eq_true hc
      refine ⟨e, by simp [hb.1, this], _, rfl, _, _, rfl, h1, _, _, rfl, h2, rfl⟩
    | false =>
      rw [hc, cond_false] at h
      obtain ⟨e', g1, g2⟩ := bornFind_spec hr hb.2 h
      refine ⟨e', ?_, g2⟩
      have hne : ¬ c = b := fun e => by rw [e] at hc; simp at hc
      have : (e.born == b) = false := by rw [hb.1]; simpa using hne
      simp [List.find?_cons, this, g1]

theorem lastN_eq : ∀ l : List Nat, lastN l = l.getLast?
  | [] => rfl
  | [b] => rfl
  | _ :: b :: l => by show lastN (b :: l) = _; rw [lastN_eq (b :: l)]; simp

theorem good_entry (h : Rel φ s w) {it : V} {c : Value} (hx : VR φ it c) : Good P φ s w (entryAt it) ((do pure (.value (← Instr.entry c)) : Sem Next).run P w) := by
  unfold entryAt
  split
  · rename_i r
    obtain ⟨l, hl, rfl⟩ := hx
    refine good_rd fun o ho => ?_
    obtain ⟨l', hl', hob⟩ := h.obj _ _ ho
    rw [hl] at hl'; cases hl'
    split
    · rename_i m since b st
      obtain ⟨hro, hb, m', e1, lm, hlm, e2⟩ := hob
      subst e2
      have hg : (getObj l.blk).run P w = .ok (.mapIter (some lm.blk) since b.toArray st) w := by simp [getObj, Sem.run, e1]
      refine good_rd fun o' ho' => ?_
      obtain ⟨l', hl', hob'⟩ := h.obj _ _ ho'
      rw [hlm] at hl'; cases hl'
      split
      · rename_i es clock
        obtain ⟨cs, hro', f1, f2, f3, f4⟩ := run_getMap (P := P) rfl hob'
        cases hc : Nat.beq clock st with
        | false => exact good_fail
        | true =>
          simp only [cond_true]
          have hc' := Nat.eq_of_beq_eq_true hc
          subst hc'
          cases hlast : lastN b with
          | none => exact good_fail
          | some b1 =>
            refine good_val ((h.rd _).rd _) fun v hv => ?_
            obtain ⟨e, g1, g2⟩ := bornFind_spec f3 f4 hv
            have : cs.find? (fun e => e.born == b1) = some e := by simpa using g1
            have hbk : b.toArray.back? = some b1 := by rw [lastN_eq] at hlast; simpa using hlast
            exact ⟨_, run_v (by simp [Instr.entry, hb, hg, f2, this, hbk]), g2⟩
      · exact good_fail
    · exact good_fail
  · exact good_fail

end
end Go.AM

namespace Go.AM
open Go

section
variable {P : Program} {φ : Map} {s : S} {w : World} {E : Env} {fr : Fr} {ρ : Operand → Value}

theorem opds_ok : ∀ l : List Operand, (∀ x ∈ l, VR φ (opd x fr) (ρ x)) → VRL φ (opds l fr) (l.map ρ)
  | [], _ => rfl
  | x :: l, h => ⟨_, _, rfl, h x (by simp), opds_ok l (fun y hy => h y (by simp [hy]))⟩

theorem opds_okA (a : Array Operand) (h : ∀ x ∈ a.toList, VR φ (opd x fr) (ρ x)) : VRL φ (opds a.toList fr) (a.map ρ).toList := by
  rw [Array.toList_map]; exact opds_ok _ h

theorem pairs_ok : ∀ l : List (Nat × Operand), (∀ x ∈ l.map (·.2), VR φ (opd x fr) (ρ x)) → PairsR φ (pairs l fr) (l.map fun (i, x) => (i, ρ x))
  | [], _ => rfl
  | (i, x) :: l, h => ⟨_, _, rfl, h x (by simp), pairs_ok l (fun y hy => h y (by simp only [List.map_cons, List.mem_cons]; exact .inr hy))⟩

theorem pairs_okA (a : Array (Nat × Operand)) (h : ∀ x ∈ a.toList.map (·.2), VR φ (opd x fr) (ρ x)) : PairsR φ (pairs a.toList fr) (a.map fun (i, x) => (i, ρ x)).toList := by
  rw [Array.toList_map]; exact pairs_ok _ h

theorem optV_ok (o : Option Operand) (h : ∀ x ∈ o.toList, VR φ (opd x fr) (ρ x)) : OptR φ (optV o fr) (o.map ρ) := by
  cases o with
  | none => rfl
  | some x => exact ⟨_, rfl, h x (by simp)⟩

theorem good_append (hE : EnvOk E P) (h : Rel φ s w) {t ty : TypeId} {ts : List TypeId} {x y : V} {c d : Value} {cs : List Value} (hx : VR φ x c) (hy : VR φ y d) (hcs : cs = []) :
    Good P φ s w (builtinAppend E t (type2 (t :: ts)) x y) ((do pure (.value (← Builtin.append_ (t :: ts).toArray ty (c :: d :: cs).toArray)) : Sem Next).run P w) := by
  subst hcs
  unfold builtinAppend
  split
  · rename_i a len cap
    split
    · rename_i e hd
      have hu := und_of hE hd
      split
      · exact good_fail
      · rename_i te hte
        have hok := hE.ty _ _ hte
        cases ts with
        | nil => exact good_fail
        | cons t2 ts =>
          dsimp only [type2]
          cases hi : isIntD (E.desc t2) with
          | true =>
            simp only [cond_true]
            obtain ⟨k2, hk2⟩ : ∃ k, E.desc t2 = some (.int k) := by
              cases hd2 : E.desc t2 with
              | none => rw [hd2] at hi; simp [isIntD] at hi
              | some d2 => rw [hd2] at hi; cases d2 <;> simp [isIntD] at hi; exact ⟨_, rfl⟩
            split
            · rename_i k n
              cases hn : Nat.ble n 1048576 with
              | false => exact good_fail
              | true =>
                simp only [cond_true]
                have hn' := Nat.le_of_ble_eq_true hn
                cases hy
                cases hr : roomOk (len + n) te.bytes with
                | false => unfold appendAt; rw [hr]; exact good_fail
                | true =>
                  have hr' := roomOk_spec hr
                  obtain ⟨i, z, hinf, _, _, hz, hz1, _⟩ := hok.info
                  have hzr : ∀ w : World, (zeroValue e).run P w = .ok z w := fun w => by simp [zeroValue, typeInfo, hinf, hz]
                  have hzv : VRL φ te.zero z.cells.toList := by rw [hz1]; exact (VR_ofV φ z).cells
                  have hzs : z.cells.size = te.size := by
                    have := VRL.length hzv
                    rw [hok.len] at this
                    simpa using this.symm
                  have hroomy : n * te.bytes ≤ 4294967296 := Nat.le_trans (Nat.mul_le_mul (by omega) (by omega)) hr'
                  have hA := appIn_zeros (w := w) (ty := ty) (ts := ts) (c := c) (k := k) hE hu hte (und_of hE hk2) hn' hzr hzs hroomy
                  refine good_appendAt hE h hte hx ?_ ?_ hA
                  · split
                    · rename_i h0
                      have : repl n te.zero = [] := List.eq_nil_of_length_eq_zero (by rw [repl_length, hok.len, h0])
                      rw [this]; rfl
                    · have e1 : (Builtin.zeroCells z.cells n).toList = (List.replicate n z.cells.toList).flatten := range_map_zero z.cells n
                      rw [e1]
                      exact VRL_repl hzv n
                  · split
                    · rename_i h0; simp [h0]
                    · simp [Builtin.zeroCells, hzs]
            · exact good_fail
          | false =>
            simp only [cond_false]
            split
            · exact good_fail
            · rename_i d2 hd2
              split
              · exact good_fail
              · rename_i n hn
                refine good_src h hy fun vs xs s' hs' _ _ hf hv hxl => ?_
                have hA := appIn_plain (w := w) (c := c) (ty := ty) (ts := ts) hE hu hte (und_of hE hd2) (by rw [← hd2]; exact hi) (fun w => run_lenOf (P := P) hy hn) hf
                exact good_appendAt hE hs' hte hx hv hxl hA
    · exact good_fail
  · exact good_fail

theorem good_call (hE : EnvOk E P) (h : Rel φ s w) {f : V} {args : List V} {c : Value} {cs : Array Value} (hf : VR φ f c) (ha : VRL φ args cs.toList) :
    Good P φ s w (callOf E f args) ((do let d ← Deferred.ofValue c cs; invoke d.target d.args : Sem Next).run P w) := by
  unfold callOf
  split
  · rename_i g first cap
    obtain ⟨a', b', rfl, h1, h2⟩ := hf
    have hargs : VRL φ (first ++ (args ++ cap)) (a' ++ cs ++ b').toList := by
      simp only [Array.toList_append, List.append_assoc]
      exact h1.append (ha.append h2)
    have hrun : (do let d ← Deferred.ofValue (.func (.func g) a' b') cs; invoke d.target d.args : Sem Next).run P w = (callFunc g (a' ++ cs ++ b')).run P w := by
      simp [Deferred.ofValue, invoke]
    rw [hrun]
    unfold extCall
    have hx := hE.ext g
    split
    · exact good_ret h ⟨_, rfl, hargs⟩
    · rename_i hk
      rw [hk] at hx
      split
      · rename_i x hx1
        rw [hx1] at hargs
        obtain ⟨c1, cs1, e1, hv, hnil⟩ := hargs
        simp only [VRL] at hnil; subst hnil
        have : a' ++ cs ++ b' = #[c1] := by apply Array.toList_inj.1; simpa using e1
        rw [this]
        exact good_retV h (hx c1 w) hv
      · exact good_fail
    · rename_i hk
      rw [hk] at hx
      split
      · rename_i t r hx1
        rw [hx1] at hargs
        obtain ⟨c1, cs1, e1, ⟨c2, e2, l, hl, e3⟩, hnil⟩ := hargs
        simp only [VRL] at hnil; subst hnil
        subst e2; subst e3
        have : a' ++ cs ++ b' = #[.iface t (.map (some l.blk))] := by apply Array.toList_inj.1; simpa using e1
        rw [this]
        refine good_rd fun o ho => ?_
        obtain ⟨l', hl', hob⟩ := h.obj _ _ ho
        rw [hl] at hl'; cases hl'
        unfold clonedMap
        split
        · rename_i es clock ord
          cases ord with
          | true =>
            obtain ⟨hro, cs2, f1, f2, f3⟩ := hob
            refine good_new (ob := .map cs2 clock) (l := ⟨w.heap.size, 0, 0, 0, false⟩) (h.rd _) rfl ⟨rfl, cs2, rfl, f2.mono (Map.upd_ext h.fresh), f3⟩ fun hr => ?_
            exact good_retV hr (hx t l.blk cs2 clock w f1) ⟨_, rfl, _, Map.upd_self, rfl⟩
          | false =>
            obtain ⟨hro, cs2, ds, ck, f1, f2, f3, f4⟩ := hob
            refine good_new (ob := .map cs2 ck) (l := ⟨w.heap.size, 0, 0, 0, false⟩) (h.rd _) rfl ⟨rfl, cs2, ds, ck, rfl, f2.mono (Map.upd_ext h.fresh), f3, f4⟩ fun hr => ?_
            exact good_retV hr (hx t l.blk cs2 ck w f1) ⟨_, rfl, _, Map.upd_self, rfl⟩
        · exact good_fail
      · exact good_fail
    · rename_i hk
      rw [hk] at hx
      unfold byteCall
      split
      · rename_i s m hx1
        cases hm : Nat.ble m 255 with
        | false => exact good_fail
        | true =>
          simp only [cond_true]
          rw [hx1] at hargs
          obtain ⟨c1, cs1, e1, rfl, c2, cs2, rfl, rfl, hnil⟩ := hargs
          simp only [VRL] at hnil; subst hnil
          have : a' ++ cs ++ b' = #[.string ⟨s.toArray⟩, .int .u8 (m : Int)] := by apply Array.toList_inj.1; simpa using e1
          rw [this]
          refine good_retV h (hx s m w (Nat.le_of_ble_eq_true hm)) ?_
          cases idxOfB m s 0 <;> exact rfl
      · exact good_fail
    · rename_i hk
      rw [hk] at hx
      unfold byteCall
      split
      · rename_i s m hx1
        cases hm : Nat.ble m 255 with
        | false => exact good_fail
        | true =>
          simp only [cond_true]
          rw [hx1] at hargs
          obtain ⟨c1, cs1, e1, rfl, c2, cs2, rfl, rfl, hnil⟩ := hargs
          simp only [VRL] at hnil; subst hnil
          have : a' ++ cs ++ b' = #[.string ⟨s.toArray⟩, .int .u8 (m : Int)] := by apply Array.toList_inj.1; simpa using e1
          rw [this]
          exact good_retV h (hx s m w (Nat.le_of_ble_eq_true hm)) rfl
      · exact good_fail
    · exact good_fail
  · rename_i l
    obtain ⟨L, hL, rfl⟩ := hf
    refine good_ret h ⟨L, cs, hL, ?_, ha⟩
    simp [Deferred.ofValue, invoke]
  · exact good_fail

theorem good_defer (h : Rel φ s w) {f : V} {args : List V} {c : Value} {cs : Array Value} (hf : VR φ f c) (ha : VRL φ args cs.toList) :
    Good P φ s w (deferOf f args) ((do pure (.defer (← Deferred.ofValue c cs)) : Sem Next).run P w) := by
  unfold deferOf
  split
  · rename_i g first cap
    obtain ⟨a', b', rfl, h1, h2⟩ := hf
    refine good_ret h ⟨{ target := .fn (.func g) b', args := a' ++ cs }, by simp [Deferred.ofValue], b', a' ++ cs, rfl, ?_⟩
    simp only [Array.toList_append, List.append_assoc]
    exact h1.append (ha.append h2)
  · exact good_fail

theorem good_panic (h : Rel φ s w) {x : V} {c : Value} (hx : VR φ x c) : Good P φ s w (panicOf x) ((do pure (.value (← Instr.panic c)) : Sem Next).run P w) := by
  unfold panicOf
  split
  · rename_i t v
    obtain ⟨c', rfl, hv⟩ := hx
    exact good_ret h ⟨_, run_pan (by simp [Instr.panic, goPanic, Sem.run]), c', rfl, hv⟩
  · exact good_fail

theorem good_builtin (hE : EnvOk E P) (h : Rel φ s w) {b : Builtin} {ts : Array TypeId} {ty : TypeId} {consts : Array Bool} {args : List V} {cs : Array Value} (ha : VRL φ args cs.toList) :
    Good P φ s w (builtinOf b E ts.toList args) ((Go.builtin b ts ty consts cs).run P w) := by
  obtain ⟨ts⟩ := ts
  obtain ⟨cs⟩ := cs
  cases b <;> try (exact good_fail)
  all_goals simp only [builtinOf]
  case append =>
    cases ts with
    | nil => exact good_fail
    | cons t ts =>
      cases args with
      | nil => exact good_fail
      | cons x args =>
        cases args with
        | nil => exact good_fail
        | cons y args =>
          obtain ⟨c, cs1, e1, hx, d, cs2, e2, hy, hr⟩ := ha
          simp only at e1; subst e1; subst e2
          cases args with
          | nil => exact good_append hE h hx hy hr
          | cons _ _ => exact good_fail
  case cap =>
    cases ts with
    | nil => exact good_fail
    | cons t ts =>
      cases args with
      | nil => exact good_fail
      | cons x args =>
        obtain ⟨c, cs1, e1, hx, hr⟩ := ha
        simp only at e1; subst e1
        exact good_cap hE h hx
  case copy =>
    cases ts with
    | nil => exact good_fail
    | cons t ts =>
      cases args with
      | nil => exact good_fail
      | cons x args =>
        cases args with
        | nil => exact good_fail
        | cons y args =>
          obtain ⟨c, cs1, e1, hx, d, cs2, e2, hy, hr⟩ := ha
          simp only at e1; subst e1; subst e2
          cases args with
          | nil => exact good_copy (t2 := 0) (ts := ts) hE h hx hy
          | cons _ _ => exact good_fail
  case len =>
    cases ts with
    | nil => exact good_fail
    | cons t ts =>
      cases args with
      | nil => exact good_fail
      | cons x args =>
        obtain ⟨c, cs1, e1, hx, hr⟩ := ha
        simp only at e1; subst e1
        exact good_len (xs := []) hE h hx
  case max =>
    cases args with
    | nil => exact good_fail
    | cons x args =>
      obtain ⟨c, cs1, e1, hx, hr⟩ := ha
      simp only at e1; subst e1
      refine good_val h fun v hv => ?_
      obtain ⟨e, h1, h2⟩ := good_foldV (P := P) (w := w) (fun x y z c d h hx hy => max_ok x y z c d h hx hy) args x v c cs1 hv hx hr
      exact ⟨e, run_v (by simpa [Builtin.max_] using h1), h2⟩
  case min =>
    cases args with
    | nil => exact good_fail
    | cons x args =>
      obtain ⟨c, cs1, e1, hx, hr⟩ := ha
      simp only at e1; subst e1
      refine good_val h fun v hv => ?_
      obtain ⟨e, h1, h2⟩ := good_foldV (P := P) (w := w) (fun x y z c d h hx hy => min_ok x y z c d h hx hy) args x v c cs1 hv hx hr
      exact ⟨e, run_v (by simpa [Builtin.min_] using h1), h2⟩
  case panic =>
    cases args with
    | nil => exact good_fail
    | cons x args =>
      obtain ⟨c, cs1, e1, hx, hr⟩ := ha
      simp only at e1; subst e1
      exact good_panic h hx
  case recover => exact good_ret h rfl

theorem good_exec (hE : EnvOk E P) (h : Rel φ s w) (o : Oper) (hρ : ∀ x ∈ opsOf o.op, VR φ (opd x fr) (ρ x)) (hn : ∀ it, o.op ≠ .next it false) : Good P φ s w (exec o.op E fr) ((execOp ρ o).run P w) := by
  obtain ⟨dst, op, type, pos, after, guard⟩ := o
  cases op <;> simp only [exec] <;> try (exact good_fail)
  case move x => exact good_retV h rfl (hρ x (by simp [opsOf]))
  case assign x => exact good_retV h rfl (hρ x (by simp [opsOf]))
  case pick c a b => exact good_pick h (hρ c (by simp [opsOf])) (hρ a (by simp [opsOf])) (hρ b (by simp [opsOf]))
  case alloc e => exact good_alloc hE h
  case box e x => exact good_box h (hρ x (by simp [opsOf]))
  case build t ps => exact good_build hE h (pairs_okA ps hρ)
  case buildSlice t n ps => exact good_buildSlice hE h (pairs_okA ps hρ)
  case load t a => exact good_load hE h (hρ a (by simp [opsOf]))
  case store t a x => exact good_store hE h (hρ a (by simp [opsOf])) (hρ x (by simp [opsOf]))
  case nilCheck x => exact good_nilCheck h rfl (hρ x (by simp [opsOf]))
  case binOp op t x y t' => exact good_bin hE h (hρ x (by simp [opsOf])) (hρ y (by simp [opsOf]))
  case unOp op t x => exact good_un h (hρ x (by simp [opsOf]))
  case convert a b x => exact good_conv hE h (hρ x (by simp [opsOf]))
  case makeInterface t x => exact good_iface hE h (hρ x (by simp [opsOf]))
  case makeFunc fn first cap =>
    unfold opMakeFunc
    split
    · exact good_retV (c := .func (.func _) (first.map ρ) (cap.map ρ)) h rfl ⟨_, _, rfl, opds_okA first (fun x hx => hρ x (by simp only [opsOf, List.mem_append]; exact .inl hx)), opds_okA cap (fun x hx => hρ x (by simp only [opsOf, List.mem_append]; exact .inr hx))⟩
    · exact good_fail
  case makeMap t r => exact good_makeMap h (fun e => by rw [e]; rfl)
  case makeSlice t l c => exact good_makeSlice hE h (hρ l (by simp [opsOf])) (hρ c (by simp [opsOf]))
  case slice t x lo hi mx => exact good_slice hE h (hρ x (by simp [opsOf])) (optV_ok lo (fun x hx => hρ x (by simp only [opsOf, List.mem_cons, List.mem_append]; exact .inr (.inl hx)))) (optV_ok hi (fun x hx => hρ x (by simp only [opsOf, List.mem_cons, List.mem_append]; exact .inr (.inr (.inl hx))))) (optV_ok mx (fun x hx => hρ x (by simp only [opsOf, List.mem_cons, List.mem_append]; exact .inr (.inr (.inr hx)))))
  case fieldAddr t x f => exact good_fieldAddr hE h (hρ x (by simp [opsOf]))
  case field t x f => exact good_field hE h (hρ x (by simp [opsOf]))
  case indexAddr t x i => exact good_indexAddr hE h (hρ x (by simp [opsOf])) (hρ i (by simp [opsOf]))
  case index t x i => exact good_index hE h (hρ x (by simp [opsOf])) (hρ i (by simp [opsOf]))
  case lookup t x k ok => exact good_lookup hE h (hρ x (by simp [opsOf])) (hρ k (by simp [opsOf]))
  case mapUpdate t m k x => exact good_mapSet hE h (hρ m (by simp [opsOf])) (hρ k (by simp [opsOf])) (hρ x (by simp [opsOf]))
  case insert t m k x => exact good_insert hE h (hρ m (by simp [opsOf])) (hρ k (by simp [opsOf])) (hρ x (by simp [opsOf]))
  case mapEntry t m k => exact good_mapEntry hE h (hρ m (by simp [opsOf])) (hρ k (by simp [opsOf]))
  case entryStore t m st x => exact good_entryStore h (hρ m (by simp [opsOf])) (hρ st (by simp [opsOf])) (hρ x (by simp [opsOf]))
  case range t x => exact good_range hE h (hρ x (by simp [opsOf]))
  case next it str =>
    cases str with
    | false => exact absurd rfl (hn it)
    | true =>
      unfold opNext nextAt
      split
      · exact good_fail
      · exact good_fail
  case entry it => exact good_entry h (hρ it (by simp [opsOf]))
  case typeAssert x xt t ok => exact good_assert hE h (hρ x (by simp [opsOf]))
  case extract t i => exact good_extract h (hρ t (by simp [opsOf]))
  case panic x => exact good_panic h (hρ x (by simp [opsOf]))
  case call c =>
    unfold opCall
    split
    · rename_i f hc
      have : (execOp ρ { dst, op := .call c, type, pos, after, guard }).run P w = (do let d ← Deferred.ofValue (ρ f) (c.args.map ρ); invoke d.target d.args : Sem Next).run P w := by
        simp only [execOp, resolve, hc]
      rw [this]
      exact good_call hE h (hρ f (by simp [opsOf, hc])) (opds_okA c.args (fun x hx => hρ x (by simp only [opsOf, List.mem_append]; exact .inr hx)))
    · rename_i b hc
      have : (execOp ρ { dst, op := .call c, type, pos, after, guard }).run P w = (Go.builtin b c.argTypes type (c.args.map fun | .const _ => true | _ => false) (c.args.map ρ)).run P w := by
        simp only [execOp, resolve, hc]
        rfl
      rw [this]
      exact good_builtin hE h (opds_okA c.args (fun x hx => hρ x (by simp only [opsOf, List.mem_append]; exact .inr hx)))
    · exact good_fail
  case defer c =>
    unfold opDefer
    split
    · rename_i f hc
      have : (execOp ρ { dst, op := .defer c, type, pos, after, guard }).run P w = (do pure (.defer (← Deferred.ofValue (ρ f) (c.args.map ρ))) : Sem Next).run P w := by
        simp only [execOp, resolve, hc]
      rw [this]
      exact good_defer h (hρ f (by simp [opsOf, hc])) (opds_okA c.args (fun x hx => hρ x (by simp only [opsOf, List.mem_append]; exact .inr hx)))
    · exact good_fail

theorem opds_congr {fr fr' : Fr} : ∀ l : List Operand, (∀ x ∈ l, opd x fr = opd x fr') → opds l fr = opds l fr'
  | [], _ => rfl
  | x :: l, h => by simp only [opds]; rw [h x (by simp), opds_congr l (fun y hy => h y (by simp [hy]))]

theorem pairs_congr {fr fr' : Fr} : ∀ l : List (Nat × Operand), (∀ x ∈ l.map (·.2), opd x fr = opd x fr') → pairs l fr = pairs l fr'
  | [], _ => rfl
  | (i, x) :: l, h => by simp only [pairs]; rw [h x (by simp), pairs_congr l (fun y hy => h y (by simp only [List.map_cons, List.mem_cons]; exact .inr hy))]

theorem optV_congr {fr fr' : Fr} (o : Option Operand) (h : ∀ x ∈ o.toList, opd x fr = opd x fr') : optV o fr = optV o fr' := by
  cases o with
  | none => rfl
  | some x => simp only [optV]; rw [h x (by simp)]

/-- an operation depends on the frame through its operands -/
theorem exec_congr {fr fr' : Fr} (op : Op) (h : ∀ x ∈ opsOf op, opd x fr = opd x fr') : exec op E fr = exec op E fr' := by
  cases op <;> simp only [exec] <;> try rfl
  case move x => simp only [opMove]; rw [h x (by simp [opsOf])]
  case assign x => simp only [opMove]; rw [h x (by simp [opsOf])]
  case pick c a b => simp only [opPick]; rw [h c (by simp [opsOf]), h a (by simp [opsOf]), h b (by simp [opsOf])]
  case box e x => simp only [opBox]; rw [h x (by simp [opsOf])]
  case build t ps => simp only [opBuild]; rw [pairs_congr _ h]
  case buildSlice t n ps => simp only [opBuildSlice]; rw [pairs_congr _ h]
  case load t a => simp only [opLoad]; rw [h a (by simp [opsOf])]
  case store t a x => simp only [opStore]; rw [h a (by simp [opsOf]), h x (by simp [opsOf])]
  case nilCheck x => simp only [opNilCheck]; rw [h x (by simp [opsOf])]
  case binOp op t x y t' => simp only [opBin]; rw [h x (by simp [opsOf]), h y (by simp [opsOf])]
  case unOp op t x => simp only [opUn]; rw [h x (by simp [opsOf])]
  case convert a b x => simp only [opConvert]; rw [h x (by simp [opsOf])]
  case makeInterface t x => simp only [opIface]; rw [h x (by simp [opsOf])]
  case makeFunc fn first cap =>
    simp only [opMakeFunc]
    rw [opds_congr first.toList (fun x hx => h x (by simp only [opsOf, List.mem_append]; exact .inl hx)), opds_congr cap.toList (fun x hx => h x (by simp only [opsOf, List.mem_append]; exact .inr hx))]
  case makeSlice t l c => simp only [opMakeSlice]; rw [h l (by simp [opsOf]), h c (by simp [opsOf])]
  case slice t x lo hi mx =>
    simp only [opSlice]
    rw [h x (by simp [opsOf]), optV_congr lo (fun x hx => h x (by simp only [opsOf, List.mem_cons, List.mem_append]; exact .inr (.inl hx))),
      optV_congr hi (fun x hx => h x (by simp only [opsOf, List.mem_cons, List.mem_append]; exact .inr (.inr (.inl hx)))),
      optV_congr mx (fun x hx => h x (by simp only [opsOf, List.mem_cons, List.mem_append]; exact .inr (.inr (.inr hx))))]
  case fieldAddr t x f => simp only [opFieldAddr]; rw [h x (by simp [opsOf])]
  case field t x f => simp only [opField]; rw [h x (by simp [opsOf])]
  case indexAddr t x i => simp only [opIndexAddr]; rw [h x (by simp [opsOf]), h i (by simp [opsOf])]
  case index t x i => simp only [opIndex]; rw [h x (by simp [opsOf]), h i (by simp [opsOf])]
  case lookup t x k ok => simp only [opLookup]; rw [h x (by simp [opsOf]), h k (by simp [opsOf])]
  case mapUpdate t m k x => simp only [opMapUpdate]; rw [h m (by simp [opsOf]), h k (by simp [opsOf]), h x (by simp [opsOf])]
  case insert t m k x => simp only [opInsert]; rw [h m (by simp [opsOf]), h k (by simp [opsOf]), h x (by simp [opsOf])]
  case mapEntry t m k => simp only [opMapEntry]; rw [h m (by simp [opsOf]), h k (by simp [opsOf])]
  case entryStore t m st x => simp only [opEntryStore]; rw [h m (by simp [opsOf]), h st (by simp [opsOf]), h x (by simp [opsOf])]
  case range t x => simp only [opRange]; rw [h x (by simp [opsOf])]
  case next it str => simp only [opNext]; rw [h it (by simp [opsOf])]
  case entry it => simp only [opEntry]; rw [h it (by simp [opsOf])]
  case typeAssert x xt t ok => simp only [opAssert]; rw [h x (by simp [opsOf])]
  case extract t i => simp only [opExtract]; rw [h t (by simp [opsOf])]
  case panic x => simp only [opPanic]; rw [h x (by simp [opsOf])]
  case call c =>
    unfold opCall
    cases hc : c.callee with
    | value f => simp only; rw [h f (by simp [opsOf, hc]), opds_congr c.args.toList (fun x hx => h x (by simp only [opsOf, List.mem_append]; exact .inr hx))]
    | builtin b => simp only; rw [opds_congr c.args.toList (fun x hx => h x (by simp only [opsOf, List.mem_append]; exact .inr hx))]
    | invoke r n => rfl
  case defer c =>
    unfold opDefer
    cases hc : c.callee with
    | value f => simp only; rw [h f (by simp [opsOf, hc]), opds_congr c.args.toList (fun x hx => h x (by simp only [opsOf, List.mem_append]; exact .inr hx))]
    | builtin b => rfl
    | invoke r n => rfl

end
end Go.AM

namespace Go.AM
open Go
set_option linter.unusedVariables false
set_option linter.unusedSimpArgs false

/-! ## no operation but a range's step turns the oracle's counter -/
section
variable {E : Env} {α : Type} {s : S}

def Calm (E : Env) (q : Q α) (s : S) : Prop := cntAt (s.h.get s.n) = 0 → ∀ a s', q.eval s = some (a, s') → cnt E s' = cnt E s

theorem calm_ret {a : α} : Calm E (.ret a) s := fun _ a s' h => by
  simp only [Q.eval, Option.some.injEq, Prod.mk.injEq] at h; rw [← h.2]
theorem calm_fail {w : String} : Calm E (.fail w : Q α) s := fun _ a s' h => by simp [Q.eval] at h
theorem calm_retV {v : V} : Calm E (retV v) s := calm_ret
theorem calm_val {w : String} {v : Option V} : Calm E (Q.val w v) s := by
  cases v
  · exact calm_fail
  · exact calm_ret
theorem calm_rd {id : Nat} {k : Ob → Q α} (h : ∀ o, s.h.get id = some o → Calm E (k o) (s.rd id)) : Calm E (.rd id k) s := fun hn a s' e => by
  simp only [Q.eval] at e
  split at e
  · rename_i o ho; exact h o ho hn a s' e
  · simp at e
theorem calm_wr {id : Nat} {o : Ob} {q : Q α} (h1 : cntAt (s.h.get id) = 0) (h2 : cntAt (some o) = 0) (h : Calm E q (s.wr id (some o))) : Calm E (.wr id o q) s := fun hn a s' e => by
  have := h (by simp only [S.wr, Tr.get_put]; split; exact h2; exact hn) a s' e
  rw [this, cnt_wr (.inr h1) h2]
theorem calm_kill {id : Nat} {q : Q α} (h1 : cntAt (s.h.get id) = 0) (h : Calm E q (s.wr id none)) : Calm E (.kill id q) s := fun hn a s' e => by
  have := h (by simp only [S.wr, Tr.get_put]; split; rfl; exact hn) a s' e
  rw [this, cnt_wr (.inr h1) rfl]
theorem cnt_new {s : S} {o : Ob} (hn : cntAt (s.h.get s.n) = 0) (h2 : cntAt (some o) = 0) : cnt E (s.new o) = cnt E s := by
  unfold cnt
  split
  · rfl
  · simp only [S.new, Tr.get_put]
    split
    · rename_i e; subst e; rw [h2, hn]
    · rfl
theorem calm_new {o : Ob} {k : Nat → Q OR} (h2 : cntAt (some o) = 0) (h : ∀ n, ∃ v, k n = retV v) : Calm E (.new o k) s := fun hn a s' e => by
  obtain ⟨v, hv⟩ := h s.n
  simp only [Q.eval, hv, retV, Option.some.injEq, Prod.mk.injEq] at e
  rw [← e.2]; exact cnt_new hn h2

theorem calm_bif {b : Bool} {p q : Q α} (h1 : b = true → Calm E p s) (h2 : b = false → Calm E q s) : Calm E (bif b then p else q) s := by
  cases b
  · exact h2 rfl
  · exact h1 rfl
theorem calm_load {t : TypeId} {a : V} : Calm E (loadAt E t a) s := by
  unfold loadAt
  repeat' (first | exact calm_fail | exact calm_retV | exact calm_val | exact calm_ret | exact calm_new rfl fun n => ⟨_, rfl⟩ | (refine calm_bif (fun _ => ?_) (fun _ => ?_)) | (refine calm_rd fun o ho => ?_) | exact calm_wr (by simp [S.rd, *, cntAt]) rfl calm_retV | split)
theorem calm_put {id off : Nat} {vs : List V} {v : V} : Calm E (putCells id off vs v) s := by
  unfold putCells
  repeat' (first | exact calm_fail | exact calm_retV | exact calm_val | exact calm_ret | exact calm_new rfl fun n => ⟨_, rfl⟩ | (refine calm_bif (fun _ => ?_) (fun _ => ?_)) | (refine calm_rd fun o ho => ?_) | exact calm_wr (by simp [S.rd, *, cntAt]) rfl calm_retV | split)
theorem calm_store {t : TypeId} {a x : V} : Calm E (storeAt E t a x) s := by
  unfold storeAt
  repeat' (first | exact calm_fail | exact calm_put | (refine calm_bif (fun _ => ?_) (fun _ => ?_)) | split)
theorem calm_conv {a b : TypeId} {x : V} : Calm E (convOf E a b x) s := by
  unfold convOf
  repeat' (first | exact calm_fail | exact calm_retV | exact calm_val | exact calm_ret | exact calm_new rfl fun n => ⟨_, rfl⟩ | (refine calm_bif (fun _ => ?_) (fun _ => ?_)) | (refine calm_rd fun o ho => ?_) | exact calm_wr (by simp [S.rd, *, cntAt]) rfl calm_retV | split)
theorem calm_slice {t : TypeId} {x : V} {lo hi mx : Option V} : Calm E (sliceOf E t x lo hi mx) s := by
  unfold sliceOf sliceStr sliceSl sliceArr sub3
  repeat' (first | exact calm_fail | exact calm_retV | exact calm_val | exact calm_ret | exact calm_new rfl fun n => ⟨_, rfl⟩ | (refine calm_bif (fun _ => ?_) (fun _ => ?_)) | (refine calm_rd fun o ho => ?_) | exact calm_wr (by simp [S.rd, *, cntAt]) rfl calm_retV | split)
theorem calm_lookup {t : TypeId} {x k : V} {ok : Bool} : Calm E (lookupAt E t x k ok) s := by
  unfold lookupAt lookupIn
  repeat' (first | exact calm_fail | exact calm_retV | exact calm_val | exact calm_ret | exact calm_new rfl fun n => ⟨_, rfl⟩ | (refine calm_bif (fun _ => ?_) (fun _ => ?_)) | (refine calm_rd fun o ho => ?_) | exact calm_wr (by simp [S.rd, *, cntAt]) rfl calm_retV | split)
theorem calm_mapSet {t : TypeId} {m k v : V} : Calm E (mapSetAt E t m k v) s := by
  unfold mapSetAt mapSetIn
  repeat' (first | exact calm_fail | exact calm_retV | exact calm_val | exact calm_ret | exact calm_new rfl fun n => ⟨_, rfl⟩ | (refine calm_bif (fun _ => ?_) (fun _ => ?_)) | (refine calm_rd fun o ho => ?_) | exact calm_wr (by simp [S.rd, *, cntAt]) rfl calm_retV | split)
theorem calm_insert {t : TypeId} {m k v : V} : Calm E (insertAt E t m k v) s := by
  unfold insertAt insertIn
  repeat' (first | exact calm_fail | exact calm_retV | exact calm_val | exact calm_ret | exact calm_new rfl fun n => ⟨_, rfl⟩ | (refine calm_bif (fun _ => ?_) (fun _ => ?_)) | (refine calm_rd fun o ho => ?_) | exact calm_wr (by simp [S.rd, *, cntAt]) rfl calm_retV | split)
theorem calm_mapEntry {t : TypeId} {m k : V} : Calm E (mapEntryAt E t m k) s := by
  unfold mapEntryAt mapEntryIn
  repeat' (first | exact calm_fail | exact calm_retV | exact calm_val | exact calm_ret | exact calm_new rfl fun n => ⟨_, rfl⟩ | (refine calm_bif (fun _ => ?_) (fun _ => ?_)) | (refine calm_rd fun o ho => ?_) | exact calm_wr (by simp [S.rd, *, cntAt]) rfl calm_retV | split)
theorem calm_entryStore {m st x : V} : Calm E (entryStoreAt m st x) s := by
  unfold entryStoreAt entryStoreIn
  repeat' (first | exact calm_fail | exact calm_retV | exact calm_val | exact calm_ret | exact calm_new rfl fun n => ⟨_, rfl⟩ | (refine calm_bif (fun _ => ?_) (fun _ => ?_)) | (refine calm_rd fun o ho => ?_) | exact calm_wr (by simp [S.rd, *, cntAt]) rfl calm_retV | split)
theorem calm_range {t : TypeId} {x : V} : Calm E (rangeAt E t x) s := by
  unfold rangeAt
  repeat' (first | exact calm_fail | exact calm_retV | exact calm_val | exact calm_ret | exact calm_new rfl fun n => ⟨_, rfl⟩ | (refine calm_bif (fun _ => ?_) (fun _ => ?_)) | (refine calm_rd fun o ho => ?_) | exact calm_wr (by simp [S.rd, *, cntAt]) rfl calm_retV | split)
theorem calm_entry {it : V} : Calm E (entryAt it) s := by
  unfold entryAt
  repeat' (first | exact calm_fail | exact calm_retV | exact calm_val | exact calm_ret | exact calm_new rfl fun n => ⟨_, rfl⟩ | (refine calm_bif (fun _ => ?_) (fun _ => ?_)) | (refine calm_rd fun o ho => ?_) | exact calm_wr (by simp [S.rd, *, cntAt]) rfl calm_retV | split)
theorem calm_appendNew {size : Nat} {old new : List V} {need : Nat} : Calm E (appendNew size old new need) s := calm_new rfl fun n => ⟨_, rfl⟩
theorem calm_appendAt {te : TI} {a : Option (Nat × Nat)} {len : Nat} {cap : Cap} {n : Nat} {new : List V} : Calm E (appendAt te a len cap n new) s := by
  unfold appendAt appendOn
  repeat' (first | exact calm_fail | exact calm_retV | exact calm_appendNew | exact calm_kill (by simp [S.rd, *, cntAt]) calm_appendNew | (refine calm_bif (fun _ => ?_) (fun _ => ?_)) | (refine calm_rd fun o ho => ?_) | exact calm_wr (by simp [S.rd, *, cntAt]) rfl calm_retV | split)
theorem calm_src {size n : Nat} {y : V} {k : List V → Q OR} (h : ∀ l (s : S), Calm E (k l) s) : Calm E (srcOf size n y k) s := by
  unfold srcOf
  repeat' (first | exact calm_fail | exact h _ _ | (refine calm_bif (fun _ => ?_) (fun _ => ?_)) | (refine calm_rd fun o ho => ?_) | split)
theorem calm_append {ts : TypeId} {tx : Option TypeId} {x y : V} : Calm E (builtinAppend E ts tx x y) s := by
  unfold builtinAppend
  repeat' (first | exact calm_fail | exact calm_appendAt | exact calm_src fun l s => calm_appendAt | (refine calm_bif (fun _ => ?_) (fun _ => ?_)) | split)
theorem calm_copy {td : TypeId} {x y : V} : Calm E (builtinCopy E td x y) s := by
  unfold builtinCopy
  repeat' (first | exact calm_fail | exact calm_retV | exact calm_put | (refine calm_src fun l s => ?_) | split)
theorem calm_len {t : TypeId} {x : V} : Calm E (lenAt E t x) s := by
  unfold lenAt
  repeat' (first | exact calm_fail | exact calm_retV | exact calm_val | exact calm_ret | exact calm_new rfl fun n => ⟨_, rfl⟩ | (refine calm_bif (fun _ => ?_) (fun _ => ?_)) | (refine calm_rd fun o ho => ?_) | exact calm_wr (by simp [S.rd, *, cntAt]) rfl calm_retV | split)
theorem calm_cap {t : TypeId} {x : V} : Calm E (capAt E t x) s := by
  unfold capAt
  repeat' (first | exact calm_fail | exact calm_retV | exact calm_val | exact calm_ret | exact calm_new rfl fun n => ⟨_, rfl⟩ | (refine calm_bif (fun _ => ?_) (fun _ => ?_)) | (refine calm_rd fun o ho => ?_) | exact calm_wr (by simp [S.rd, *, cntAt]) rfl calm_retV | split)
theorem calm_builtin {b : Builtin} {ts : List TypeId} {l : List V} : Calm E (builtinOf b E ts l) s := by
  cases b <;> simp only [builtinOf] <;> try (exact calm_fail)
  case append =>
    unfold type1 head2
    repeat' (first | exact calm_fail | exact calm_append | split | dsimp only)
  case cap =>
    unfold type1 head1
    repeat' (first | exact calm_fail | exact calm_cap | split | dsimp only)
  case copy =>
    unfold type1 head2
    repeat' (first | exact calm_fail | exact calm_copy | split | dsimp only)
  case len =>
    unfold type1 head1
    repeat' (first | exact calm_fail | exact calm_len | split | dsimp only)
  case max => split <;> first | exact calm_val | exact calm_fail
  case min => split <;> first | exact calm_val | exact calm_fail
  case panic =>
    unfold head1 panicOf
    repeat' (first | exact calm_fail | exact calm_ret | split | dsimp only)
  case recover => exact calm_ret
theorem calm_call {f : V} {l : List V} : Calm E (callOf E f l) s := by
  unfold callOf extCall clonedMap byteCall
  repeat' (first | exact calm_fail | exact calm_retV | exact calm_val | exact calm_ret | exact calm_new rfl fun n => ⟨_, rfl⟩ | (refine calm_bif (fun _ => ?_) (fun _ => ?_)) | (refine calm_rd fun o ho => ?_) | exact calm_wr (by simp [S.rd, *, cntAt]) rfl calm_retV | split)
theorem calm_exec {fr : Fr} (o : Op) (hn : ∀ it, o ≠ .next it false) : Calm E (exec o E fr) s := by
  cases o <;> simp only [exec] <;> try (exact calm_fail)
  case move => exact calm_retV
  case assign => exact calm_retV
  case pick => unfold opPick pickOf; split; exact calm_retV; exact calm_fail
  case alloc =>
    unfold opAlloc allocOf
    split
    · exact calm_new rfl fun n => ⟨_, rfl⟩
    · exact calm_fail
  case box => exact calm_new rfl fun n => ⟨_, rfl⟩
  case build => exact calm_val
  case buildSlice =>
    unfold opBuildSlice buildSliceOf
    repeat' (first | exact calm_fail | exact calm_retV | exact calm_val | exact calm_ret | exact calm_new rfl fun n => ⟨_, rfl⟩ | (refine calm_bif (fun _ => ?_) (fun _ => ?_)) | (refine calm_rd fun o ho => ?_) | exact calm_wr (by simp [S.rd, *, cntAt]) rfl calm_retV | split)
  case load => exact calm_load
  case store => exact calm_store
  case nilCheck => unfold opNilCheck nilCheckOf; repeat' (first | exact calm_fail | exact calm_retV | split)
  case binOp =>
    unfold opBin binAt
    repeat' (first | exact calm_fail | exact calm_retV | exact calm_val | exact calm_ret | exact calm_new rfl fun n => ⟨_, rfl⟩ | (refine calm_bif (fun _ => ?_) (fun _ => ?_)) | (refine calm_rd fun o ho => ?_) | exact calm_wr (by simp [S.rd, *, cntAt]) rfl calm_retV | split)
  case unOp => exact calm_val
  case convert => exact calm_conv
  case makeInterface =>
    unfold opIface ifaceOf
    repeat' (first | exact calm_fail | exact calm_retV | exact calm_val | exact calm_ret | exact calm_new rfl fun n => ⟨_, rfl⟩ | (refine calm_bif (fun _ => ?_) (fun _ => ?_)) | (refine calm_rd fun o ho => ?_) | exact calm_wr (by simp [S.rd, *, cntAt]) rfl calm_retV | split)
  case makeFunc => unfold opMakeFunc; split; exact calm_retV; exact calm_fail
  case makeMap =>
    unfold makeMapOf
    split
    · exact calm_new rfl fun n => ⟨_, rfl⟩
    · exact calm_fail
  case makeSlice =>
    unfold opMakeSlice makeSliceOf
    repeat' (first | exact calm_fail | exact calm_retV | exact calm_val | exact calm_ret | exact calm_new rfl fun n => ⟨_, rfl⟩ | (refine calm_bif (fun _ => ?_) (fun _ => ?_)) | (refine calm_rd fun o ho => ?_) | exact calm_wr (by simp [S.rd, *, cntAt]) rfl calm_retV | split)
  case slice => exact calm_slice
  case fieldAddr => exact calm_val
  case field => exact calm_val
  case indexAddr => exact calm_val
  case index => exact calm_val
  case lookup => exact calm_lookup
  case mapUpdate => exact calm_mapSet
  case insert => exact calm_insert
  case mapEntry => exact calm_mapEntry
  case entryStore => exact calm_entryStore
  case range => exact calm_range
  case next it str =>
    cases str with
    | false => exact absurd rfl (hn it)
    | true =>
      unfold opNext nextAt
      split
      · exact calm_fail
      · exact calm_fail
  case entry => exact calm_entry
  case typeAssert => exact calm_val
  case extract => unfold opExtract extractOf; split; exact calm_val; exact calm_fail
  case panic => unfold opPanic panicOf; split; exact calm_ret; exact calm_fail
  case call c =>
    unfold opCall
    split
    · exact calm_call
    · exact calm_builtin
    · exact calm_fail
  case defer c =>
    unfold opDefer deferOf
    repeat' (first | exact calm_fail | exact calm_ret | split | dsimp only)
end
end Go.AM

