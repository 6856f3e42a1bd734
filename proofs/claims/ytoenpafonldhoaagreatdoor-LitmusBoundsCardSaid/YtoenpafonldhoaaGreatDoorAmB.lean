/- An abstract machine for the model's programs, its runs, and what they say of the model (part AmB). No condition. -/
import Derived.Test.YtoenpafonldhoaaGreatDoorAmR
import Derived.Laws.IdiomCopy
import Derived.Laws.Slices
set_option linter.unusedVariables false
set_option linter.unusedSimpArgs false
set_option linter.unusedSectionVars false
namespace Go.AM
open Go

/-! ## the tables are the program's -/
def isAggD : TypeDesc → Bool
  | .struct _ => true
  | .array _ _ => true
  | _ => false

structure TIok (P : Program) (t : TypeId) (ti : TI) : Prop where
  und : P.underlying t = some ti.d
  info : ∃ i z, P.info? t = some i ∧ i.size = ti.size ∧ i.bytes = ti.bytes ∧ i.zero = some z ∧ ti.zero = (ofV z).cells ∧ zeroOf ti = ofV z
  agg : ti.agg = isAggD ti.d
  len : ti.zero.length = ti.size
  eqo : ti.eqo = true → P.stoodInHeld t = false ∧ P.eqGuardType P.depth t = false

structure FIok (P : Program) (f : FuncId) (fi : FI) : Prop where
  fn : ∃ fn, P.funcs[f]? = some fn ∧ fn.body = some fi.body ∧ fn.results.toList = fi.results ∧ fn.ntmps = fi.nt ∧ (fn.name == "runtime.NumGoroutine") = false

def XKok (P : Program) (f : FuncId) : XK → Prop
  | .noEscape => ∀ (v : Value) (w : World), (callFunc f #[v]).run P w = .ok (.value v) w
  | .mapsClone => ∀ (t : TypeId) (r : Nat) (es : Array MapEntry) (k : Nat) (w : World), w.heap[r]? = some (.map es k) → (callFunc f #[.iface t (.map (some r))]).run P w = .ok (.value (.iface t (.map (some w.heap.size)))) { w with heap := w.heap.push (.map es k) }
  | .idxB => ∀ (l : List UInt8) (m : Nat) (w : World), m ≤ 255 → (callFunc f #[.string ⟨l.toArray⟩, .int .u8 (m : Int)]).run P w = .ok (.value (match idxOfB m l 0 with | some i => .int .i64 (i : Int) | none => .int .i64 (-1))) w
  | .cntB => ∀ (l : List UInt8) (m : Nat) (w : World), m ≤ 255 → (callFunc f #[.string ⟨l.toArray⟩, .int .u8 (m : Int)]).run P w = .ok (.value (.int .i64 ((cntOfB m l 0 : Nat) : Int))) w
  | _ => True

structure EnvOk (E : Env) (P : Program) : Prop where
  ty : ∀ t ti, E.ty t = some ti → TIok P t ti
  fn : ∀ f fi, E.fn f = some fi → FIok P f fi
  ext : ∀ f, XKok P f (E.ext f)
  mixed : P.follows .mixedOrders = true

mutual
theorem VR_ofV (φ : Map) : ∀ v : Value, VR φ (ofV v) v
  | .bool _ => rfl
  | .int _ _ => rfl
  | .string s => by
    show Value.string s = .string ⟨s.data.toList.toArray⟩
    simp
  | .pointer none => rfl
  | .pointer (some _) => rfl
  | .slice none _ c => ⟨c, rfl, rfl⟩
  | .slice (some _) _ _ => rfl
  | .map none => rfl
  | .map (some _) => rfl
  | .func (.func _) a b => ⟨a, b, rfl, VRL_ofVA φ a, VRL_ofVA φ b⟩
  | .func (.method _) _ _ => rfl
  | .func (.methodOf _ _) _ _ => rfl
  | .func (.via _ _ _ _) _ _ => rfl
  | .func (.yield _) _ _ => rfl
  | .nilFunc => rfl
  | .iface _ v => ⟨v, rfl, VR_ofV φ v⟩
  | .nilIface => rfl
  | .agg cs => ⟨cs, rfl, VRL_ofVA φ cs⟩
  | .tuple cs => ⟨cs, rfl, VRL_ofVA φ cs⟩
  | .float _ _ => rfl
  | .complex _ _ _ => rfl
  | .chan _ => rfl
theorem VRL_ofVA (φ : Map) : ∀ a : Array Value, VRL φ (ofVA a) a.toList
  | ⟨l⟩ => VRL_ofVL φ l
theorem VRL_ofVL (φ : Map) : ∀ l : List Value, VRL φ (ofVL l) l
  | [] => rfl
  | v :: l => ⟨v, l, rfl, VR_ofV φ v, VRL_ofVL φ l⟩
end

theorem VR.cells {φ : Map} {v : V} {c : Value} (h : VR φ v c) : VRL φ v.cells c.cells.toList := by
  cases v with
  | agg vs => obtain ⟨a, rfl, r⟩ := h; exact r
  | bool b => cases h; exact ⟨_, _, rfl, rfl, rfl⟩
  | int k n => cases h; exact ⟨_, _, rfl, rfl, rfl⟩
  | str s => cases h; exact ⟨_, _, rfl, rfl, rfl⟩
  | ptr a =>
    cases a with
    | none => cases h; exact ⟨_, _, rfl, rfl, rfl⟩
    | some p => obtain ⟨l, hl, rfl⟩ := h; exact ⟨_, _, rfl, ⟨l, hl, rfl⟩, rfl⟩
  | slice a n k =>
    cases a with
    | none => obtain ⟨m, rfl, rfl⟩ := h; exact ⟨_, _, rfl, ⟨m, rfl, rfl⟩, rfl⟩
    | some p => obtain ⟨l, hl, rfl⟩ := h; exact ⟨_, _, rfl, ⟨l, hl, rfl⟩, rfl⟩
  | esl => obtain ⟨a, n, rfl⟩ := h; exact ⟨_, _, rfl, ⟨a, n, rfl⟩, rfl⟩
  | map r =>
    cases r with
    | none => cases h; exact ⟨_, _, rfl, rfl, rfl⟩
    | some p => obtain ⟨l, hl, rfl⟩ := h; exact ⟨_, _, rfl, ⟨l, hl, rfl⟩, rfl⟩
  | func f a b => obtain ⟨a', b', rfl, ha, hb⟩ := h; exact ⟨_, _, rfl, ⟨a', b', rfl, ha, hb⟩, rfl⟩
  | yield r => obtain ⟨l, hl, rfl⟩ := h; exact ⟨_, _, rfl, ⟨l, hl, rfl⟩, rfl⟩
  | nilFunc => cases h; exact ⟨_, _, rfl, rfl, rfl⟩
  | iface t v => obtain ⟨c', rfl, r⟩ := h; exact ⟨_, _, rfl, ⟨c', rfl, r⟩, rfl⟩
  | nilIface => cases h; exact ⟨_, _, rfl, rfl, rfl⟩
  | tuple vs => obtain ⟨a, rfl, r⟩ := h; exact ⟨_, _, rfl, ⟨a, rfl, r⟩, rfl⟩
  | bad =>
    simp only [VR] at h
    cases c <;> simp [Value.isCell] at h <;> exact ⟨_, _, rfl, rfl, rfl⟩

theorem VR.isCell {φ : Map} {v : V} {c : Value} (h : VR φ v c) (hv : v.isCell = true) : Value.isCell c = true := by
  cases v with
  | agg vs => simp [V.isCell] at hv
  | tuple vs => simp [V.isCell] at hv
  | bool b => cases h; rfl
  | int k n => cases h; rfl
  | str s => cases h; rfl
  | ptr a =>
    cases a with
    | none => cases h; rfl
    | some p => obtain ⟨l, hl, rfl⟩ := h; rfl
  | slice a n k =>
    cases a with
    | none => obtain ⟨m, rfl, rfl⟩ := h; rfl
    | some p => obtain ⟨l, hl, rfl⟩ := h; rfl
  | esl => obtain ⟨a, n, rfl⟩ := h; rfl
  | map r =>
    cases r with
    | none => cases h; rfl
    | some p => obtain ⟨l, hl, rfl⟩ := h; rfl
  | func f a b => obtain ⟨a', b', rfl, ha, hb⟩ := h; rfl
  | yield r => obtain ⟨l, hl, rfl⟩ := h; rfl
  | nilFunc => cases h; rfl
  | iface t v => obtain ⟨c', rfl, r⟩ := h; rfl
  | nilIface => cases h; rfl
  | bad => exact h

theorem VRL.cellsAll {φ : Map} : ∀ {vs : List V} {cs : List Value}, VRL φ vs cs → allCells vs = true → ∀ c ∈ cs, Value.isCell c = true
  | [], _, h, _ => by simp only [VRL] at h; subst h; simp
  | v :: vs, _, ⟨c, cs, e, r, rs⟩, ha => by
    subst e
    simp only [allCells] at ha
    cases hv : v.isCell with
    | false => simp [hv] at ha
    | true =>
      simp only [hv, cond_true] at ha
      intro x hx
      rcases List.mem_cons.1 hx with rfl | hx
      · exact VR.isCell r hv
      · exact VRL.cellsAll rs ha x hx

/-! ## cells -/
def setMany : Array Value → Nat → List Value → Array Value
  | a, _, [] => a
  | a, o, v :: vs => setMany (a.setIfInBounds o v) (o + 1) vs

theorem setMany_size : ∀ (vs : List Value) (a : Array Value) (o : Nat), (setMany a o vs).size = a.size
  | [], _, _ => rfl
  | v :: vs, a, o => by simp [setMany, setMany_size vs]

theorem setMany_get : ∀ (vs : List Value) (a : Array Value) (o j : Nat), (setMany a o vs)[j]? = if o ≤ j ∧ j < o + vs.length ∧ j < a.size then vs[j - o]? else a[j]?
  | [], a, o, j => by simp only [setMany, List.length_nil]; rw [if_neg (by omega)]
  | v :: vs, a, o, j => by
    simp only [setMany, setMany_get vs, Array.size_setIfInBounds, List.length_cons]
    by_cases h : j = o
    · subst h
      rw [if_neg (by omega)]
      by_cases hj : j < a.size
      · rw [if_pos (by omega)]; simp [hj]
      · rw [if_neg (by omega)]; simp [hj]
    · rw [Array.getElem?_setIfInBounds_ne (by omega)]
      by_cases h1 : o + 1 ≤ j ∧ j < o + 1 + vs.length ∧ j < a.size
      · rw [if_pos h1, if_pos (by omega)]
        obtain ⟨k, hk⟩ : ∃ k, j - o = k + 1 := ⟨j - o - 1, by omega⟩
        rw [hk, List.getElem?_cons_succ]
        congr 1; omega
      · rw [if_neg h1, if_neg (by omega)]

theorem setCells_heap (b : Nat) : ∀ (vs : List Value) (o : Nat) (w : World) (arr : Array Value) (elem : TypeId) (fz : Nat × Nat), w.heap[b]? = some (.cells arr elem fz) →
    (w.setCells b o vs).heap[b]? = some (.cells (setMany arr o vs) elem fz) ∧ (∀ b', b' ≠ b → (w.setCells b o vs).heap[b']? = w.heap[b']?) ∧ (w.setCells b o vs).heap.size = w.heap.size ∧
    (w.setCells b o vs).os = w.os ∧ (w.setCells b o vs).output = w.output ∧ (w.setCells b o vs).tape = w.tape
  | [], o, w, arr, elem, fz, h => ⟨h, fun _ _ => rfl, rfl, rfl, rfl, rfl⟩
  | v :: vs, o, w, arr, elem, fz, h => by
    have hb : (w.setCell ⟨b, o, none⟩ v).heap[b]? = some (.cells (arr.setIfInBounds o v) elem fz) := by
      simp only [World.setCell, Array.getElem?_modify, if_true, h]; rfl
    obtain ⟨h1, h2, h3, h4, h5, h6⟩ := setCells_heap b vs (o + 1) (w.setCell ⟨b, o, none⟩ v) _ _ _ hb
    refine ⟨by simpa [World.setCells, setMany] using h1, fun b' hb' => ?_, ?_, ?_, ?_, ?_⟩
    · show ((w.setCell ⟨b, o, none⟩ v).setCells b (o + 1) vs).heap[b']? = _
      rw [h2 b' hb']
      simp only [World.setCell, Array.getElem?_modify, if_neg (Ne.symm hb')]
    · show ((w.setCell ⟨b, o, none⟩ v).setCells b (o + 1) vs).heap.size = _
      rw [h3]; simp [World.setCell]
    · show ((w.setCell ⟨b, o, none⟩ v).setCells b (o + 1) vs).os = _
      rw [h4]; rfl
    · show ((w.setCell ⟨b, o, none⟩ v).setCells b (o + 1) vs).output = _
      rw [h5]; rfl
    · show ((w.setCell ⟨b, o, none⟩ v).setCells b (o + 1) vs).tape = _
      rw [h6]; rfl

theorem cell?_of {w : World} {b o : Nat} {arr : Array Value} {elem : TypeId} {fz : Nat × Nat} (h : w.heap[b]? = some (.cells arr elem fz)) : w.cell? ⟨b, o, none⟩ = arr[o]? := by
  simp [World.cell?, h]

theorem frozen?_of {w : World} {b o : Nat} {arr : Array Value} {elem : TypeId} {fz : Nat × Nat} (h : w.heap[b]? = some (.cells arr elem fz)) : w.frozen? ⟨b, o, none⟩ = (decide (fz.1 ≤ o) && decide (o < fz.2)) := by
  obtain ⟨lo, hi⟩ := fz
  simp [World.frozen?, h]

theorem addr_add (b o n : Nat) : (⟨b, o, none⟩ : Addr).add n = ⟨b, o + n, none⟩ := by unfold Addr.add; split <;> simp_all

/-- so many cells of a block -/
theorem run_load_row {P : Program} {w : World} {b o n : Nat} {arr : Array Value} {elem : TypeId} {fz : Nat × Nat} (h : w.heap[b]? = some (.cells arr elem fz)) (hn : o + n ≤ arr.size ∨ n = 0) :
    (loadCells ⟨b, o, none⟩ n).run P w = .ok ((arr.toList.drop o).take n).toArray w := by
  have hl : ((arr.toList.drop o).take n).length = n := by
    rcases hn with hn | hn
    · simp; omega
    · subst hn; simp
  have := run_loadCells_list (P := P) w ⟨b, o, none⟩ ((arr.toList.drop o).take n) (fun j v hj => by
    rw [addr_add, cell?_of h]
    have hjn : j < n := by
      have := (List.getElem?_eq_some_iff.1 hj).1
      omega
    rw [List.getElem?_take_of_lt hjn, List.getElem?_drop] at hj
    rw [← hj]; simp)
  rwa [hl] at this

theorem run_sizeOf {P : Program} {t : TypeId} {ti : TI} (h : TIok P t ti) (w : World) : (sizeOf t).run P w = .ok ti.size w := by
  obtain ⟨i, z, hi, hs, _⟩ := h.info
  simp [sizeOf, typeInfo, hi, hs]

theorem run_isAgg {P : Program} {t : TypeId} {ti : TI} (h : TIok P t ti) (w : World) : (isAgg t).run P w = .ok ti.agg w := by
  rw [h.agg]
  simp only [isAgg, Sem.run_bind, run_underlying h.und, Result.andThen_ok]
  cases ti.d <;> rfl

theorem run_typeInfo {P : Program} {t : TypeId} {ti : TI} (h : TIok P t ti) (w : World) : ∃ i, (typeInfo t).run P w = .ok i w ∧ i.bytes = ti.bytes ∧ i.size = ti.size := by
  obtain ⟨i, z, hi, hs, hb, _⟩ := h.info
  exact ⟨i, by simp [typeInfo, hi], hb, hs⟩

theorem run_zeroValue {P : Program} {t : TypeId} {ti : TI} (h : TIok P t ti) (w : World) : ∃ z, (zeroValue t).run P w = .ok z w ∧ ti.zero = (ofV z).cells ∧ zeroOf ti = ofV z := by
  obtain ⟨i, z, hi, hs, hb, hz, h1, h2⟩ := h.info
  exact ⟨z, by simp [zeroValue, typeInfo, hi, hz], h1, h2⟩

/-- cells of an abstract block, out of the concrete one -/
theorem VRL_of_cells {φ : Map} {cs : List V} {arr : Array Value} {base : Nat} (hc : ∀ j c, cs[j]? = some c → ∃ x, arr[base + j]? = some x ∧ VR φ c x) :
    VRL φ cs ((arr.toList.drop base).take cs.length) ∧ (base + cs.length ≤ arr.size ∨ cs = []) := by
  induction cs generalizing base with
  | nil => exact ⟨by simp [VRL], .inr rfl⟩
  | cons c cs ih =>
    obtain ⟨x, hx, hr⟩ := hc 0 c rfl
    simp only [Nat.add_zero] at hx
    obtain ⟨h1, h2⟩ := ih (base := base + 1) (fun j d hj => by
      have := hc (j + 1) d (by simpa using hj)
      rwa [show base + (j + 1) = base + 1 + j by omega] at this)
    have hlt : base < arr.size := (Array.getElem?_eq_some_iff.1 hx).1
    have hd : arr.toList.drop base = x :: arr.toList.drop (base + 1) := by
      rw [List.drop_eq_getElem_cons (by simpa using hlt)]
      congr 1
      have := (Array.getElem?_eq_some_iff.1 hx).2
      simpa using this
    refine ⟨⟨x, _, by rw [hd]; rfl, hr, by simpa using h1⟩, .inl ?_⟩
    rcases h2 with h2 | h2
    · simp; omega
    · subst h2; simp; omega

theorem run_load_of {P : Program} {w : World} {a : Addr} {v : Value} (h : w.cell? a = some v) : (load a).run P w = .ok v w := by
  simp [load, Sem.run, h]

/-- a variable read out of a block -/
theorem run_loadVar_of {P : Program} {φ : Map} {w : World} {t : TypeId} {ti : TI} {l : Loc} {cs : List V} {opn : Nat} {ro : Bool} {off : Nat} {v : V}
    (ht : TIok P t ti) (ho : ObB φ l (.cells cs opn ro) (w.heap[l.blk]?)) (hv : partOf ti.agg ti.size (dropN off cs) = some v) :
    ∃ c, (loadVar t ⟨l.blk, l.base + off, none⟩).run P w = .ok c w ∧ VR φ v c := by
  obtain ⟨arr, elem, fz, hb, hc, _, _⟩ := ho
  obtain ⟨hr, hsz⟩ := VRL_of_cells hc
  have hd := VRL.dropN (n := off) hr
  simp only [loadVar, Sem.run_bind, run_isAgg ht, Result.andThen_ok]
  unfold partOf at hv
  cases ha : ti.agg with
  | true =>
    rw [ha] at hv
    simp only [cond_true] at hv
    split at hv
    · rename_i ws hws
      simp only [Option.some.injEq] at hv; subst hv
      obtain ⟨h1, h2⟩ := VRL.takeN hd hws
      have hn : l.base + off + ti.size ≤ arr.size ∨ ti.size = 0 := by
        by_cases h0 : ti.size = 0
        · exact .inr h0
        · left
          simp at h2
          omega
      refine ⟨.agg ((arr.toList.drop (l.base + off)).take ti.size).toArray, ?_, _, rfl, ?_⟩
      · simp only [if_true, Sem.run_bind, run_sizeOf ht, Result.andThen_ok, run_load_row hb hn, Sem.run_pure]
      · have : ((arr.toList.drop (l.base + off)).take ti.size) = (((arr.toList.drop l.base).take cs.length).drop off).take ti.size := by
          rw [List.drop_take, List.take_take, List.drop_drop]
          congr 1
          simp at h2
          omega
        simp only [this]
        exact h1
    · simp at hv
  | false =>
    rw [ha] at hv
    simp only [cond_false] at hv
    split at hv
    · rename_i c' cs' hcs
      simp only [Option.some.injEq] at hv; subst hv
      rw [hcs] at hd
      obtain ⟨x, xs, hx, hvr, _⟩ := hd
      refine ⟨x, ?_, hvr⟩
      have : arr[l.base + off]? = some x := by
        have h0 : (((arr.toList.drop l.base).take cs.length).drop off)[0]? = some x := by rw [hx]; rfl
        rw [List.getElem?_drop, Nat.add_zero] at h0
        have hlt : off < cs.length := by
          have := (List.getElem?_eq_some_iff.1 h0).1
          simp at this; omega
        rw [List.getElem?_take_of_lt hlt, List.getElem?_drop] at h0
        simpa using h0
      simp only [Bool.false_eq_true, if_false, run_load_of (show w.cell? ⟨l.blk, l.base + off, none⟩ = some x by rw [cell?_of hb, this])]
    · simp at hv

end Go.AM

namespace Go.AM
open Go

def DR (φ : Map) : D → Deferred → Prop
  | .call f args, d => ∃ cap as, d = { target := .fn (.func f) cap, args := as } ∧ VRL φ args (as ++ cap).toList
  | .mark id, d => ∃ l, φ id = some l ∧ d = { target := .collected l.blk, args := #[] }

def ORok (P : Program) (φ : Map) (w : World) (r : Result Next) : OR → Prop
  | .val v => (∃ c, r = .ok (.value c) w ∧ VR φ v c) ∨ (r = .ok .skip w ∧ VR φ v undef)
  | .pan v => ∃ c, r = .halt (.panic c) w ∧ VR φ v c
  | .defer d => ∃ dd, r = .ok (.defer dd) w ∧ DR φ d dd
  | .recover => r = .ok .recover w
  | .call f args => ∃ cs, r = (callFunc f cs).run P w ∧ VRL φ args cs.toList
  | .round l args => ∃ L cs, φ l = some L ∧ r = (Instr.yield L.blk cs).run P w ∧ VRL φ args cs.toList

def Good (P : Program) (φ : Map) (s : S) (w : World) (q : Q OR) (r : Result Next) : Prop :=
  ∀ o s', q.eval s = some (o, s') → ∃ φ' w', Rel φ' s' w' ∧ Keep φ w φ' w' ∧ ORok P φ' w' r o

section
variable {P : Program} {φ : Map} {s : S} {w : World} {E : Env}

theorem good_fail {why : String} {r : Result Next} : Good P φ s w (.fail why) r := fun o s' h => by simp [Q.eval] at h

theorem good_ret {o : OR} {r : Result Next} (h : Rel φ s w) (ho : ORok P φ w r o) : Good P φ s w (.ret o) r := fun o' s' e => by
  simp only [Q.eval, Option.some.injEq, Prod.mk.injEq] at e
  obtain ⟨rfl, rfl⟩ := e
  exact ⟨φ, w, h, Keep.refl _ _, ho⟩

theorem good_retV {v : V} {c : Value} {r : Result Next} (h : Rel φ s w) (hr : r = .ok (.value c) w) (hv : VR φ v c) : Good P φ s w (retV v) r :=
  good_ret h (.inl ⟨c, hr, hv⟩)

theorem good_val {why : String} {v : Option V} {r : Result Next} (h : Rel φ s w) (hr : ∀ x, v = some x → ∃ c, r = .ok (.value c) w ∧ VR φ x c) : Good P φ s w (.val why v) r := by
  cases v with
  | none => exact good_fail
  | some x =>
    obtain ⟨c, e, hv⟩ := hr x rfl
    exact good_retV h e hv

theorem good_rd {id : Nat} {f : Ob → Q OR} {r : Result Next} (h : ∀ o, s.h.get id = some o → Good P φ (s.rd id) w (f o) r) : Good P φ s w (.rd id f) r := fun o s' e => by
  simp only [Q.eval] at e
  split at e
  · rename_i ob hob; exact h ob hob o s' e
  · simp at e

theorem good_step {s₁ : S} {φ₁ : Map} {w₁ : World} {q : Q OR} {r : Result Next} (hk : Keep φ w φ₁ w₁) (h : Good P φ₁ s₁ w₁ q r) :
    ∀ o s', q.eval s₁ = some (o, s') → ∃ φ' w', Rel φ' s' w' ∧ Keep φ w φ' w' ∧ ORok P φ' w' r o := fun o s' e => by
  obtain ⟨φ', w', h1, h2, h3⟩ := h o s' e
  exact ⟨φ', w', h1, hk.trans h2, h3⟩

/-- a new block of the call's own -/
theorem good_new {o : Ob} {ob : Obj} {f : Nat → Q OR} {r : Result Next} {l : Loc} (h : Rel φ s w) (hl : l.blk = w.heap.size) (ho : ObB (φ.upd s.n l) l o (some ob))
    (hf : Rel (φ.upd s.n l) (s.new o) { w with heap := w.heap.push ob } → Good P (φ.upd s.n l) (s.new o) { w with heap := w.heap.push ob } (f s.n) r) (hro : l.ro = false := by rfl) : Good P φ s w (.new o f) r :=
  good_step (Keep.alloc h hl hro) (hf (Rel.alloc h hl ho))

theorem run_v {x : Sem Value} {c : Value} {w' : World} (h : x.run P w = .ok c w') : (do pure (.value (← x)) : Sem Next).run P w = .ok (.value c) w' := by
  simp [h]

theorem run_u {x : Sem Unit} {w' : World} (h : x.run P w = .ok () w') : (do x; pure .skip : Sem Next).run P w = .ok .skip w' := by
  simp [h]

theorem run_pan {x : Sem Value} {c : Value} {w' : World} (h : x.run P w = .halt (.panic c) w') : (do pure (.value (← x)) : Sem Next).run P w = .halt (.panic c) w' := by
  simp [h]

/-! ### memory -/
theorem good_load (hE : EnvOk E P) (h : Rel φ s w) {t : TypeId} {a : V} {c : Value} (ha : VR φ a c) :
    Good P φ s w (loadAt E t a) ((do pure (.value (← Instr.loadAt t c)) : Sem Next).run P w) := by
  unfold loadAt
  split
  · rename_i id off
    refine good_rd fun o ho => ?_
    split
    · rename_i cs opn ro
      split
      · rename_i ti hti
        refine good_val (h.rd _) fun x hx => ?_
        obtain ⟨l, hl, rfl⟩ := ha
        obtain ⟨l', hl', hob⟩ := h.obj _ _ ho
        rw [hl] at hl'; cases hl'
        obtain ⟨c, hc, hv⟩ := run_loadVar_of (hE.ty _ _ hti) hob hx
        exact ⟨c, run_v (by simp [Instr.loadAt, Instr.sureAddr, hc]), hv⟩
      · exact good_fail
    · exact good_fail
  · exact good_fail

theorem over_spec : ∀ {vs cs cs' : List V}, over vs cs = some cs' → cs' = vs ++ cs.drop vs.length ∧ vs.length ≤ cs.length
  | [], cs, _, e => by simp only [over, Option.some.injEq] at e; subst e; exact ⟨by simp, by simp⟩
  | v :: vs, [], _, e => by simp [over] at e
  | v :: vs, c :: cs, _, e => by
    simp only [over] at e
    split at e
    · rename_i l hl
      simp only [Option.some.injEq] at e; subst e
      obtain ⟨rfl, h2⟩ := over_spec hl
      exact ⟨by simp, by simp; omega⟩
    · simp at e

theorem splice_spec : ∀ {n : Nat} {cs vs cs' : List V}, splice n cs vs = some cs' → cs' = cs.take n ++ vs ++ cs.drop (n + vs.length) ∧ n + vs.length ≤ cs.length
  | 0, cs, vs, _, e => by
    obtain ⟨rfl, h⟩ := over_spec e
    exact ⟨by simp, by omega⟩
  | n + 1, [], vs, _, e => by simp [splice] at e
  | n + 1, c :: cs, vs, _, e => by
    simp only [splice] at e
    split at e
    · rename_i l hl
      simp only [Option.some.injEq] at e; subst e
      obtain ⟨rfl, h2⟩ := splice_spec hl
      refine ⟨by simp [show n + 1 + vs.length = n + vs.length + 1 by omega], by simp; omega⟩
    · simp at e

theorem splice_get {n : Nat} {cs vs cs' : List V} (e : splice n cs vs = some cs') (j : Nat) : cs'[j]? = if n ≤ j ∧ j < n + vs.length then vs[j - n]? else cs[j]? := by
  obtain ⟨rfl, h⟩ := splice_spec e
  by_cases h1 : j < n
  · rw [if_neg (by omega), List.append_assoc, List.getElem?_append_left (by simp; omega), List.getElem?_take_of_lt h1]
  · by_cases h2 : j < n + vs.length
    · rw [if_pos ⟨by omega, h2⟩, List.append_assoc, List.getElem?_append_right (by simp; omega), List.getElem?_append_left (by simp; omega)]
      congr 1
      simp; omega
    · rw [if_neg (by omega), List.getElem?_append_right (by simp; omega), List.getElem?_drop]
      congr 1
      simp; omega

theorem oneCell_of {c : Value} (h : Value.isCell c = true) : c.oneCell' = true := by
  cases c <;> simp [Value.isCell] at h <;> rfl

/-- cells written over a part of a block that may be written -/
theorem run_storeCells_of {l : Loc} {cs cs' vs : List V} {opn : Nat} {off : Nat} {xs : List Value}
    (ho : ObB φ l (.cells cs opn false) (w.heap[l.blk]?)) (hs : splice off cs vs = some cs') (hv : VRL φ vs xs) (hc : ∀ c ∈ xs, Value.isCell c = true) :
    ∃ w', (storeCells ⟨l.blk, l.base + off, none⟩ xs).run P w = .ok () w' ∧ w'.heap.size = w.heap.size ∧ (∀ b, b ≠ l.blk → w'.heap[b]? = w.heap[b]?) ∧
      ObB φ l (.cells cs' opn false) (w'.heap[l.blk]?) ∧ w'.os = w.os ∧ w'.output = w.output ∧ w'.tape = w.tape := by
  obtain ⟨arr, elem, fz, hb, hcs, hop, hro⟩ := ho
  obtain ⟨hro1, hro2⟩ := hro rfl
  have hlen := VRL.length hv
  obtain ⟨_, hsz⟩ := splice_spec hs
  have hin : ∀ j, j < xs.length → l.base + off + j < arr.size := fun j hj => by
    obtain ⟨x, hx, _⟩ := hcs (off + j) (cs[off + j]'(by omega)) (List.getElem?_eq_getElem (by omega))
    have := (Array.getElem?_eq_some_iff.1 hx).1
    omega
  refine ⟨w.setCells l.blk (l.base + off) xs, ?_, ?_⟩
  · have := run_storeCells_cells (P := P) l.blk (l.base + off) xs 0 w (fun j hj => by
      rw [cell?_of hb, Nat.add_zero]; simp [hin j hj]) (fun j hj => by
      rw [frozen?_of hb, Nat.add_zero]
      have := hro2 (l.base + off + j) (by omega) (hin j hj)
      simp only [Bool.and_eq_false_iff, decide_eq_false_iff_not]
      omega) (fun v hv => oneCell_of (hc v hv))
    simpa using this
  · obtain ⟨h1, h2, h3, h4, h5, h6⟩ := setCells_heap l.blk xs (l.base + off) w arr elem fz hb
    refine ⟨h3, h2, ?_, h4, h5, h6⟩
    refine ⟨_, elem, fz, h1, fun j c hj => ?_, fun e => by rw [setMany_size]; exact hop e, fun _ => ⟨hro1, fun j hj1 hj2 => hro2 j hj1 (by rwa [setMany_size] at hj2)⟩⟩
    rw [splice_get hs] at hj
    rw [setMany_get]
    split at hj
    · rename_i hj'
      obtain ⟨x, hx, hr⟩ := VRL.get hv hj
      refine ⟨x, ?_, hr⟩
      have := hin (j - off) (by omega)
      rw [if_pos (by omega), ← hx]
      congr 1; omega
    · rename_i hj'
      obtain ⟨x, hx, hr⟩ := hcs j c hj
      exact ⟨x, by rw [if_neg (by omega)]; exact hx, hr⟩

theorem eval_putCells {id off : Nat} {vs : List V} {v : V} {o : OR} {s' : S} (e : (AM.putCells id off vs v).eval s = some (o, s')) :
    ∃ cs opn cs', s.h.get id = some (.cells cs opn false) ∧ allCells vs = true ∧ splice off cs vs = some cs' ∧ o = .val v ∧ s' = (s.rd id).wr id (some (.cells cs' opn false)) := by
  unfold AM.putCells at e
  simp only [Q.eval] at e
  split at e
  · rename_i ob hob
    cases ob with
    | cells cs opn ro =>
      cases ro with
      | true => simp [Q.eval] at e
      | false =>
        simp only at e
        cases ha : allCells vs with
        | false => simp [ha, Q.eval] at e
        | true =>
          simp only [ha, cond_true] at e
          split at e
          · rename_i cs' hcs'
            simp only [Q.eval, retV, Option.some.injEq, Prod.mk.injEq] at e
            exact ⟨cs, opn, cs', hob, rfl, hcs', e.1.symm, e.2.symm⟩
          · simp [Q.eval] at e
    | _ => simp [Q.eval] at e
  · simp at e

theorem rel_putCells (h : Rel φ s w) {id off : Nat} {vs : List V} {v : V} {o : OR} {s' : S} (e : (AM.putCells id off vs v).eval s = some (o, s')) {l : Loc} (hl : φ id = some l)
    {xs : List Value} (hv : VRL φ vs xs) :
    ∃ w', (storeCells ⟨l.blk, l.base + off, none⟩ xs).run P w = .ok () w' ∧ Rel φ s' w' ∧ Keep φ w φ w' ∧ o = .val v := by
  obtain ⟨cs, opn, cs', hob, ha, hsp, rfl, rfl⟩ := eval_putCells e
  obtain ⟨l', hl', hobB⟩ := h.obj _ _ hob
  rw [hl] at hl'; cases hl'
  obtain ⟨w', hr, h1, h2, h3, h4, h5, h6⟩ := run_storeCells_of (P := P) hobB hsp hv (VRL.cellsAll hv ha)
  have hro : l.ro = false := by obtain ⟨_, _, _, _, _, _, hro⟩ := hobB; exact (hro rfl).1
  exact ⟨w', hr, (h.rd id).wr hl hro (show (s.rd id).h.get id ≠ none by show s.h.get id ≠ none; simp [hob]) h1 h2 h3, Keep.wr hl hro h1 h2 h4 h5 h6, rfl⟩

theorem good_store (hE : EnvOk E P) (h : Rel φ s w) {t : TypeId} {a x : V} {c d : Value} (ha : VR φ a c) (hx : VR φ x d) :
    Good P φ s w (storeAt E t a x) ((do Instr.storeAt t c d; pure .skip : Sem Next).run P w) := by
  unfold storeAt
  split
  · rename_i id off
    split
    · rename_i ti hti
      cases hsz : Nat.beq x.cells.length ti.size with
      | false => exact good_fail
      | true =>
        simp only [cond_true]
        intro o s' e
        obtain ⟨l, hl, rfl⟩ := ha
        obtain ⟨w', hr, h1, h2, rfl⟩ := rel_putCells (P := P) h e hl hx.cells
        refine ⟨φ, w', h1, h2, .inr ⟨run_u ?_, #[], rfl, rfl⟩⟩
        have hsz' : d.cells.size = ti.size := by
          have := VRL.length hx.cells
          have h2 := Nat.eq_of_beq_eq_true hsz
          simp at this; omega
        simp [Instr.storeAt, Instr.sureAddr, storeVar, run_sizeOf (hE.ty _ _ hti), hsz', hr]
    · exact good_fail
  · exact good_fail

theorem good_alloc (hE : EnvOk E P) (h : Rel φ s w) {e : TypeId} : Good P φ s w (allocOf E e) ((do pure (.value (← Instr.alloc e true (.tuple #[]))) : Sem Next).run P w) := by
  unfold allocOf
  split
  · rename_i ti hti
    obtain ⟨z, hz, h1, _⟩ := run_zeroValue (hE.ty _ _ hti) w
    refine good_new (ob := .cells z.cells e) (l := ⟨w.heap.size, 0, 0, 0, false⟩) h rfl ?_ fun hr => ?_
    · refine ⟨z.cells, e, (0, 0), rfl, fun j c hj => ?_, fun e => absurd rfl e, fun _ => ⟨rfl, fun j _ _ => by omega⟩⟩
      rw [h1] at hj
      obtain ⟨x, hx, hv⟩ := VRL.get (VR_ofV _ z).cells hj
      exact ⟨x, by simpa using hx, hv⟩
    · refine good_retV (c := .pointer (some ⟨w.heap.size, 0, none⟩)) hr (run_v ?_) ⟨_, Map.upd_self, rfl⟩
      simp [Instr.alloc, hz, newVar, newRow, newObj, Sem.run]
  · exact good_fail

theorem good_box (h : Rel φ s w) {e : TypeId} {v : V} {c : Value} (hv : VR φ v c) : Good P φ s w (boxOf v) ((do pure (.value (← Instr.box e c)) : Sem Next).run P w) := by
  unfold boxOf
  refine good_new (ob := .cells c.cells e) (l := ⟨w.heap.size, 0, 0, 0, false⟩) h rfl ?_ fun hr => ?_
  · refine ⟨c.cells, e, (0, 0), rfl, fun j d hj => ?_, fun e => absurd rfl e, fun _ => ⟨rfl, fun j _ _ => by omega⟩⟩
    obtain ⟨x, hx, hv⟩ := VRL.get hv.cells hj
    exact ⟨x, by simpa using hx, VR.mono (Map.upd_ext h.fresh) _ _ hv⟩
  · refine good_retV (c := .pointer (some ⟨w.heap.size, 0, none⟩)) hr (run_v ?_) ⟨_, Map.upd_self, rfl⟩
    simp [Instr.box, newVar, newRow, newObj, Sem.run]

end
end Go.AM

namespace Go.AM
open Go

theorem wrapQ_eq (k : IntKind) (n : Int) : wrapQ k n = k.wrap n := by
  unfold wrapQ
  split
  · rename_i m
    cases h : Nat.ble m (lim k) with
    | false => rfl
    | true =>
      simp only [cond_true]
      have h' := Nat.le_of_ble_eq_true h
      cases k <;> simp only [lim] at h' <;> simp [IntKind.wrap, IntKind.bits, IntKind.signed] <;> omega
  · rfl

theorem ltI_eq (a b : Int) : ltI a b = decide (a < b) := by
  cases a with
  | ofNat a => cases b with
    | ofNat b =>
      simp only [ltI]
      rw [Bool.eq_iff_iff, Nat.ble_eq]
      simp only [decide_eq_true_eq, Int.ofNat_eq_natCast]
      omega
    | negSucc b => simp only [ltI]; symm; simp; omega
  | negSucc a => cases b with
    | ofNat b => simp only [ltI]; symm; simp; omega
    | negSucc b =>
      simp only [ltI]
      rw [Bool.eq_iff_iff, Nat.ble_eq]
      simp only [decide_eq_true_eq]
      omega

theorem beqN (a b : Nat) : Nat.beq a b = decide (a = b) := by
  rw [Bool.eq_iff_iff, Nat.beq_eq]; simp

theorem eqI_eq (a b : Int) : eqI a b = (a == b) := by
  rw [show (a == b) = decide (a = b) from by by_cases h : a = b <;> simp [h]]
  cases a with
  | ofNat a => cases b with
    | ofNat b => simp only [eqI, beqN, Int.ofNat_eq_natCast, Int.natCast_inj]
    | negSucc b => simp [eqI]
  | negSucc a => cases b with
    | ofNat b => simp [eqI]
    | negSucc b => simp only [eqI, beqN, Int.negSucc_inj]

theorem kindEq_eq (a b : IntKind) : kindEq a b = decide (a = b) := by cases a <;> cases b <;> rfl

theorem lim_pow (k : IntKind) : ∃ p, lim k + 1 = 2 ^ p ∧ p ≤ k.bits := by
  cases k
  · exact ⟨7, by decide, by decide⟩
  · exact ⟨15, by decide, by decide⟩
  · exact ⟨31, by decide, by decide⟩
  · exact ⟨63, by decide, by decide⟩
  · exact ⟨8, by decide, by decide⟩
  · exact ⟨16, by decide, by decide⟩
  · exact ⟨32, by decide, by decide⟩
  · exact ⟨64, by decide, by decide⟩

theorem wrap_small {k : IntKind} {n : Nat} (h : n ≤ lim k) : k.wrap (n : Int) = n := by
  have := wrapQ_eq k (.ofNat n)
  simp only [wrapQ, Nat.ble_eq_true_of_le h, cond_true] at this
  exact this.symm

theorem ofInt_nat (w n : Nat) : BitVec.ofInt w (n : Int) = BitVec.ofNat w n := by
  apply BitVec.eq_of_toNat_eq
  simp only [BitVec.toNat_ofInt, BitVec.toNat_ofNat]
  omega

theorem bitQ_and (k : IntKind) (a b : Int) : bitQ Nat.land (k.wrap (BitVec.ofInt k.bits a &&& BitVec.ofInt k.bits b).toNat) k a b = .int k (k.wrap (BitVec.ofInt k.bits a &&& BitVec.ofInt k.bits b).toNat) := by
  unfold bitQ
  split
  · rename_i x y
    cases hx : Nat.ble x (lim k) with
    | false => rfl
    | true => cases hy : Nat.ble y (lim k) with
      | false => rfl
      | true =>
        simp only [cond_true]
        have hx' := Nat.le_of_ble_eq_true hx
        have hy' := Nat.le_of_ble_eq_true hy
        obtain ⟨p, hp, hpb⟩ := lim_pow k
        have hle : 2 ^ p ≤ 2 ^ k.bits := Nat.pow_le_pow_right (by decide) hpb
        congr 1
        simp only [Int.ofNat_eq_natCast, ofInt_nat, BitVec.toNat_and, BitVec.toNat_ofNat]
        rw [Nat.mod_eq_of_lt (by omega : x < 2 ^ k.bits), Nat.mod_eq_of_lt (by omega : y < 2 ^ k.bits)]
        symm
        exact wrap_small (Nat.le_trans Nat.and_le_left hx')
  · rfl

theorem bitQ_or (k : IntKind) (a b : Int) : bitQ Nat.lor (k.wrap (BitVec.ofInt k.bits a ||| BitVec.ofInt k.bits b).toNat) k a b = .int k (k.wrap (BitVec.ofInt k.bits a ||| BitVec.ofInt k.bits b).toNat) := by
  unfold bitQ
  split
  · rename_i x y
    cases hx : Nat.ble x (lim k) with
    | false => rfl
    | true => cases hy : Nat.ble y (lim k) with
      | false => rfl
      | true =>
        simp only [cond_true]
        have hx' := Nat.le_of_ble_eq_true hx
        have hy' := Nat.le_of_ble_eq_true hy
        obtain ⟨p, hp, hpb⟩ := lim_pow k
        have hle : 2 ^ p ≤ 2 ^ k.bits := Nat.pow_le_pow_right (by decide) hpb
        congr 1
        simp only [Int.ofNat_eq_natCast, ofInt_nat, BitVec.toNat_or, BitVec.toNat_ofNat]
        rw [Nat.mod_eq_of_lt (by omega : x < 2 ^ k.bits), Nat.mod_eq_of_lt (by omega : y < 2 ^ k.bits)]
        symm
        have : x ||| y < 2 ^ p := Nat.or_lt_two_pow (by omega) (by omega)
        exact wrap_small (by show x ||| y ≤ _; omega)
  · rfl

theorem bitQ_xor (k : IntKind) (a b : Int) : bitQ Nat.xor (k.wrap (BitVec.ofInt k.bits a ^^^ BitVec.ofInt k.bits b).toNat) k a b = .int k (k.wrap (BitVec.ofInt k.bits a ^^^ BitVec.ofInt k.bits b).toNat) := by
  unfold bitQ
  split
  · rename_i x y
    cases hx : Nat.ble x (lim k) with
    | false => rfl
    | true => cases hy : Nat.ble y (lim k) with
      | false => rfl
      | true =>
        simp only [cond_true]
        have hx' := Nat.le_of_ble_eq_true hx
        have hy' := Nat.le_of_ble_eq_true hy
        obtain ⟨p, hp, hpb⟩ := lim_pow k
        have hle : 2 ^ p ≤ 2 ^ k.bits := Nat.pow_le_pow_right (by decide) hpb
        congr 1
        simp only [Int.ofNat_eq_natCast, ofInt_nat, BitVec.toNat_xor, BitVec.toNat_ofNat]
        rw [Nat.mod_eq_of_lt (by omega : x < 2 ^ k.bits), Nat.mod_eq_of_lt (by omega : y < 2 ^ k.bits)]
        symm
        have : x ^^^ y < 2 ^ p := Nat.xor_lt_two_pow (by omega) (by omega)
        exact wrap_small (by show x ^^^ y ≤ _; omega)
  · rfl

section
variable {P : Program} {φ : Map} {s : S} {w : World} {E : Env}

theorem run_binInt {op : BinOp} {t : TypeId} {k k' : IntKind} {a b : Int} {v : V} (hk : (or (isShift op) (kindEq k k')) = true) (h : intOp op k a b = some v) :
    ∃ c, (Go.binOp op t (.int k a) (.int k' b)).run P w = .ok c w ∧ VR φ v c := by
  have hk' : isShift op = false → k = k' := fun e => by
    rw [e, kindEq_eq] at hk; simpa using hk
  cases op <;> simp only [intOp] at h
  case add => obtain rfl := hk' rfl; cases h; exact ⟨.int k (k.wrap (a + b)), by simp [Go.binOp, Op.intArith], by rw [wrapQ_eq]; rfl⟩
  case sub => obtain rfl := hk' rfl; cases h; exact ⟨.int k (k.wrap (a - b)), by simp [Go.binOp, Op.intArith], by rw [wrapQ_eq]; rfl⟩
  case mul => obtain rfl := hk' rfl; cases h; exact ⟨.int k (k.wrap (a * b)), by simp [Go.binOp, Op.intArith], by rw [wrapQ_eq]; rfl⟩
  case quo =>
    obtain rfl := hk' rfl
    unfold iQuo at h
    cases hb : eqI b 0 with
    | true => simp [hb] at h
    | false =>
      rw [hb, cond_false] at h
      cases h
      have hb' : b ≠ 0 := by rw [eqI_eq] at hb; simpa using hb
      exact ⟨.int k (k.wrap (a.tdiv b)), by simp [Go.binOp, Op.intDiv, hb'], by rw [wrapQ_eq]; rfl⟩
  case rem =>
    obtain rfl := hk' rfl
    unfold iRem at h
    cases hb : eqI b 0 with
    | true => simp [hb] at h
    | false =>
      rw [hb, cond_false] at h
      cases h
      have hb' : b ≠ 0 := by rw [eqI_eq] at hb; simpa using hb
      exact ⟨.int k (a.tmod b), by simp [Go.binOp, Op.intDiv, hb'], rfl⟩
  case and => obtain rfl := hk' rfl; unfold iAnd at h; rw [bitQ_and] at h; cases h; exact ⟨_, by simp [Go.binOp, Op.intBits], rfl⟩
  case or => obtain rfl := hk' rfl; unfold iOr at h; rw [bitQ_or] at h; cases h; exact ⟨_, by simp [Go.binOp, Op.intBits], rfl⟩
  case xor => obtain rfl := hk' rfl; unfold iXor at h; rw [bitQ_xor] at h; cases h; exact ⟨_, by simp [Go.binOp, Op.intBits], rfl⟩
  case andNot => obtain rfl := hk' rfl; cases h; exact ⟨_, by simp [Go.binOp, Op.intBits], rfl⟩
  case shl =>
    unfold iShl at h
    cases hb : ltI b 0 with
    | true => simp [hb] at h
    | false =>
      rw [hb, cond_false] at h
      cases h
      have hb' : ¬ b < 0 := by rw [ltI_eq] at hb; simpa using hb
      refine ⟨.int k (k.wrap (a * 2 ^ min b.toNat k.bits)), by simp [Go.binOp, Op.shift, hb'], ?_⟩
      rw [wrapQ_eq]
      show _ = _
      congr 2
  case shr =>
    unfold iShr at h
    cases hb : ltI b 0 with
    | true => simp [hb] at h
    | false =>
      rw [hb, cond_false] at h
      cases h
      have hb' : ¬ b < 0 := by rw [ltI_eq] at hb; simpa using hb
      refine ⟨.int k (a.fdiv (2 ^ min b.toNat k.bits)), by simp [Go.binOp, Op.shift, hb'], ?_⟩
      show _ = _
      congr 1
  case eql => obtain rfl := hk' rfl; cases h; exact ⟨.bool (a == b), by simp [Go.binOp, Op.intCmp], by rw [eqI_eq]; rfl⟩
  case neq => obtain rfl := hk' rfl; cases h; exact ⟨.bool (a != b), by simp [Go.binOp, Op.intCmp], by rw [eqI_eq]; rfl⟩
  case lss => obtain rfl := hk' rfl; cases h; exact ⟨.bool (decide (a < b)), by simp [Go.binOp, Op.intCmp], by rw [ltI_eq]; rfl⟩
  case leq =>
    obtain rfl := hk' rfl; cases h
    refine ⟨.bool (decide (a ≤ b)), by simp [Go.binOp, Op.intCmp], ?_⟩
    rw [ltI_eq]
    show _ = _
    congr 1
    rw [Bool.eq_iff_iff]; simp
  case gtr => obtain rfl := hk' rfl; cases h; exact ⟨.bool (decide (a > b)), by simp [Go.binOp, Op.intCmp], by rw [ltI_eq]; rfl⟩
  case geq =>
    obtain rfl := hk' rfl; cases h
    refine ⟨.bool (decide (a ≥ b)), by simp [Go.binOp, Op.intCmp], ?_⟩
    rw [ltI_eq]
    show _ = _
    congr 1
    rw [Bool.eq_iff_iff]; simp

theorem eqB_eq : ∀ a b : List UInt8, eqB a b = (a == b)
  | [], [] => rfl
  | [], _ :: _ => rfl
  | _ :: _, [] => rfl
  | a :: x, b :: y => by
    simp only [eqB, eqB_eq x y]
    by_cases h : a.toNat = b.toNat
    · have : a = b := UInt8.toNat_inj.1 h
      subst this
      simp [beqN]
    · have : a ≠ b := fun e => h (by rw [e])
      simp [beqN, h, this]

theorem ltB_eq : ∀ a b : List UInt8, ltB a b = Op.bytesLess a b
  | [], [] => rfl
  | [], _ :: _ => rfl
  | _ :: _, [] => rfl
  | a :: x, b :: y => by
    simp only [ltB, Op.bytesLess, ltB_eq x y]
    by_cases h : a.toNat < b.toNat
    · have h1 : Nat.ble (Nat.succ a.toNat) b.toNat = true := Nat.ble_eq_true_of_le h
      have h2 : a < b := h
      simp [h1, h2]
    · have h1 : Nat.ble (Nat.succ a.toNat) b.toNat = false := by
        cases e : Nat.ble (Nat.succ a.toNat) b.toNat with
        | false => rfl
        | true => exact absurd (Nat.le_of_ble_eq_true e) h
      have h2 : ¬ a < b := h
      by_cases h3 : a.toNat = b.toNat
      · have : a = b := UInt8.toNat_inj.1 h3
        subst this
        simp [beqN, h1, h2]
      · have : a ≠ b := fun e => h3 (by rw [e])
        simp [beqN, h1, h2, h3, this]

theorem run_binStr {op : BinOp} {t : TypeId} {a b : List UInt8} {v : V} (h : strOp op a b = some v) :
    ∃ c, (Go.binOp op t (.string ⟨a.toArray⟩) (.string ⟨b.toArray⟩)).run P w = .ok c w ∧ VR φ v c := by
  have e : ∀ l : List UInt8, (ByteArray.mk l.toArray).toList = l := fun l => by rw [ByteArray.toList_eq]
  cases op <;> simp only [strOp] at h
  all_goals try (cases h; done)
  case add =>
    cases hl : Nat.ble (a.length + b.length) 4611686018427387904 with
    | false => simp [hl] at h
    | true =>
      rw [hl, cond_true] at h
      cases h
      have hl' := Nat.le_of_ble_eq_true hl
      have hsz : ∀ l : List UInt8, (ByteArray.mk l.toArray).size = l.length := fun l => by simp [ByteArray.size]
      refine ⟨.string (⟨a.toArray⟩ ++ ⟨b.toArray⟩), ?_, ?_⟩
      · have : ¬ ((((ByteArray.mk a.toArray).size + (ByteArray.mk b.toArray).size : Nat) : Int) > IntKind.i64.max) := by
          rw [hsz, hsz]
          simp [IntKind.max, IntKind.signed, IntKind.bits]
          omega
        simp only [Go.binOp, Op.stringOp, if_neg this]
        rfl
      · show _ = _
        congr 1
  case eql => cases h; exact ⟨_, rfl, by rw [eqB_eq, e, e]; rfl⟩
  case neq => cases h; exact ⟨_, rfl, by rw [eqB_eq, e, e]; rfl⟩
  case lss => cases h; exact ⟨_, rfl, by rw [ltB_eq, e, e]; rfl⟩
  case leq => cases h; exact ⟨_, rfl, by rw [ltB_eq, eqB_eq, e, e]; rfl⟩
  case gtr => cases h; exact ⟨_, rfl, by rw [ltB_eq, eqB_eq, e, e]; rfl⟩
  case geq => cases h; exact ⟨_, rfl, by rw [ltB_eq, e, e]; rfl⟩

end
end Go.AM

namespace Go.AM
open Go

section
variable {P : Program} {φ : Map} {s : S} {w : World} {E : Env}

theorem run_part_of {t : TypeId} {ti : TI} {vs : List V} {a : Array Value} {off : Nat} {v : V} (ht : TIok P t ti) (hv : VRL φ vs a.toList) (h : partOf ti.agg ti.size (dropN off vs) = some v) :
    ∃ c, (part t a off).run P w = .ok c w ∧ VR φ v c := by
  have hd := VRL.dropN (n := off) hv
  simp only [part, Sem.run_bind, run_isAgg ht, Result.andThen_ok]
  unfold partOf at h
  cases ha : ti.agg with
  | true =>
    rw [ha] at h
    simp only [cond_true] at h
    split at h
    · rename_i ws hws
      cases h
      obtain ⟨h1, _⟩ := VRL.takeN hd hws
      refine ⟨.agg (a.extract off (off + ti.size)), by simp [run_sizeOf ht], _, rfl, ?_⟩
      rw [Array.toList_extract]
      simpa [List.extract_eq_take_drop] using h1
    · cases h
  | false =>
    rw [ha] at h
    simp only [cond_false] at h
    split at h
    · rename_i c' cs' hcs
      cases h
      rw [hcs] at hd
      obtain ⟨x, xs, hx, hvr, _⟩ := hd
      have : a[off]? = some x := by
        have h0 : (a.toList.drop off)[0]? = some x := by rw [hx]; rfl
        rw [List.getElem?_drop, Nat.add_zero] at h0
        simpa using h0
      exact ⟨x, by simp [this], hvr⟩
    · cases h

theorem fieldsOf_of {t : TypeId} {fs : Array Field} (h : P.underlying t = some (.struct fs)) : P.fieldsOf t = fs := by simp [Program.fieldsOf, h]

theorem run_eqFs (hE : EnvOk E P) {r : TypeId → V → V → Option Bool} {d : Nat} {xs ys : List V} {a b : Array Value} (hx : VRL φ xs a.toList) (hy : VRL φ ys b.toList)
    (hr : ∀ t x y c c' o, r t x y = some o → VR φ x c → VR φ y c' → (Op.equalIn d t c c').run P w = .ok o w) :
    ∀ (fs : List Field) (o : Bool), eqFs E r xs ys fs = some o → (Op.eqFields d a b fs).run P w = .ok o w
  | [], o, h => by simp only [eqFs, Option.some.injEq] at h; subst h; simp [Op.eqFields]
  | f :: fs, o, h => by
    simp only [eqFs] at h
    simp only [Op.eqFields]
    by_cases hn : f.name = "_"
    · have : (f.name == "_") = true := by simp [hn]
      rw [this, cond_true] at h
      rw [if_neg (by simp [hn])]
      exact run_eqFs hE hx hy hr fs o h
    · have : (f.name == "_") = false := by simp [hn]
      rw [this, cond_false] at h
      rw [if_pos hn]
      unfold partV at h
      cases ht : E.ty f.type with
      | none => simp [ht] at h
      | some ti =>
        simp only [ht] at h
        split at h
        · cases h
        · rename_i x hxx
          split at h
          · cases h
          · rename_i y hyy
            obtain ⟨c, hc, hvc⟩ := run_part_of (w := w) (hE.ty _ _ ht) hx hxx
            obtain ⟨c', hc', hvc'⟩ := run_part_of (w := w) (hE.ty _ _ ht) hy hyy
            split at h
            · cases h
            · rename_i hrr
              cases h
              simp [hc, hc', hr _ _ _ _ _ _ hrr hvc hvc']
            · rename_i hrr
              simp only [Sem.run_bind, hc, hc', hr _ _ _ _ _ _ hrr hvc hvc', Result.andThen_ok]
              simpa using run_eqFs hE hx hy hr fs o h

/-- what '==' of arrays does, element by element -/
def eqElems (d : Nat) (e : TypeId) (n : Nat) (a b : Array Value) : List Nat → Sem Bool
  | [] => pure true
  | i :: l => do
    let x ← part e a (i * n)
    let y ← part e b (i * n)
    let r ← Op.equalIn d e x y
    if (!r) = true then pure false else eqElems d e n a b l

theorem run_equalIn_array (d : Nat) (t e : TypeId) (len size : Nat) (a b : Array Value) (ht : P.underlying t = some (.array len e)) (hs : ∀ w, (sizeOf e).run P w = .ok size w) :
    (Op.equalIn (d + 1) t (.agg a) (.agg b)).run P w = (eqElems d e size a b (List.range' 0 len)).run P w := by
  simp only [Op.equalIn, Sem.run_bind, run_underlying ht, Result.andThen_ok, hs]
  simp only [Std.Legacy.Range.forIn_eq_forIn_range', Std.Legacy.Range.size]
  simp only [Nat.sub_zero, Nat.add_sub_cancel, Nat.div_one]
  generalize List.range' 0 len = l
  induction l generalizing w with
  | nil => simp [eqElems]
  | cons i l ih =>
    simp only [List.forIn_cons, eqElems, Sem.run_bind]
    generalize (part e a (i * size)).run P w = r1
    cases r1 with
    | ok a' w1 =>
      simp only [Result.andThen_ok]
      generalize (part e b (i * size)).run P w1 = r2
      cases r2 with
      | ok b' w2 =>
        simp only [Result.andThen_ok]
        generalize (Op.equalIn d e a' b').run P w2 = r3
        cases r3 with
        | ok r w3 =>
          cases r
          · simp only [Result.andThen_ok, Bool.not_false, if_true, Sem.run_pure]
          · simp only [Result.andThen_ok, Bool.not_true, Bool.false_eq_true, if_false, Sem.run_pure]
            exact ih
        | halt x w3 => simp [Result.andThen]
      | halt x w2 => simp [Result.andThen]
    | halt x w1 => simp [Result.andThen]

theorem dropN_add (a : Nat) : ∀ (b : Nat) (cs : List V), dropN a (dropN b cs) = dropN (b + a) cs
  | 0, cs => by simp [dropN]
  | b + 1, [] => by
    have : ∀ n, dropN n ([] : List V) = [] := fun n => by cases n <;> rfl
    simp [this]
  | b + 1, c :: cs => by
    rw [show b + 1 + a = (b + a) + 1 by omega]
    exact dropN_add a b cs

theorem run_eqEs {te : TI} {e : TypeId} (hte : TIok P e te) {r : V → V → Option Bool} {d : Nat} {xs ys : List V} {a b : Array Value} (hx : VRL φ xs a.toList) (hy : VRL φ ys b.toList)
    (hr : ∀ x y c c' o, r x y = some o → VR φ x c → VR φ y c' → (Op.equalIn d e c c').run P w = .ok o w) :
    ∀ (n i : Nat) (o : Bool), eqEs te.agg te.size r n (dropN (i * te.size) xs) (dropN (i * te.size) ys) = some o → (eqElems d e te.size a b (List.range' i n)).run P w = .ok o w
  | 0, i, o, h => by simp only [eqEs, Option.some.injEq] at h; subst h; simp [eqElems]
  | n + 1, i, o, h => by
    simp only [eqEs] at h
    simp only [List.range'_succ, eqElems]
    split at h
    · cases h
    · rename_i x hxx
      split at h
      · cases h
      · rename_i y hyy
        obtain ⟨c, hc, hvc⟩ := run_part_of (w := w) hte hx hxx
        obtain ⟨c', hc', hvc'⟩ := run_part_of (w := w) hte hy hyy
        split at h
        · cases h
        · rename_i hrr
          cases h
          simp [hc, hc', hr _ _ _ _ _ hrr hvc hvc']
        · rename_i hrr
          rw [dropN_add, dropN_add, show i * te.size + te.size = (i + 1) * te.size by rw [Nat.add_mul, Nat.one_mul]] at h
          simp only [Sem.run_bind, hc, hc', hr _ _ _ _ _ hrr hvc hvc', Result.andThen_ok]
          simpa using run_eqEs hte hx hy hr n (i + 1) o h

theorem eqV_sound (hE : EnvOk E P) : ∀ (d D : Nat), d ≤ D → ∀ (t : TypeId) (x y : V) (c c' : Value) (o : Bool), eqV E d t x y = some o → VR φ x c → VR φ y c' →
    (Op.equalIn D t c c').run P w = .ok o w := by
  intro d
  induction d with
  | zero => intro D _ t x y c c' o h; simp [eqV] at h
  | succ d ih =>
    intro D hD t x y c c' o h hx hy
    obtain ⟨D, rfl⟩ : ∃ k, D = k + 1 := ⟨D - 1, by omega⟩
    simp only [eqV] at h
    cases hti : E.ty t with
    | none => simp [hti] at h
    | some ti =>
      simp only [hti] at h
      have hok := hE.ty _ _ hti
      have hu := hok.und
      cases hd : ti.d <;> simp only [hd] at h
      all_goals try (cases h; done)
      case succ.some.bool =>
        rw [hd] at hu
        cases x <;> try (cases h; done)
        cases y <;> try (cases h; done)
        simp only [eqBool, Option.some.injEq] at h
        cases hx; cases hy; subst h
        exact run_equalIn_bool w D t _ _ hu
      case succ.some.int k =>
        rw [hd] at hu
        cases x <;> try (cases h; done)
        cases y <;> try (cases h; done)
        rename_i k1 a k2 b
        simp only [eqInt] at h
        cases hk : kindEq k1 k2 with
        | false => simp [hk] at h
        | true =>
          rw [hk, cond_true] at h
          cases h
          rw [kindEq_eq] at hk
          have : k1 = k2 := by simpa using hk
          subst this
          cases hx; cases hy
          rw [eqI_eq]
          exact run_equalIn_int w D t _ _ _ _ hu
      case succ.some.string =>
        rw [hd] at hu
        cases x <;> try (cases h; done)
        cases y <;> try (cases h; done)
        simp only [eqStr, Option.some.injEq] at h
        cases hx; cases hy; subst h
        rw [run_equalIn_string w D t _ _ hu, eqB_eq, ByteArray.toList_eq, ByteArray.toList_eq]
      case succ.some.pointer e =>
        rw [hd] at hu
        cases x <;> try (cases h; done)
        rename_i p
        cases p with
        | none =>
          cases y <;> try (cases h; done)
          rename_i p'
          cases hx
          cases p' with
          | none => simp only [eqPtr, Option.some.injEq] at h; subst h; cases hy; simp [Op.equalIn, run_underlying hu]
          | some q => simp only [eqPtr, Option.some.injEq] at h; subst h; obtain ⟨l, _, rfl⟩ := hy; simp [Op.equalIn, run_underlying hu]
        | some q =>
          cases y <;> try (cases h; done)
          rename_i p'
          obtain ⟨l, _, rfl⟩ := hx
          cases p' with
          | none => simp only [eqPtr, Option.some.injEq] at h; subst h; cases hy; simp [Op.equalIn, run_underlying hu]
          | some q => simp [eqPtr] at h
      case succ.some.interface ms =>
        rw [hd] at hu
        cases x <;> try (cases h; done)
        · rename_i tx vx
          cases y <;> try (cases h; done)
          obtain ⟨c1, rfl, _⟩ := hx
          simp only [eqIface, Option.some.injEq] at h; subst h; cases hy
          simp [Op.equalIn, run_underlying hu]
        · cases y <;> try (cases h; done)
          · obtain ⟨c1, rfl, _⟩ := hy
            simp only [eqIface, Option.some.injEq] at h; subst h; cases hx
            simp [Op.equalIn, run_underlying hu]
          · simp only [eqIface, Option.some.injEq] at h; subst h; cases hx; cases hy
            simp [Op.equalIn, run_underlying hu]
      case succ.some.slice e =>
        rw [hd] at hu
        cases x <;> try (cases h; done)
        · rename_i p n k
          cases p with
          | none =>
            obtain ⟨m, _, rfl⟩ := hx
            cases y <;> try (cases h; done)
            · rename_i p' n' k'
              cases p' with
              | none => simp only [eqSlice, Option.some.injEq] at h; subst h; obtain ⟨m', _, rfl⟩ := hy; simp [Op.equalIn, run_underlying hu]
              | some q => simp only [eqSlice, Option.some.injEq] at h; subst h; obtain ⟨l, _, rfl⟩ := hy; simp [Op.equalIn, run_underlying hu]
            · simp only [eqSlice, Option.some.injEq] at h; subst h; obtain ⟨a, m1, rfl⟩ := hy; simp [Op.equalIn, run_underlying hu]
          | some q =>
            obtain ⟨l, _, rfl⟩ := hx
            cases y <;> try (cases h; done)
            rename_i p' n' k'
            cases p' with
            | none => simp only [eqSlice, Option.some.injEq] at h; subst h; obtain ⟨m', _, rfl⟩ := hy; simp [Op.equalIn, run_underlying hu]
            | some q => simp [eqSlice] at h
        · obtain ⟨a, m1, rfl⟩ := hx
          cases y <;> try (cases h; done)
          rename_i p' n' k'
          cases p' with
          | none => simp only [eqSlice, Option.some.injEq] at h; subst h; obtain ⟨m', _, rfl⟩ := hy; simp [Op.equalIn, run_underlying hu]
          | some q => simp [eqSlice] at h
      case succ.some.map e1 e2 =>
        rw [hd] at hu
        cases x <;> try (cases h; done)
        rename_i p
        cases p with
        | none =>
          cases y <;> try (cases h; done)
          rename_i p'
          cases hx
          cases p' with
          | none => simp only [eqMap, Option.some.injEq] at h; subst h; cases hy; simp [Op.equalIn, run_underlying hu]
          | some q => simp only [eqMap, Option.some.injEq] at h; subst h; obtain ⟨l, _, rfl⟩ := hy; simp [Op.equalIn, run_underlying hu]
        | some q =>
          cases y <;> try (cases h; done)
          rename_i p'
          obtain ⟨l, _, rfl⟩ := hx
          cases p' with
          | none => simp only [eqMap, Option.some.injEq] at h; subst h; cases hy; simp [Op.equalIn, run_underlying hu]
          | some q => simp [eqMap] at h
      case succ.some.func e1 e2 e3 =>
        rw [hd] at hu
        cases x <;> try (cases h; done)
        · rename_i f a b
          cases y <;> try (cases h; done)
          obtain ⟨a', b', rfl, _, _⟩ := hx
          simp only [eqFunc, Option.some.injEq] at h; subst h; cases hy
          simp [Op.equalIn, run_underlying hu]
        · cases y <;> try (cases h; done)
          · obtain ⟨a', b', rfl, _, _⟩ := hy
            simp only [eqFunc, Option.some.injEq] at h; subst h; cases hx
            simp [Op.equalIn, run_underlying hu]
          · simp only [eqFunc, Option.some.injEq] at h; subst h; cases hx; cases hy
            simp [Op.equalIn, run_underlying hu]
      case succ.some.struct fs =>
        rw [hd] at hu
        cases he : ti.eqo with
        | false => simp [he] at h
        | true =>
          rw [he, cond_true] at h
          cases x <;> try (cases h; done)
          cases y <;> try (cases h; done)
          rename_i xs ys
          simp only [eqAgg] at h
          obtain ⟨a, rfl, ha⟩ := hx
          obtain ⟨b, rfl, hb⟩ := hy
          rw [run_equalIn_struct w D t a b (by rw [fieldsOf_of hu]; exact hu) (hok.eqo he).1, fieldsOf_of hu]
          exact run_eqFs hE ha hb (fun t x y c c' o h hx hy => ih D (by omega) t x y c c' o h hx hy) _ _ h
      case succ.some.array n e =>
        rw [hd] at hu
        cases he : ti.eqo with
        | false => simp [he] at h
        | true =>
          rw [he, cond_true] at h
          cases hte : E.ty e with
          | none => simp [hte] at h
          | some te =>
            simp only [hte] at h
            cases x <;> try (cases h; done)
            cases y <;> try (cases h; done)
            rename_i xs ys
            simp only [eqAgg] at h
            obtain ⟨a, rfl, ha⟩ := hx
            obtain ⟨b, rfl, hb⟩ := hy
            rw [run_equalIn_array D t e n te.size a b hu (fun w => run_sizeOf (hE.ty _ _ hte) w)]
            exact run_eqEs (hE.ty _ _ hte) ha hb (fun x y c c' o h hx hy => ih D (by omega) e x y c c' o h hx hy) n 0 o (by simpa [dropN] using h)

end
end Go.AM

namespace Go.AM
open Go

section
variable {P : Program} {φ : Map} {s : S} {w : World} {E : Env}

theorem eqV_bad_l {d : Nat} {t : TypeId} {y : V} {o : Bool} : eqV E d t .bad y = some o → False := by
  cases d with
  | zero => intro h; simp [eqV] at h
  | succ d =>
    intro h
    simp only [eqV] at h
    cases hti : E.ty t with
    | none => simp [hti] at h
    | some ti =>
      simp only [hti] at h
      cases hd : ti.d <;> simp only [hd] at h
      all_goals try (cases h; done)
      all_goals try (cases y <;> cases h; done)
      case succ.some.array n e =>
        cases he : ti.eqo with
        | false => simp [he] at h
        | true =>
          simp only [he, cond_true] at h
          cases hte : E.ty e with
          | none => simp [hte] at h
          | some te => simp [hte, eqAgg] at h
      case succ.some.struct fs =>
        cases he : ti.eqo with
        | false => simp [he] at h
        | true => simp [he, eqAgg] at h

theorem eqV_bad_r {d : Nat} {t : TypeId} {x : V} {o : Bool} : eqV E d t x .bad = some o → False := by
  cases d with
  | zero => intro h; simp [eqV] at h
  | succ d =>
    intro h
    simp only [eqV] at h
    cases hti : E.ty t with
    | none => simp [hti] at h
    | some ti =>
      simp only [hti] at h
      cases hd : ti.d <;> simp only [hd] at h
      all_goals try (cases h; done)
      case succ.some.array n e =>
        cases he : ti.eqo with
        | false => simp [he] at h
        | true =>
          simp only [he, cond_true] at h
          cases hte : E.ty e with
          | none => simp [hte] at h
          | some te => cases x <;> simp [hte, eqAgg] at h
      case succ.some.struct fs =>
        cases he : ti.eqo with
        | false => simp [he] at h
        | true => cases x <;> simp [he, eqAgg] at h
      case succ.some.bool => cases x <;> simp [eqBool] at h
      case succ.some.int => cases x <;> simp [eqInt] at h
      case succ.some.string => cases x <;> simp [eqStr] at h
      case succ.some.pointer =>
        cases x <;> try (simp [eqPtr] at h; done)
        rename_i p; cases p <;> simp [eqPtr] at h
      case succ.some.slice =>
        cases x <;> try (simp [eqSlice] at h; done)
        rename_i p _ _; cases p <;> simp [eqSlice] at h
      case succ.some.map =>
        cases x <;> try (simp [eqMap] at h; done)
        rename_i p; cases p <;> simp [eqMap] at h
      case succ.some.func => cases x <;> simp [eqFunc] at h
      case succ.some.interface => cases x <;> simp [eqIface] at h

theorem eqV_agg {d : Nat} {t : TypeId} {xs ys : List V} {o : Bool} (hE : EnvOk E P) (h : eqV E d t (.agg xs) (.agg ys) = some o) : P.eqGuardType P.depth t = false := by
  cases d with
  | zero => simp [eqV] at h
  | succ d =>
    simp only [eqV] at h
    cases hti : E.ty t with
    | none => simp [hti] at h
    | some ti =>
      simp only [hti] at h
      have hok := hE.ty _ _ hti
      cases hd : ti.d <;> simp only [hd] at h
      all_goals try (cases h; done)
      case succ.some.array n e =>
        cases he : ti.eqo with
        | false => simp [he] at h
        | true => exact (hok.eqo he).2
      case succ.some.struct fs =>
        cases he : ti.eqo with
        | false => simp [he] at h
        | true => exact (hok.eqo he).2

theorem run_eqGuard_ne {op : BinOp} {t : TypeId} {x y : Operand} {c d : Value} (h : ¬ (c = .nilIface ∧ d = .nilIface)) (h' : ∀ a b, c = .agg a → d = .agg b → P.eqGuardType P.depth t = false) :
    (eqGuard op t x y c d).run P w = .ok () w := by
  have key : ∀ (u v : Sem Unit), (∀ a b, c = .agg a → d = .agg b → v.run P w = .ok () w) →
      (match c, d with
        | .nilIface, .nilIface => u
        | .agg _, .agg _ => v
        | _, _ => pure ()).run P w = .ok () w := fun u v hv => by
    split
    · exact absurd ⟨rfl, rfl⟩ h
    · rename_i a b; exact hv a b rfl rfl
    · rfl
  cases op <;> first
    | rfl
    | (simp only [eqGuard, Bool.not_true, Bool.false_eq_true, if_false]
       refine key _ _ fun a b e1 e2 => ?_
       simp [h' a b e1 e2])

theorem run_eqGuard_nil {op : BinOp} {t : TypeId} {x y : Operand} (h : (or (isConst x) (isConst y)) = true) : (eqGuard op t x y .nilIface .nilIface).run P w = .ok () w := by
  cases op <;> first
    | rfl
    | (cases x <;> cases y <;> simp [isConst] at h <;> rfl)

theorem nilIface_of {v : V} {c : Value} (h : VR φ v c) (hc : c = .nilIface) : v = .nilIface ∨ v = .bad := by
  subst hc
  cases v with
  | nilIface => exact .inl rfl
  | bad => exact .inr rfl
  | agg vs => obtain ⟨a, e, _⟩ := h; cases e
  | tuple vs => obtain ⟨a, e, _⟩ := h; cases e
  | bool b => cases h
  | int k n => cases h
  | str s => cases h
  | ptr a =>
    cases a with
    | none => cases h
    | some p => obtain ⟨l, hl, e⟩ := h; cases e
  | slice a n k =>
    cases a with
    | none => obtain ⟨m, _, e⟩ := h; cases e
    | some p => obtain ⟨l, hl, e⟩ := h; cases e
  | esl => obtain ⟨a, n, e⟩ := h; cases e
  | map r =>
    cases r with
    | none => cases h
    | some p => obtain ⟨l, hl, e⟩ := h; cases e
  | func f a b => obtain ⟨a', b', e, _, _⟩ := h; cases e
  | yield r => obtain ⟨l, hl, e⟩ := h; cases e
  | nilFunc => cases h
  | iface t v => obtain ⟨c', e, r⟩ := h; cases e

theorem agg_of {v : V} {a : Array Value} (h : VR φ v (.agg a)) : ∃ vs, v = .agg vs := by
  cases v with
  | agg vs => exact ⟨vs, rfl⟩
  | bad => simp [VR, Value.isCell] at h
  | nilIface => cases h
  | tuple vs => obtain ⟨a, e, _⟩ := h; cases e
  | bool b => cases h
  | int k n => cases h
  | str s => cases h
  | ptr a =>
    cases a with
    | none => cases h
    | some p => obtain ⟨l, hl, e⟩ := h; cases e
  | slice a n k =>
    cases a with
    | none => obtain ⟨m, _, e⟩ := h; cases e
    | some p => obtain ⟨l, hl, e⟩ := h; cases e
  | esl => obtain ⟨a, n, e⟩ := h; cases e
  | map r =>
    cases r with
    | none => cases h
    | some p => obtain ⟨l, hl, e⟩ := h; cases e
  | func f a b => obtain ⟨a', b', e, _, _⟩ := h; cases e
  | yield r => obtain ⟨l, hl, e⟩ := h; cases e
  | nilFunc => cases h
  | iface t v => obtain ⟨c', e, r⟩ := h; cases e

/-- '==' and '!=' where the two are no numbers and no strings -/
def plainEq : Value → Bool
  | .int _ _ => false
  | .float _ _ => false
  | .complex _ _ _ => false
  | .string _ => false
  | _ => true

theorem binOp_eql {t : TypeId} {c d : Value} (h : plainEq c = true) : Go.binOp .eql t c d = (do pure (.bool (← Op.equal t c d))) := by
  cases c <;> simp [plainEq] at h <;> rfl

theorem binOp_neq {t : TypeId} {c d : Value} (h : plainEq c = true) : Go.binOp .neq t c d = (do pure (.bool (!(← Op.equal t c d)))) := by
  cases c <;> simp [plainEq] at h <;> rfl

def noNum : V → Bool
  | .int _ _ => false
  | .str _ => false
  | .bad => false
  | _ => true

theorem plainEq_of {v : V} {c : Value} (h : VR φ v c) (hv : noNum v = true) : plainEq c = true := by
  cases v with
  | int k n => simp [noNum] at hv
  | str s => simp [noNum] at hv
  | bad => simp [noNum] at hv
  | agg vs => obtain ⟨a, rfl, _⟩ := h; rfl
  | tuple vs => obtain ⟨a, rfl, _⟩ := h; rfl
  | bool b => cases h; rfl
  | ptr a =>
    cases a with
    | none => cases h; rfl
    | some p => obtain ⟨l, hl, rfl⟩ := h; rfl
  | slice a n k =>
    cases a with
    | none => obtain ⟨m, _, rfl⟩ := h; rfl
    | some p => obtain ⟨l, hl, rfl⟩ := h; rfl
  | esl => obtain ⟨a, n, rfl⟩ := h; rfl
  | map r =>
    cases r with
    | none => cases h; rfl
    | some p => obtain ⟨l, hl, rfl⟩ := h; rfl
  | func f a b => obtain ⟨a', b', rfl, _, _⟩ := h; rfl
  | yield r => obtain ⟨l, hl, rfl⟩ := h; rfl
  | nilFunc => cases h; rfl
  | iface t v => obtain ⟨c', rfl, r⟩ := h; rfl
  | nilIface => cases h; rfl

theorem good_bin (hE : EnvOk E P) (h : Rel φ s w) {op : BinOp} {t : TypeId} {x y : Operand} {a b : V} {c d : Value} (ha : VR φ a c) (hb : VR φ b d) :
    Good P φ s w (binAt E op t x y a b) ((do pure (.value (← (do eqGuard op t x y c d; Go.binOp op t c d : Sem Value))) : Sem Next).run P w) := by
  unfold binAt
  cases hg : and (and (isNilIface a) (isNilIface b)) (not (or (isConst x) (isConst y))) with
  | true => exact good_fail
  | false =>
    simp only [cond_false]
    refine good_val h fun v hv => ?_
    have go : ∀ c', (eqGuard op t x y c d).run P w = .ok () w → (Go.binOp op t c d).run P w = .ok c' w →
        (do pure (.value (← (do eqGuard op t x y c d; Go.binOp op t c d : Sem Value))) : Sem Next).run P w = .ok (.value c') w := fun c' h1 h2 => by
      simp [h1, h2]
    have isInt : ∀ {k n}, a = .int k n → ∃ c', (Go.binOp op t c d).run P w = .ok c' w ∧ VR φ v c' ∧ ∃ k n, c = .int k n := fun {k n} e => by
      subst e
      unfold binOf binInt at hv
      cases b <;> try (cases hv; done)
      rename_i k' m
      simp only at hv
      cases hk : (or (isShift op) (kindEq k k')) with
      | false => simp [hk] at hv
      | true =>
        rw [hk, cond_true] at hv
        cases ha; cases hb
        obtain ⟨c', h1, h2⟩ := run_binInt (P := P) (φ := φ) (w := w) (t := t) hk hv
        exact ⟨c', h1, h2, k, n, rfl⟩
    have isStr : ∀ {l}, a = .str l → ∃ c', (Go.binOp op t c d).run P w = .ok c' w ∧ VR φ v c' ∧ ∃ l, c = .string l := fun {l} e => by
      subst e
      unfold binOf binStr at hv
      cases b <;> try (cases hv; done)
      simp only at hv
      cases ha; cases hb
      obtain ⟨c', h1, h2⟩ := run_binStr (P := P) (φ := φ) (w := w) (t := t) hv
      exact ⟨c', h1, h2, _, rfl⟩
    have other : noNum a = true → eqOp E op t a b = some v → ∃ c', (eqGuard op t x y c d).run P w = .ok () w ∧ (Go.binOp op t c d).run P w = .ok c' w ∧ VR φ v c' := fun hn hq => by
      have key : ∃ o, eqV E 100 t a b = some o ∧ ((op = .eql ∧ v = .bool o) ∨ (op = .neq ∧ v = .bool (not o))) := by
        cases op <;> simp only [eqOp] at hq <;> try (cases hq; done)
        · split at hq
          · rename_i o ho; cases hq; exact ⟨o, ho, .inl ⟨rfl, rfl⟩⟩
          · cases hq
        · split at hq
          · rename_i o ho; cases hq; exact ⟨o, ho, .inr ⟨rfl, rfl⟩⟩
          · cases hq
      obtain ⟨o, ho, hop⟩ := key
      have hguard : (eqGuard op t x y c d).run P w = .ok () w := by
        by_cases hnil : c = .nilIface ∧ d = .nilIface
        · obtain ⟨rfl, rfl⟩ := hnil
          rcases nilIface_of ha rfl with rfl | rfl
          · rcases nilIface_of hb rfl with rfl | rfl
            · refine run_eqGuard_nil ?_
              cases h1 : isConst x <;> cases h2 : isConst y <;> simp [isNilIface, h1, h2] at hg ⊢
            · exact (eqV_bad_r ho).elim
          · exact (eqV_bad_l ho).elim
        · refine run_eqGuard_ne hnil fun a' b' e1 e2 => ?_
          subst e1; subst e2
          obtain ⟨vs, rfl⟩ := agg_of ha
          obtain ⟨ws, rfl⟩ := agg_of hb
          exact eqV_agg hE ho
      have heq := eqV_sound (w := w) hE 100 10000 (by omega) t a b c d o ho ha hb
      rcases hop with ⟨rfl, rfl⟩ | ⟨rfl, rfl⟩
      · exact ⟨.bool o, hguard, by rw [binOp_eql (plainEq_of ha hn)]; simp [Op.equal, Op.maxDepth, heq], rfl⟩
      · exact ⟨.bool (!o), hguard, by rw [binOp_neq (plainEq_of ha hn)]; simp [Op.equal, Op.maxDepth, heq], rfl⟩
    have rest : noNum a = true → eqOp E op t a b = some v → ∃ c', (do pure (.value (← (do eqGuard op t x y c d; Go.binOp op t c d : Sem Value))) : Sem Next).run P w = .ok (.value c') w ∧ VR φ v c' := fun h1 h2 => by
      obtain ⟨c', g1, g2, g3⟩ := other h1 h2
      exact ⟨c', go c' g1 g2, g3⟩
    cases a with
    | int k n =>
      obtain ⟨c', h1, h2, k', n', rfl⟩ := isInt rfl
      exact ⟨c', go c' (run_eqGuard_ne (by simp) (fun a b e => by cases e)) h1, h2⟩
    | str l =>
      obtain ⟨c', h1, h2, l', rfl⟩ := isStr rfl
      exact ⟨c', go c' (run_eqGuard_ne (by simp) (fun a b e => by cases e)) h1, h2⟩
    | bad =>
      have : eqOp E op t .bad b = some v := hv
      cases op <;> simp only [eqOp] at this <;> try (cases this; done)
      all_goals
        split at this
        · rename_i o ho; exact (eqV_bad_l ho).elim
        · cases this
    | bool b => exact rest rfl hv
    | ptr a => exact rest rfl hv
    | slice a n k => exact rest rfl hv
    | esl => exact rest rfl hv
    | map r => exact rest rfl hv
    | func f a b => exact rest rfl hv
    | yield r => exact rest rfl hv
    | nilFunc => exact rest rfl hv
    | iface t v => exact rest rfl hv
    | nilIface => exact rest rfl hv
    | agg vs => exact rest rfl hv
    | tuple vs => exact rest rfl hv

theorem good_un (h : Rel φ s w) {op : UnOp} {x : V} {c : Value} (hx : VR φ x c) : Good P φ s w (.val "unOp" (unOf op x)) ((do pure (.value (← Op.unary op c)) : Sem Next).run P w) := by
  refine good_val h fun v hv => ?_
  unfold unOf at hv
  split at hv
  · rename_i k n
    cases hx
    cases op <;> simp only at hv <;> cases hv
    · exact ⟨_, run_v (by simp only [Op.unary, Op.intArith]; rfl), rfl⟩
    · exact ⟨_, run_v (by simp only [Op.unary, Op.intBits]; rfl), rfl⟩
  · cases hx
    cases op <;> simp only at hv <;> cases hv
    exact ⟨_, run_v (by simp only [Op.unary]; rfl), rfl⟩
  · cases hv

end
end Go.AM

namespace Go.AM
open Go

theorem desc_some {E : Env} {t : TypeId} {d : TypeDesc} (h : E.desc t = some d) : ∃ ti, E.ty t = some ti ∧ ti.d = d := by
  unfold Env.desc at h
  split at h
  · rename_i ti hti; cases h; exact ⟨ti, hti, rfl⟩
  · cases h

section
variable {P : Program} {φ : Map} {s : S} {w : World} {E : Env}

theorem und_of (hE : EnvOk E P) {t : TypeId} {d : TypeDesc} (h : E.desc t = some d) : P.underlying t = some d := by
  obtain ⟨ti, hti, rfl⟩ := desc_some h
  exact (hE.ty _ _ hti).und

theorem isU8_of {d : Option TypeDesc} (h : isU8 d = true) : d = some (.int .u8) := by
  unfold isU8 at h
  split at h
  · rfl
  · cases h

theorem byteCells_eq : ∀ l : List UInt8, byteCells l = l.map fun b => V.int .u8 b.toNat
  | [] => rfl
  | b :: l => by simp only [byteCells, byteCells_eq l, List.map_cons]; rfl

theorem VRL_bytes (φ : Map) : ∀ l : List UInt8, VRL φ (byteCells l) (l.map fun b => Value.int .u8 b.toNat)
  | [] => rfl
  | _ :: l => ⟨_, _, rfl, rfl, VRL_bytes φ l⟩

/-- the loop of a string out of bytes -/
theorem run_bytesLoop : ∀ (vs : List V) (cs : List Value) (bs : List UInt8) (acc : ByteArray), VRL φ vs cs → bytesOf vs = some bs →
    (forIn cs acc fun c (r : ByteArray) => (match c with
      | .int .u8 n => pure (ForInStep.yield (r.push (UInt8.ofNat n.toNat)))
      | _ => do
        let _ : PUnit ← stuck "bytesToString: byte expected"
        pure (ForInStep.yield r) : Sem (ForInStep ByteArray))).run P w = .ok ⟨acc.data ++ bs.toArray⟩ w
  | [], cs, bs, acc, h, hb => by
    simp only [VRL] at h; subst h
    simp only [bytesOf, Option.some.injEq] at hb; subst hb
    simp
  | v :: vs, _, bs, acc, ⟨c, cs, e, hv, hvs⟩, hb => by
    subst e
    cases v <;> try (simp [bytesOf] at hb; done)
    rename_i k n
    cases k <;> simp only [bytesOf] at hb <;> try (cases hb; done)
    split at hb
    · rename_i m hm
      cases hb
      cases hv
      simp only [List.forIn_cons, Sem.run_bind, Sem.run_pure, Result.andThen_ok]
      rw [run_bytesLoop vs cs m _ hvs hm]
      congr 1
      congr 1
      show (acc.push _).data ++ _ = _
      rw [ByteArray.data_push]
      simp
    · cases hb

theorem run_bytesToString {a : Addr} {len cap : Nat} {cs : Array Value} {vs : List V} {bs : List UInt8} (hl : (loadCells a len).run P w = .ok cs w) (hv : VRL φ vs cs.toList) (hb : bytesOf vs = some bs) :
    (Conv.bytesToString (.slice (some a) len cap)).run P w = .ok (.string ⟨bs.toArray⟩) w := by
  have key := run_bytesLoop (P := P) (w := w) vs cs.toList bs ByteArray.empty hv hb
  simp only [Conv.bytesToString, Sem.run_bind, hl, Result.andThen_ok]
  rw [← Array.forIn_toList]
  have he : ByteArray.mk (ByteArray.empty.data ++ bs.toArray) = ByteArray.mk bs.toArray := by
    congr 1
    show #[] ++ bs.toArray = _
    simp
  rw [he] at key
  have e : ∀ (f g : Value → ByteArray → Sem (ForInStep ByteArray)), f = g → (forIn cs.toList ByteArray.empty f).run P w = (forIn cs.toList ByteArray.empty g).run P w := fun f g e => by rw [e]
  rw [e _ _ ?_, key]
  · simp
  · funext c r
    cases c with
    | int k n => cases k <;> rfl
    | _ => rfl

/-- so many cells of an abstract block, read -/
theorem run_row_of {l : Loc} {cs ws : List V} {opn : Nat} {ro : Bool} {off n : Nat} (ho : ObB φ l (.cells cs opn ro) (w.heap[l.blk]?)) (h : takeN n (dropN off cs) = some ws) :
    ∃ xs : List Value, (∀ dr, (loadCells ⟨l.blk, l.base + off, none⟩ n).run P { w with drawn := dr } = .ok xs.toArray { w with drawn := dr }) ∧ VRL φ ws xs ∧ xs.length = n := by
  obtain ⟨arr, elem, fz, hb, hc, _, _⟩ := ho
  obtain ⟨hr, hsz⟩ := VRL_of_cells hc
  have hd := VRL.dropN (n := off) hr
  obtain ⟨h1, h2⟩ := VRL.takeN hd h
  have hn : l.base + off + n ≤ arr.size ∨ n = 0 := by
    by_cases h0 : n = 0
    · exact .inr h0
    · left
      simp at h2
      omega
  have e : ((arr.toList.drop (l.base + off)).take n) = (((arr.toList.drop l.base).take cs.length).drop off).take n := by
    rw [List.drop_take, List.take_take, List.drop_drop]
    congr 1
    simp at h2
    omega
  refine ⟨_, fun dr => run_load_row (w := { w with drawn := dr }) hb hn, by rw [e]; exact h1, ?_⟩
  rcases hn with hn | hn
  · simp; omega
  · subst hn; simp

/-- bytes as cells, and room -/
def byteArr (l : List UInt8) (k : Nat) : Array Value := (l.map fun (b : UInt8) => Value.int .u8 b.toNat).toArray ++ Array.replicate (k - l.length) (Value.int .u8 0)
theorem byteArr_size {l : List UInt8} {k : Nat} (h : l.length ≤ k) : (byteArr l k).size = k := by simp [byteArr]; omega

theorem byteVals : ∀ l : List UInt8, VRL φ (byteCells l) (l.map fun b => Value.int .u8 b.toNat)
  | [] => rfl
  | b :: l => ⟨_, _, rfl, rfl, byteVals l⟩

theorem push_modify {α : Type} (a : Array α) (x : α) (f : α → α) : (a.push x).modify a.size f = a.push (f x) := by
  apply Array.ext_getElem?
  intro i
  simp only [Array.getElem?_modify, Array.getElem?_push]
  by_cases h : a.size = i
  · subst h; simp
  · have : ¬ i = a.size := fun e => h e.symm
    simp [h, this]

theorem run_toBytes {e : TypeId} {l : List UInt8} : ∃ newCap, l.length ≤ newCap ∧ (Conv.stringToBytes e ⟨l.toArray⟩).run P w =
    .ok (.slice (some ⟨w.heap.size, 0, none⟩) l.length newCap) { w with heap := w.heap.push (.cells (byteArr l newCap) e (newCap, newCap + 1)), drawn := w.drawn + 1 } := by
  have hsz : (⟨l.toArray⟩ : ByteArray).size = l.length := by simp [ByteArray.size]
  obtain ⟨k, hk, hch⟩ : ∃ k, l.length ≤ k ∧ (choose (.appendCap l.length 0 e)).run P w = .ok k { w with drawn := w.drawn + 1 } :=
    ⟨(Question.appendCap l.length 0 e).cut (w.tape w.drawn (.appendCap l.length 0 e)), by simp [Question.cut], by simp [choose, Sem.run, Question.forced]⟩
  refine ⟨k, hk, ?_⟩
  have harr := byteArr_size hk
  have hmap : (⟨l.toArray⟩ : ByteArray).data.map (fun (b : UInt8) => Value.int .u8 b.toNat) ++ Array.replicate (k - l.length) (Value.int .u8 0) = byteArr l k := by simp [byteArr]
  simp only [Conv.stringToBytes, hsz, Sem.run_bind, hch, Result.andThen_ok, hmap, newRow, newObj]
  generalize byteArr l k = A at *
  simp only [Sem.run, Result.andThen_ok, Sem.run_pure, markStringish, Sem.run_bind, run_shape, World.shape?, Array.getElem?_push_size, run_freeze, World.freeze, harr, Nat.one_ne_zero, if_false, push_modify]
  simp

theorem good_conv (hE : EnvOk E P) (h : Rel φ s w) {a bt : TypeId} {x : V} {c : Value} (hx : VR φ x c) :
    Good P φ s w (convOf E a bt x) ((do pure (.value (← convert a bt c)) : Sem Next).run P w) := by
  unfold convOf
  split
  · rename_i k hdst
    have hd := und_of hE hdst
    split
    · rename_i k' n
      split
      · rename_i d hsrc
        have hs := und_of hE hsrc
        cases hx
        exact good_retV (c := .int k (k.wrap n)) h (run_v (by simp [convert, run_underlying hs, run_underlying hd, Conv.intToInt])) (by rw [wrapQ_eq]; rfl)
      · exact good_fail
    · exact good_fail
  · rename_i hdst
    have hd := und_of hE hdst
    split
    · rename_i l
      split
      · rename_i d hsrc
        have hs := und_of hE hsrc
        cases hx
        exact good_retV h (run_v (by simp [convert, run_underlying hs, run_underlying hd])) rfl
      · exact good_fail
    · rename_i p len cap
      split
      · rename_i e hsrc
        have hs := und_of hE hsrc
        cases hu : isU8 (E.desc e) with
        | false => exact good_fail
        | true =>
          have hue := und_of hE (isU8_of hu)
          simp only [cond_true]
          split
          · obtain ⟨m, _, rfl⟩ := hx
            exact good_retV h (run_v (c := .string .empty) (by simp [convert, run_underlying hs, run_underlying hd, run_underlying hue, Conv.bytesToString])) rfl
          · rename_i id off
            obtain ⟨l, hl, rfl⟩ := hx
            refine good_rd fun o ho => ?_
            split
            · rename_i cs opn ro
              split
              · rename_i ws hws
                split
                · rename_i bs hbs
                  obtain ⟨l', hl', hob⟩ := h.obj _ _ ho
                  rw [hl] at hl'; cases hl'
                  obtain ⟨xs, h1, h2, _⟩ := run_row_of (P := P) hob hws
                  refine good_retV (h.rd _) (run_v ?_) rfl
                  have := run_bytesToString (P := P) (w := w) (cap := cap.conc l) (h1 w.drawn) (by simpa using h2) hbs
                  simp [convert, run_underlying hs, run_underlying hd, run_underlying hue, this]
                · exact good_fail
              · exact good_fail
            · exact good_fail
      · exact good_fail
    · exact good_fail
  · rename_i e hdst
    have hd := und_of hE hdst
    split
    · rename_i l
      split
      · rename_i hsrc
        have hs := und_of hE hsrc
        cases hu : isU8 (E.desc e) with
        | false => exact good_fail
        | true =>
          have hue := und_of hE (isU8_of hu)
          simp only [cond_true]
          cases hx
          split
          · exact good_fail
          · rename_i b l
            obtain ⟨k, hk, hrun⟩ := run_toBytes (P := P) (w := w) (e := e) (l := b :: l)
            have hr : (do pure (.value (← convert a bt (.string ⟨(b :: l).toArray⟩))) : Sem Next).run P w = .ok (.value (.slice (some ⟨w.heap.size, 0, none⟩) (b :: l).length k))
                { w with heap := w.heap.push (.cells (byteArr (b :: l) k) e (k, k + 1)), drawn := w.drawn + 1 } :=
              run_v (by simp only [convert, Sem.run_bind, run_underlying hs, run_underlying hd, Result.andThen_ok, run_underlying hue, hrun])
            have harr := byteArr_size hk
            have key := good_new (P := P) (φ := φ) (s := s) (w := { w with drawn := w.drawn + 1 }) (o := .cells (byteCells (b :: l)) 1 false) (ob := .cells (byteArr (b :: l) k) e (k, k + 1))
              (l := ⟨w.heap.size, 0, k, 1, false⟩) (f := fun id => retV (.slice (some (id, 0)) (Nat.succ l.length) (.opn 0))) (r := (do pure (.value (← convert a bt (.string ⟨(b :: l).toArray⟩))) : Sem Next).run P w) (h.drawn _) rfl ?_ ?_
            · exact good_step (Keep.drawn φ w _) key
            · refine ⟨_, e, (k, k + 1), rfl, fun j c hj => ?_, fun _ => ⟨rfl, by rw [harr]; simp⟩, fun _ => ⟨rfl, fun j _ hj => by rw [harr] at hj; simp; omega⟩⟩
              obtain ⟨x, hx', hv⟩ := VRL.get (byteVals (φ := φ) (b :: l)) hj
              refine ⟨x, ?_, VR.mono (Map.upd_ext h.fresh) _ _ hv⟩
              have hjl := (List.getElem?_eq_some_iff.1 hx').1
              simp only [Nat.zero_add, byteArr]
              rw [Array.getElem?_append_left (by simpa using hjl)]
              simpa using hx'
            · intro hrel
              exact good_retV hrel hr ⟨_, Map.upd_self, rfl⟩
      · exact good_fail
    · exact good_fail
  · exact good_fail

/-! ### aggregates -/
def PairsR (φ : Map) : List (Nat × V) → List (Nat × Value) → Prop
  | [], l => l = []
  | p :: ps, l => ∃ c cs, l = (p.1, c) :: cs ∧ VR φ p.2 c ∧ PairsR φ ps cs

theorem foldl_set (v : List Value) : ∀ (off : Nat) (a : Array Value), (v.zipIdx 0).foldl (fun cs (x : Value × Nat) => cs.setIfInBounds (off + x.2) x.1) a = setMany a off v := by
  have gen : ∀ (v : List Value) (k off : Nat) (a : Array Value), (v.zipIdx k).foldl (fun cs (x : Value × Nat) => cs.setIfInBounds (off + x.2) x.1) a = setMany a (off + k) v := by
    intro v
    induction v with
    | nil => intro k off a; rfl
    | cons x v ih =>
      intro k off a
      simp only [List.zipIdx_cons, List.foldl_cons, setMany]
      rw [ih]
      rfl
  intro off a
  rw [gen]; rfl

theorem setMany_toList : ∀ (v : List Value) (a : Array Value) (off : Nat), off + v.length ≤ a.size → (setMany a off v).toList = a.toList.take off ++ v ++ a.toList.drop (off + v.length) := by
  intro v a off h
  apply List.ext_getElem?
  intro j
  have hg := setMany_get v a off j
  rw [Array.getElem?_toList, hg]
  by_cases h1 : j < off
  · rw [if_neg (by omega), List.append_assoc, List.getElem?_append_left (by simp; omega), List.getElem?_take_of_lt h1, Array.getElem?_toList]
  · by_cases h2 : j < off + v.length
    · rw [if_pos (by omega), List.append_assoc, List.getElem?_append_right (by simp; omega), List.getElem?_append_left (by simp; omega)]
      congr 1
      simp; omega
    · rw [if_neg (by omega), List.getElem?_append_right (by simp; omega), List.getElem?_drop, Array.getElem?_toList]
      congr 1
      simp; omega

theorem VRL.splice {n : Nat} {cs vs cs' : List V} {xs ys : List Value} (hc : VRL φ cs xs) (hv : VRL φ vs ys) (e : splice n cs vs = some cs') :
    VRL φ cs' (xs.take n ++ ys ++ xs.drop (n + ys.length)) ∧ n + ys.length ≤ xs.length := by
  obtain ⟨rfl, hle⟩ := splice_spec e
  have hl := VRL.length hc
  have hl' := VRL.length hv
  have htake : ∀ (n : Nat) (cs : List V) (xs : List Value), VRL φ cs xs → VRL φ (cs.take n) (xs.take n) := by
    intro n
    induction n with
    | zero => intro cs xs _; simp [VRL]
    | succ n ih =>
      intro cs xs h
      cases cs with
      | nil => simp only [VRL] at h; subst h; simp [VRL]
      | cons c cs => obtain ⟨x, xs', rfl, h1, h2⟩ := h; exact ⟨x, _, rfl, h1, ih _ _ h2⟩
  have hdrop : ∀ (n : Nat) (cs : List V) (xs : List Value), VRL φ cs xs → VRL φ (cs.drop n) (xs.drop n) := by
    intro n
    induction n with
    | zero => intro cs xs h; simpa using h
    | succ n ih =>
      intro cs xs h
      cases cs with
      | nil => simp only [VRL] at h; subst h; simp [VRL]
      | cons c cs => obtain ⟨x, xs', rfl, h1, h2⟩ := h; simpa using ih _ _ h2
  refine ⟨((htake _ _ _ hc).append hv).append ?_, by omega⟩
  rw [← hl']
  exact hdrop _ _ _ hc

theorem fill_of {place : Nat → Option (Nat × Nat)} {place' : Nat → Option (Nat × Nat)} (hp : ∀ i p, place i = some p → place' i = some p) :
    ∀ (ps : List (Nat × V)) (qs : List (Nat × Value)) (cells : List V) (arr : Array Value) (out : List V), PairsR φ ps qs → VRL φ cells arr.toList → fillV place ps cells = some out →
      ∃ arr', Instr.fill place' arr qs = some arr' ∧ VRL φ out arr'.toList ∧ arr'.size = arr.size
  | [], qs, cells, arr, out, hq, hc, e => by
    simp only [PairsR] at hq; subst hq
    simp only [fillV, Option.some.injEq] at e; subst e
    exact ⟨arr, rfl, hc, rfl⟩
  | (i, v) :: ps, _, cells, arr, out, ⟨c, qs, e', hv, hq⟩, hc, e => by
    subst e'
    simp only [fillV] at e
    split at e
    · cases e
    · rename_i off size hpl
      have hpl' := hp _ _ hpl
      cases hs : Nat.beq v.cells.length size with
      | false => simp [hs] at e
      | true =>
        rw [hs, cond_true] at e
        have hs' := Nat.eq_of_beq_eq_true hs
        split at e
        · rename_i cs hcs
          obtain ⟨h1, h2⟩ := VRL.splice hc hv.cells hcs
          have hl := VRL.length hv.cells
          have hlen : c.cells.toList.length = c.cells.size := by simp
          have hset : VRL φ cs (setMany arr off c.cells.toList).toList := by
            rw [setMany_toList _ _ _ (by simpa using h2)]
            exact h1
          obtain ⟨arr', h3, h4, h5⟩ := fill_of hp ps qs cs (setMany arr off c.cells.toList) out hq hset e
          refine ⟨arr', ?_, h4, by rw [h5, setMany_size]⟩
          have hno : ¬ (c.cells.size ≠ size || off + c.cells.size > arr.size) = true := by
            simp only [Bool.or_eq_true, decide_eq_true_eq, not_or, Decidable.not_not, gt_iff_lt, Nat.not_lt, ne_eq]
            simp only [Array.length_toList] at h2 hl
            omega
          simp only [Instr.fill, hpl', if_neg hno]
          rw [← h3]
          congr 1
          rw [← foldl_set]
          simp only [← Array.foldl_toList, Array.toList_zipIdx]
        · cases e

theorem run_fieldSizes (hE : EnvOk E P) : ∀ (fs : List Field) (w : World), knownFs E fs = true → ∃ ps : List (Nat × Nat), (fs.mapM (fun f : Field => (do pure (f.offset, ← sizeOf f.type) : Sem (Nat × Nat)))).run P w = .ok ps w ∧
    ∀ i p, placeOfField E fs i = some p → ps[i]? = some p
  | [], w, _ => ⟨[], by simp, fun i p h => by simp [placeOfField] at h⟩
  | f :: fs, w, h => by
    simp only [knownFs] at h
    cases ht : E.ty f.type with
    | none => simp [ht] at h
    | some ti =>
      simp only [ht] at h
      obtain ⟨ps, h1, h2⟩ := run_fieldSizes hE fs w h
      refine ⟨(f.offset, ti.size) :: ps, by simp only [List.mapM_cons, Sem.run_bind, run_sizeOf (hE.ty _ _ ht), Result.andThen_ok, Sem.run_pure, h1], fun i p hp => ?_⟩
      cases i with
      | zero => simpa [placeOfField, ht] using hp
      | succ i =>
        have : placeOfField E fs i = some p := by simpa [placeOfField] using hp
        simpa using h2 i p this

theorem run_build (hE : EnvOk E P) {t : TypeId} {ps : List (Nat × V)} {qs : Array (Nat × Value)} {v : V} (hq : PairsR φ ps qs.toList) (h : buildOf E t ps = some v) :
    ∃ c, (Instr.build t qs).run P w = .ok c w ∧ VR φ v c := by
  unfold buildOf at h
  cases hti : E.ty t with
  | none => simp [hti] at h
  | some ti =>
    simp only [hti] at h
    have hok := hE.ty _ _ hti
    have hu := hok.und
    obtain ⟨z, hz, hz1, _⟩ := run_zeroValue hok w
    have hzv : VRL φ ti.zero z.cells.toList := by rw [hz1]; exact (VR_ofV φ z).cells
    cases hd : ti.d <;> simp only [hd] at h <;> try (cases h; done)
    case struct fs =>
      rw [hd] at hu
      cases hk : knownFs E fs.toList with
      | false => simp [hk] at h
      | true =>
        rw [hk, cond_true] at h
        obtain ⟨pl, h1, h2⟩ := run_fieldSizes hE fs.toList w hk
        cases hf : fillV (placeOfField E fs.toList) ps ti.zero with
        | none => simp [hf, aggOpt] at h
        | some out =>
          simp only [hf, aggOpt, Option.some.injEq] at h; subst h
          obtain ⟨arr, g1, g2, _⟩ := fill_of (φ := φ) (place' := fun i => pl.toArray[i]?) (fun i p hp => by simpa using h2 i p hp) ps qs.toList ti.zero z.cells out hq hzv hf
          refine ⟨.agg arr, ?_, _, rfl, g2⟩
          have hm : (fs.mapM (fun f : Field => (do pure (f.offset, ← sizeOf f.type) : Sem (Nat × Nat)))).run P w = .ok pl.toArray w := by
            rw [← Array.toArray_toList (xs := fs), List.mapM_toArray]
            simp only [Sem.run_map, h1, Result.andThen_ok]
          simp only [Instr.build, Sem.run_bind, hz, Result.andThen_ok, run_underlying hu, hm, g1, Sem.run_pure]
    case array n e =>
      rw [hd] at hu
      cases hte : E.ty e with
      | none => simp [hte] at h
      | some te =>
        simp only [hte] at h
        cases hf : fillV (elemPlace te.size) ps ti.zero with
        | none => simp [hf, aggOpt] at h
        | some out =>
          simp only [hf, aggOpt, Option.some.injEq] at h; subst h
          obtain ⟨arr, g1, g2, _⟩ := fill_of (φ := φ) (place' := fun i => some (i * te.size, te.size)) (fun i p hp => hp) ps qs.toList ti.zero z.cells out hq hzv hf
          refine ⟨.agg arr, ?_, _, rfl, g2⟩
          simp only [Instr.build, Sem.run_bind, hz, Result.andThen_ok, run_underlying hu, run_sizeOf (hE.ty _ _ hte), g1, Sem.run_pure]

theorem repl_length (z : List V) : ∀ n, (repl n z).length = n * z.length
  | 0 => by simp [repl]
  | n + 1 => by simp [repl, repl_length z n, Nat.add_mul, Nat.add_comm]

theorem VRL_repl {z : List V} {zc : List Value} (h : VRL φ z zc) : ∀ n, VRL φ (repl n z) ((List.replicate n zc).flatten)
  | 0 => by simp [repl, VRL]
  | n + 1 => by simp only [repl, List.replicate_succ, List.flatten_cons]; exact h.append (VRL_repl h n)

theorem flatten_get {zc : List Value} : ∀ (n i : Nat), i < n * zc.length → ((List.replicate n zc).flatten)[i]? = zc[i % zc.length]?
  | 0, i, h => by omega
  | n + 1, i, h => by
    simp only [List.replicate_succ, List.flatten_cons]
    have hz : 0 < zc.length := by
      rcases Nat.eq_zero_or_pos zc.length with h0 | h0
      · rw [h0] at h; omega
      · exact h0
    by_cases hi : i < zc.length
    · rw [List.getElem?_append_left hi, Nat.mod_eq_of_lt hi]
    · rw [List.getElem?_append_right (by omega), flatten_get n (i - zc.length) (by rw [Nat.add_mul, Nat.one_mul] at h; omega)]
      congr 1
      rw [Nat.mod_eq_sub_mod (by omega : i ≥ zc.length)]

theorem range_map_zero (zc : Array Value) (n : Nat) : ((Array.range (n * zc.size)).map (fun i => zc[i % zc.size]!)).toList = (List.replicate n zc.toList).flatten := by
  apply List.ext_getElem?
  intro i
  by_cases hi : i < n * zc.size
  · have hz : 0 < zc.size := by
      rcases Nat.eq_zero_or_pos zc.size with h0 | h0
      · rw [h0] at hi; omega
      · exact h0
    rw [flatten_get n i (by simpa using hi)]
    have hm : i % zc.size < zc.size := Nat.mod_lt _ hz
    simp [hi, hm]
  · rw [List.getElem?_eq_none (by simp; omega), List.getElem?_eq_none (by simp; omega)]

end
end Go.AM

namespace Go.AM
open Go

section
variable {P : Program} {φ : Map} {s : S} {w : World} {E : Env}

theorem good_build (hE : EnvOk E P) (h : Rel φ s w) {t : TypeId} {ps : List (Nat × V)} {qs : Array (Nat × Value)} (hq : PairsR φ ps qs.toList) :
    Good P φ s w (.val "build" (buildOf E t ps)) ((do pure (.value (← Instr.build t qs)) : Sem Next).run P w) :=
  good_val h fun _ hv => by
    obtain ⟨c, h1, h2⟩ := run_build (w := w) hE hq hv
    exact ⟨c, run_v h1, h2⟩

/-- a row of cells as a new block -/
theorem ob_cells {l : Loc} {cs : List V} {arr : Array Value} {elem : TypeId} {opn : Nat} (hb : l.base = 0) (hr : l.ro = false) (hv : VRL φ cs arr.toList) (ho : opn ≠ 0 → l.esz = opn ∧ arr.size = l.ccap * l.esz) :
    ObB φ l (.cells cs opn false) (some (.cells arr elem (0, 0))) :=
  ⟨arr, elem, (0, 0), rfl, fun j c hj => by
    obtain ⟨x, hx, hr⟩ := VRL.get hv hj
    exact ⟨x, by simpa [hb] using hx, hr⟩, fun e => ⟨(ho e).1, by have := (ho e).2; omega⟩, fun _ => ⟨hr, fun j _ _ => by simp⟩⟩

theorem good_buildSlice (hE : EnvOk E P) (h : Rel φ s w) {t : TypeId} {n : Nat} {ps : List (Nat × V)} {qs : Array (Nat × Value)} (hq : PairsR φ ps qs.toList) :
    Good P φ s w (buildSliceOf E t n ps) ((do pure (.value (← Instr.buildSlice t n qs)) : Sem Next).run P w) := by
  unfold buildSliceOf
  split
  · rename_i e hd
    have hu := und_of hE hd
    split
    · rename_i te hte
      have hok := hE.ty _ _ hte
      cases hb : Nat.ble (n * te.size) 65536 with
      | false => exact good_fail
      | true =>
        have hb' := Nat.le_of_ble_eq_true hb
        simp only [cond_true]
        split
        · rename_i cells hcells
          obtain ⟨z, hz, hz1, _⟩ := run_zeroValue hok w
          have hzv : VRL φ te.zero z.cells.toList := by rw [hz1]; exact (VR_ofV φ z).cells
          obtain ⟨i, z', hi, hsz, _, hz', _⟩ := hok.info
          -- the zeros
          have hzero : ∃ zc : Array Value, ((n * te.size = 0 ∧ zc = #[]) ∨ (¬ n * te.size = 0 ∧ zc = z.cells)) ∧
              VRL φ (repl n te.zero) ((Array.range (n * te.size)).map (fun i => zc[i % zc.size]!)).toList := by
            have hzs : z.cells.size = te.size := by
              have := VRL.length hzv
              rw [hok.len] at this
              simpa using this.symm
            by_cases h0 : n * te.size = 0
            · refine ⟨#[], .inl ⟨h0, rfl⟩, ?_⟩
              have : repl n te.zero = [] := List.eq_nil_of_length_eq_zero (by rw [repl_length, hok.len, h0])
              rw [this, h0]
              simp [VRL]
            · refine ⟨z.cells, .inr ⟨h0, rfl⟩, ?_⟩
              rw [← hzs, range_map_zero]
              exact VRL_repl hzv n
          obtain ⟨zc, hzc, hrep⟩ := hzero
          obtain ⟨arr, g1, g2, _⟩ := fill_of (φ := φ) (place' := fun i => some (i * te.size, te.size)) (fun i p hp => hp) ps qs.toList _ _ cells hq hrep hcells
          refine good_new (ob := .cells arr e) (l := ⟨w.heap.size, 0, 0, 0, false⟩) h rfl (ob_cells rfl rfl ?_ (fun e => absurd rfl e)) fun hr => ?_
          · have : ∀ vs cs, VRL φ vs cs → VRL (φ.upd s.n ⟨w.heap.size, 0, 0, 0, false⟩) vs cs := fun vs cs => VRL.mono (Map.upd_ext h.fresh) vs cs
            exact this _ _ g2
          · refine good_retV (c := .slice (some ⟨w.heap.size, 0, none⟩) n n) hr (run_v ?_) ⟨_, Map.upd_self, rfl⟩
            have : ¬ n * te.size > 2 ^ 24 := by
              have : (65536 : Nat) < 2 ^ 24 := by decide
              omega
            rcases hzc with ⟨h0, rfl⟩ | ⟨h0, rfl⟩
            · simp only [Instr.buildSlice, Sem.run_bind, run_underlying hu, Result.andThen_ok, run_sizeOf hok, if_neg this, if_pos h0, g1, Sem.run_pure, newRow, newObj]
              rfl
            · simp only [Instr.buildSlice, Sem.run_bind, run_underlying hu, Result.andThen_ok, run_sizeOf hok, if_neg this, if_neg h0, hz, g1, Sem.run_pure, newRow, newObj]
              rfl
        · exact good_fail
    · exact good_fail
  · exact good_fail

theorem good_fieldAddr (hE : EnvOk E P) (h : Rel φ s w) {t : TypeId} {x : V} {f : Nat} {c : Value} (hx : VR φ x c) :
    Good P φ s w (.val "fieldAddr" (fieldAddrOf E t x f)) ((do pure (.value (← Instr.fieldAt t c f)) : Sem Next).run P w) := by
  refine good_val h fun v hv => ?_
  unfold fieldAddrOf at hv
  split at hv
  · rename_i id off
    obtain ⟨l, hl, rfl⟩ := hx
    split at hv
    · rename_i fields hd
      have hu := und_of hE hd
      split at hv
      · rename_i fd hfd
        split at hv
        · rename_i tf htf
          cases hz : Nat.beq tf.size 0 with
          | true => simp [hz] at hv
          | false =>
            rw [hz, cond_false] at hv
            cases hv
            have hz' : ¬ tf.size = 0 := fun e => by rw [e] at hz; simp at hz
            refine ⟨.pointer (some ⟨l.blk, l.base + off + fd.offset, none⟩), run_v ?_, l, hl, by rw [Nat.add_assoc]⟩
            have hf : fields[f]? = some fd := by simpa using hfd
            simp only [Instr.fieldAt, Sem.run_bind, run_underlying hu, Result.andThen_ok, hf, Instr.sureAddr, Sem.run_pure, Go.fieldPlace, run_sizeOf (hE.ty _ _ htf), if_neg hz', addr_add]
        · cases hv
      · cases hv
    · cases hv
  · cases hv

theorem good_field (hE : EnvOk E P) (h : Rel φ s w) {t : TypeId} {x : V} {f : Nat} {c : Value} (hx : VR φ x c) :
    Good P φ s w (.val "field" (fieldOf E t x f)) ((do pure (.value (← Instr.field t c f)) : Sem Next).run P w) := by
  refine good_val h fun v hv => ?_
  unfold fieldOf at hv
  split at hv
  · rename_i cs
    obtain ⟨a, rfl, ha⟩ := hx
    split at hv
    · rename_i fields hd
      have hu := und_of hE hd
      split at hv
      · rename_i fd hfd
        unfold partV at hv
        split at hv
        · cases hv
        · rename_i ti hti
          obtain ⟨c, h1, h2⟩ := run_part_of (w := w) (hE.ty _ _ hti) ha hv
          have hf : fields[f]? = some fd := by simpa using hfd
          exact ⟨c, run_v (by simp [Instr.field, run_underlying hu, hf, asAgg, h1]), h2⟩
      · cases hv
    · cases hv
  · cases hv

theorem inside_spec {i : Int} {n m : Nat} (h : inside i n = some m) : i = m ∧ m < n := by
  unfold inside at h
  split at h
  · rename_i k
    cases hk : Nat.ble (Nat.succ k) n with
    | false => simp [hk] at h
    | true =>
      rw [hk, cond_true] at h
      cases h
      exact ⟨rfl, Nat.le_of_ble_eq_true hk⟩
  · cases h

theorem good_indexAddr (hE : EnvOk E P) (h : Rel φ s w) {t : TypeId} {x ix : V} {c d : Value} (hx : VR φ x c) (hix : VR φ ix d) :
    Good P φ s w (.val "indexAddr" (indexAddrOf E t x ix)) ((do pure (.value (← Instr.indexAt t c d)) : Sem Next).run P w) := by
  refine good_val h fun v hv => ?_
  unfold indexAddrOf at hv
  split at hv
  · rename_i k i
    cases hix
    split at hv
    · rename_i id off
      obtain ⟨l, hl, rfl⟩ := hx
      split at hv
      · rename_i len e hd
        have hu := und_of hE hd
        split at hv
        · rename_i te hte
          split at hv
          · rename_i m hm
            cases hv
            obtain ⟨rfl, hlt⟩ := inside_spec hm
            refine ⟨.pointer (some ⟨l.blk, l.base + off + m * te.size, none⟩), run_v ?_, l, hl, by rw [Nat.add_assoc]⟩
            have hc : (0 : Int) ≤ (m : Int) ∧ (m : Int) < (len : Int) := by omega
            simp only [Instr.indexAt, Sem.run_bind, run_underlying hu, Result.andThen_ok, asIntOf, Sem.run_pure, Instr.sureAddr, if_pos hc, run_sizeOf (hE.ty _ _ hte), addr_add, Int.toNat_natCast]
          · cases hv
        · cases hv
      · cases hv
    · rename_i id off len cap
      obtain ⟨l, hl, rfl⟩ := hx
      split at hv
      · rename_i e hd
        have hu := und_of hE hd
        split at hv
        · rename_i te hte
          split at hv
          · rename_i m hm
            cases hv
            obtain ⟨rfl, hlt⟩ := inside_spec hm
            refine ⟨.pointer (some ⟨l.blk, l.base + off + m * te.size, none⟩), run_v ?_, l, hl, by rw [Nat.add_assoc]⟩
            have hc : (0 : Int) ≤ (m : Int) ∧ (m : Int) < (len : Int) := by omega
            simp only [Instr.indexAt, Sem.run_bind, run_underlying hu, Result.andThen_ok, asIntOf, Sem.run_pure, Instr.sureAddr, if_pos hc, run_sizeOf (hE.ty _ _ hte), addr_add, Int.toNat_natCast]
          · cases hv
        · cases hv
      · cases hv
    · cases hv
  · cases hv

theorem good_index (hE : EnvOk E P) (h : Rel φ s w) {t : TypeId} {x ix : V} {c d : Value} (hx : VR φ x c) (hix : VR φ ix d) :
    Good P φ s w (.val "index" (indexOf E t x ix)) ((do pure (.value (← Instr.index t c d)) : Sem Next).run P w) := by
  refine good_val h fun v hv => ?_
  unfold indexOf at hv
  split at hv
  · rename_i k i
    cases hix
    split at hv
    · rename_i cs
      obtain ⟨a, rfl, ha⟩ := hx
      split at hv
      · rename_i len e hd
        have hu := und_of hE hd
        split at hv
        · rename_i te hte
          split at hv
          · rename_i m hm
            obtain ⟨rfl, hlt⟩ := inside_spec hm
            obtain ⟨c, h1, h2⟩ := run_part_of (w := w) (hE.ty _ _ hte) ha hv
            have hc : (0 : Int) ≤ (m : Int) ∧ (m : Int) < (len : Int) := by omega
            exact ⟨c, run_v (by simp only [Instr.index, Sem.run_bind, run_underlying hu, Result.andThen_ok, asIntOf, Sem.run_pure, if_pos hc, run_sizeOf (hE.ty _ _ hte), Int.toNat_natCast, h1]), h2⟩
          · cases hv
        · cases hv
      · cases hv
    · rename_i l
      cases hx
      split at hv
      · rename_i hd
        have hu := und_of hE hd
        split at hv
        · rename_i m hm
          obtain ⟨rfl, hlt⟩ := inside_spec hm
          split at hv
          · rename_i b hb
            cases hv
            refine ⟨.int .u8 b.toNat, run_v ?_, rfl⟩
            have hc : (0 : Int) ≤ (m : Int) := by omega
            have hbb : (ByteArray.mk l.toArray)[m]? = some b := by
              have hlt' : m < (ByteArray.mk l.toArray).size := by simpa [ByteArray.size] using hlt
              rw [getElem?_pos _ m hlt']
              congr 1
              have := (List.getElem?_eq_some_iff.1 hb).2
              rw [← this]; rfl
            simp only [Instr.index, Sem.run_bind, run_underlying hu, Result.andThen_ok, asIntOf, Sem.run_pure, if_pos hc, Int.toNat_natCast, hbb]
          · cases hv
        · cases hv
      · cases hv
    · cases hv
  · cases hv

theorem good_iface (hE : EnvOk E P) (h : Rel φ s w) {t : TypeId} {x : V} {c : Value} (hx : VR φ x c) : Good P φ s w (ifaceOf E t x) ((do pure (.value (← Instr.makeInterface t c)) : Sem Next).run P w) := by
  unfold ifaceOf
  split
  · rename_i d hd
    have hu := und_of hE hd
    cases hi : isIface d with
    | true => exact good_fail
    | false =>
      simp only [cond_false]
      refine good_retV (c := .iface t c) h (run_v ?_) ⟨c, rfl, hx⟩
      simp only [Instr.makeInterface, Sem.run_bind, run_underlying hu, Result.andThen_ok]
      cases d <;> simp [isIface] at hi <;> rfl
  · exact good_fail

theorem good_makeMap (h : Rel φ s w) {t : TypeId} {r : Option Operand} {r' : Option Value} (hr : r = none → r' = none) :
    Good P φ s w (makeMapOf r) ((do pure (.value (← Instr.makeMap t r')) : Sem Next).run P w) := by
  cases r with
  | some x => exact good_fail
  | none =>
    rw [hr rfl]
    refine good_new (ob := .map #[] 0) (l := ⟨w.heap.size, 0, 0, 0, false⟩) h rfl ⟨rfl, #[], rfl, rfl, rfl⟩ fun hrel => ?_
    exact good_retV (c := .map (some w.heap.size)) hrel (run_v (by simp [Instr.makeMap, newObj, Sem.run])) ⟨_, Map.upd_self, rfl⟩

theorem good_nilCheck (h : Rel φ s w) {o : Oper} {ρ : Operand → Value} {x : Operand} {a : V} (ho : o.op = .nilCheck x) (hx : VR φ a (ρ x)) :
    Good P φ s w (nilCheckOf a) ((execOp ρ o).run P w) := by
  unfold execOp
  rw [ho]
  dsimp only
  generalize ρ x = c at hx ⊢
  unfold nilCheckOf
  split
  · obtain ⟨l, hl, rfl⟩ := hx; exact good_retV h rfl ⟨l, hl, rfl⟩
  · obtain ⟨a', b', rfl, h1, h2⟩ := hx; exact good_retV h rfl ⟨a', b', rfl, h1, h2⟩
  · obtain ⟨l, hl, rfl⟩ := hx; exact good_retV h rfl ⟨l, hl, rfl⟩
  · rename_i p n k
    cases p with
    | none => obtain ⟨m, hm, rfl⟩ := hx; exact good_retV h rfl ⟨m, hm, rfl⟩
    | some p => obtain ⟨l, hl, rfl⟩ := hx; exact good_retV h rfl ⟨l, hl, rfl⟩
  · rename_i p
    cases p with
    | none => cases hx; exact good_retV h rfl rfl
    | some p => obtain ⟨l, hl, rfl⟩ := hx; exact good_retV h rfl ⟨l, hl, rfl⟩
  · obtain ⟨c', rfl, h1⟩ := hx; exact good_retV h rfl ⟨c', rfl, h1⟩
  · exact good_fail

theorem good_pick (h : Rel φ s w) {a b c : V} {x y z : Value} (ha : VR φ a x) (hb : VR φ b y) (hc : VR φ c z) :
    Good P φ s w (pickOf a b c) ((do pure (.value (if ← asBool x then y else z)) : Sem Next).run P w) := by
  unfold pickOf
  split
  · rename_i t
    cases ha
    cases t
    · exact good_retV h (by simp [asBool]) hc
    · exact good_retV h (by simp [asBool]) hb
  · exact good_fail

theorem good_extract (h : Rel φ s w) {x : V} {i : Nat} {c : Value} (hx : VR φ x c) : Good P φ s w (extractOf x i) ((do pure (.value (← Instr.extract c i)) : Sem Next).run P w) := by
  unfold extractOf
  split
  · rename_i vs
    obtain ⟨a, rfl, ha⟩ := hx
    refine good_val h fun v hv => ?_
    obtain ⟨c, h1, h2⟩ := VRL.get ha hv
    have : a[i]? = some c := by simpa using h1
    exact ⟨c, run_v (by simp [Instr.extract, this]), h2⟩
  · exact good_fail

theorem zeroOf_of {t : TypeId} {ti : TI} (h : TIok P t ti) : ∃ z, (zeroValue t).run P w = .ok z w ∧ VR φ (zeroOf ti) z := by
  obtain ⟨z, h1, _, h3⟩ := run_zeroValue h w
  exact ⟨z, h1, by rw [h3]; exact VR_ofV φ z⟩

theorem good_assert (hE : EnvOk E P) (h : Rel φ s w) {x : V} {xt t : TypeId} {ok : Bool} {c : Value} (hx : VR φ x c) :
    Good P φ s w (.val "typeAssert" (assertOf E x t ok)) ((do pure (.value (← Instr.typeAssert c xt t ok)) : Sem Next).run P w) := by
  refine good_val h fun v hv => ?_
  unfold assertOf at hv
  split at hv
  · rename_i ti hti
    have hok := hE.ty _ _ hti
    have hu := hok.und
    cases hi : isIface ti.d with
    | true => simp [hi] at hv
    | false =>
      rw [hi, cond_false] at hv
      have hni : ∀ ms, ti.d ≠ .interface ms := fun ms e => by rw [e] at hi; simp [isIface] at hi
      obtain ⟨z, hz, hzv⟩ := zeroOf_of (φ := φ) (w := w) hok
      split at hv
      · cases hx
        cases ok with
        | false => simp at hv
        | true =>
          simp only [cond_true, Option.some.injEq] at hv; subst hv
          refine ⟨.tuple #[z, .bool false], run_v ?_, _, rfl, _, _, rfl, hzv, _, _, rfl, rfl, rfl⟩
          simp only [Instr.typeAssert, Sem.run_bind, run_underlying hu, Result.andThen_ok]
          revert hni
          cases ti.d <;> intro hni <;> first | exact absurd rfl (hni _) | simp [hz]
      · rename_i t' v'
        obtain ⟨c', rfl, hc'⟩ := hx
        cases ht : Nat.beq t' t with
        | true =>
          rw [ht, cond_true] at hv
          cases hv
          have := Nat.eq_of_beq_eq_true ht
          subst this
          cases ok with
          | true =>
            refine ⟨.tuple #[c', .bool true], run_v ?_, _, rfl, _, _, rfl, hc', _, _, rfl, rfl, rfl⟩
            simp only [Instr.typeAssert, Sem.run_bind, run_underlying hu, Result.andThen_ok]
            revert hni
            cases ti.d <;> intro hni <;> first | exact absurd rfl (hni _) | simp
          | false =>
            refine ⟨c', run_v ?_, hc'⟩
            simp only [Instr.typeAssert, Sem.run_bind, run_underlying hu, Result.andThen_ok]
            revert hni
            cases ti.d <;> intro hni <;> first | exact absurd rfl (hni _) | simp
        | false =>
          rw [ht, cond_false] at hv
          have hne : ¬ t' = t := fun e => by rw [e] at ht; simp at ht
          cases ok with
          | false => simp at hv
          | true =>
            simp only [cond_true, Option.some.injEq] at hv; subst hv
            refine ⟨.tuple #[z, .bool false], run_v ?_, _, rfl, _, _, rfl, hzv, _, _, rfl, rfl, rfl⟩
            simp only [Instr.typeAssert, Sem.run_bind, run_underlying hu, Result.andThen_ok]
            revert hni
            cases ti.d <;> intro hni <;> first | exact absurd rfl (hni _) | simp [hz, hne]
      · cases hv
  · cases hv

end
end Go.AM

namespace Go.AM
open Go

def OptR (φ : Map) : Option V → Option Value → Prop
  | none, c => c = none
  | some v, c => ∃ d, c = some d ∧ VR φ v d

section
variable {P : Program} {φ : Map} {s : S} {w : World} {E : Env}

theorem boundOf_some {x : Option V} {x' : Option Value} {dflt most m : Nat} (hx : OptR φ x x') (h : boundOf x dflt most = some m) :
    (x = none ∧ x' = none ∧ m = dflt) ∨ (x ≠ none ∧ m ≤ most ∧ ∃ d, x' = some d ∧ ∀ (most' : Nat) (code : BoundsCode) (w : World), m ≤ most' → (Instr.sliceBound d most' code).run P w = .ok m w) := by
  unfold boundOf at h
  split at h
  · cases h; exact .inl ⟨rfl, hx, rfl⟩
  · rename_i k n
    cases hb : Nat.ble n most with
    | false => simp [hb] at h
    | true =>
      rw [hb, cond_true] at h
      cases h
      obtain ⟨d, rfl, hd⟩ := hx
      cases hd
      have hle := Nat.le_of_ble_eq_true hb
      refine .inr ⟨by simp, hle, _, rfl, fun most' code w hm => ?_⟩
      have := run_sliceBound (P := P) w k (Int.ofNat m) most' code (by simp) (by simp only [Int.ofNat_eq_natCast]; omega)
      simpa using this
  · cases h

theorem run_bounds3 {lo hi mx : Option V} {lo' hi' mx' : Option Value} {len cap cap' : Nat} {l h m : Nat} (hlo : OptR φ lo lo') (hhi : OptR φ hi hi') (hmx : OptR φ mx mx')
    (e : bounds3 lo hi mx len cap = some (l, h, m)) (hc : cap ≤ cap') (b : Bool) :
    ∃ M, (Instr.sliceBounds b len cap' lo' hi' mx').run P w = .ok (l, h, M) w ∧ ((mx = none ∧ M = cap' ∧ m = cap) ∨ (mx ≠ none ∧ M = m ∧ m ≤ cap)) := by
  unfold bounds3 at e
  split at e
  · cases e
  · rename_i m1 hm1
    cases hb : bothOr mx hi with
    | false => simp [hb] at e
    | true =>
      rw [hb, Bool.not_true, cond_false] at e
      split at e
      · cases e
      · rename_i h1 hh1
        split at e
        · cases e
        · rename_i l1 hl1
          cases e
          rcases boundOf_some (P := P) hmx hm1 with ⟨rfl, rfl, rfl⟩ | ⟨hne, hmle, d, rfl, hd⟩
          · refine ⟨cap', ?_, .inl ⟨rfl, rfl, rfl⟩⟩
            rcases boundOf_some (P := P) hhi hh1 with ⟨rfl, rfl, rfl⟩ | ⟨_, hhle, dh, rfl, hdh⟩
            · rcases boundOf_some (P := P) hlo hl1 with ⟨rfl, rfl, rfl⟩ | ⟨_, hlle, dl, rfl, hdl⟩
              · simp [Instr.sliceBounds]
              · simp only [Instr.sliceBounds, Sem.run_bind, Sem.run_pure, Result.andThen_ok, hdl _ _ _ hlle]
            · rcases boundOf_some (P := P) hlo hl1 with ⟨rfl, rfl, rfl⟩ | ⟨_, hlle, dl, rfl, hdl⟩
              · simp only [Instr.sliceBounds, Sem.run_bind, Sem.run_pure, Result.andThen_ok, hdh _ _ _ (Nat.le_trans hhle hc)]
              · simp only [Instr.sliceBounds, Sem.run_bind, Sem.run_pure, Result.andThen_ok, hdh _ _ _ (Nat.le_trans hhle hc), hdl _ _ _ hlle]
          · refine ⟨m, ?_, .inr ⟨hne, rfl, hmle⟩⟩
            rcases boundOf_some (P := P) hhi hh1 with ⟨rfl, rfl, rfl⟩ | ⟨_, hhle, dh, rfl, hdh⟩
            · cases mx with
              | none => exact absurd rfl hne
              | some _ => simp [bothOr] at hb
            · rcases boundOf_some (P := P) hlo hl1 with ⟨rfl, rfl, rfl⟩ | ⟨_, hlle, dl, rfl, hdl⟩
              · simp only [Instr.sliceBounds, Sem.run_bind, Sem.run_pure, Result.andThen_ok, hd _ _ _ (Nat.le_trans hmle hc), hdh _ _ _ hhle]
              · simp only [Instr.sliceBounds, Sem.run_bind, Sem.run_pure, Result.andThen_ok, hd _ _ _ (Nat.le_trans hmle hc), hdh _ _ _ hhle, hdl _ _ _ hlle]

/-- a slice cut out, its end known -/
theorem boundOf_le {x : Option V} {d most m : Nat} (h : boundOf x d most = some m) (hd : d ≤ most) : m ≤ most := by
  unfold boundOf at h
  split at h
  · simp only [Option.some.injEq] at h; omega
  · rename_i m' 
    cases hb : Nat.ble m' most with
    | true => rw [hb] at h; simp only [cond_true, Option.some.injEq] at h; subst h; exact Nat.le_of_ble_eq_true hb
    | false => rw [hb] at h; cases h
  · cases h
theorem bounds3_le {lo hi mx : Option V} {len cap x y m : Nat} (h : bounds3 lo hi mx len cap = some (x, y, m)) : x ≤ y := by
  unfold bounds3 at h
  split at h
  · cases h
  · cases hb : not (bothOr mx hi) with
    | true => rw [hb] at h; cases h
    | false =>
      rw [hb] at h
      simp only [cond_false] at h
      split at h
      · cases h
      · split at h
        · cases h
        · rename_i e
          cases h
          exact boundOf_le e (Nat.zero_le _)
theorem good_sub3 (h : Rel φ s w) {id off size len cap cap' : Nat} {l : Loc} (hl : φ id = some l) {lo hi mx : Option V} {lo' hi' mx' : Option Value} (hlo : OptR φ lo lo') (hhi : OptR φ hi hi') (hmx : OptR φ mx mx')
    (hc : cap ≤ cap') (hx : mx = none → cap = cap') (b : Bool) {r : Result Next}
    (hr : ∀ x y m, (Instr.sliceBounds b len cap' lo' hi' mx').run P w = .ok (x, y, m) w → r = .ok (.value (.slice (if m = x then some ⟨l.blk, l.base + off, none⟩ else some ⟨l.blk, l.base + off + x * size, none⟩) (y - x) (m - x))) w) :
    Good P φ s w (sub3 id off size (bounds3 lo hi mx len cap)) r := by
  cases e : bounds3 lo hi mx len cap with
  | none => exact good_fail
  | some p =>
    obtain ⟨x, y, m⟩ := p
    obtain ⟨M, h1, h2⟩ := run_bounds3 (P := P) (w := w) hlo hhi hmx e hc b
    have hM : M = m := by
      rcases h2 with ⟨h3, h4, h5⟩ | ⟨_, h4, _⟩
      · rw [h4, h5, hx h3]
      · exact h4
    subst hM
    refine good_retV h (hr _ _ _ h1) ⟨l, hl, ?_⟩
    cases hb : Nat.beq M x with
    | true =>
      have := Nat.eq_of_beq_eq_true hb
      simp [this, Cap.conc]
    | false =>
      have : ¬ M = x := fun e => by rw [e] at hb; simp at hb
      simp [this, Cap.conc, Nat.add_assoc]

theorem good_slice (hE : EnvOk E P) (h : Rel φ s w) {t : TypeId} {x : V} {c : Value} (hx : VR φ x c) {lo hi mx : Option V} {lo' hi' mx' : Option Value} (hlo : OptR φ lo lo') (hhi : OptR φ hi hi') (hmx : OptR φ mx mx') :
    Good P φ s w (sliceOf E t x lo hi mx) ((do pure (.value (← Instr.sliceAt t c lo' hi' mx')) : Sem Next).run P w) := by
  unfold sliceOf
  split
  · rename_i l
    cases hx
    split
    · rename_i hd
      have hu := und_of hE hd
      unfold sliceStr
      split
      · exact good_fail
      · split
        · exact good_fail
        · rename_i a b m e
          obtain ⟨M, h1, _⟩ := run_bounds3 (P := P) (w := w) hlo hhi hmx e (Nat.le_refl _) false
          obtain rfl : mx' = none := hmx
          have hsz : (ByteArray.mk l.toArray).size = l.length := by simp [ByteArray.size]
          refine good_retV (c := .string ((ByteArray.mk l.toArray).extract a b)) h (run_v ?_) ?_
          · simp only [Instr.sliceAt, Sem.run_bind, run_underlying hu, Result.andThen_ok, Instr.slice, hsz, h1, Option.isSome_none, Bool.false_eq_true, if_false, Sem.run_pure]
          · show _ = _
            congr 1
            apply ByteArray.ext
            rw [ByteArray.data_extract]
            apply Array.toList_inj.1
            simp [Array.toList_extract, List.extract_eq_take_drop, List.drop_take]
    · exact good_fail
  · rename_i a len cap
    split
    · rename_i e hd
      have hu := und_of hE hd
      unfold sliceSl
      split
      · split
        · exact good_fail
        rename_i te hte
        split
        · rename_i c
          split
          · rename_i x y m e'
            obtain ⟨k, hk, rfl⟩ := hx
            cases hk
            obtain ⟨M, h1, h2⟩ := run_bounds3 (P := P) (w := w) hlo hhi hmx e' (Nat.le_refl _) true
            have hM : M = m := by
              rcases h2 with ⟨_, h4, h5⟩ | ⟨_, h4, _⟩
              · rw [h4, h5]
              · exact h4
            subst hM
            have hn := run_sizeOf (hE.ty _ _ hte) w
            refine good_retV (c := .slice none (y - x) (M - x)) h (run_v ?_) ⟨M - x, rfl, rfl⟩
            simp only [Instr.sliceAt, Sem.run_bind, run_underlying hu, Result.andThen_ok, Instr.slice, h1, hn, Sem.run_pure]
            simp
          · exact good_fail
        · exact good_fail
      · rename_i id off
        split
        · exact good_fail
        · rename_i te hte
          have hok := hE.ty _ _ hte
          obtain ⟨l, hl, rfl⟩ := hx
          split
          · rename_i c
            refine good_sub3 h hl hlo hhi hmx (Nat.le_refl c) (fun _ => rfl) true fun x y m hb => run_v ?_
            simp only [Instr.sliceAt, Sem.run_bind, run_underlying hu, Result.andThen_ok, Instr.slice, Cap.conc, hb, run_sizeOf hok, Sem.run_pure, Option.map_some, addr_add]
          · rename_i skip
            refine good_rd fun o ho => ?_
            split
            · rename_i cs opn ro
              cases hg : or (Nat.beq te.size 0) (not (and (Nat.beq opn te.size) (Nat.beq off (skip * te.size)))) with
              | true => exact good_fail
              | false =>
                simp only [cond_false]
                simp only [Bool.or_eq_false_iff, Bool.not_eq_false', Bool.and_eq_true] at hg
                obtain ⟨hg1, hg2, hg3⟩ := hg
                have hg1' : te.size ≠ 0 := fun e => by rw [e] at hg1; simp at hg1
                have hg2' := Nat.eq_of_beq_eq_true hg2
                have hg3' := Nat.eq_of_beq_eq_true hg3
                obtain ⟨l', hl', hob⟩ := h.obj _ _ ho
                rw [hl] at hl'; cases hl'
                obtain ⟨arr, elem, fz, hbk, hcs, hop, _⟩ := hob
                obtain ⟨hz1, hz2⟩ := hop (by omega)
                obtain ⟨_, hle⟩ := VRL_of_cells hcs
                have hknown : (cs.length - off) / te.size ≤ l.ccap - skip := by
                  have h1 : cs.length ≤ l.ccap * te.size := by
                    rcases hle with hle | hle
                    · rw [hz2, hz1, hg2'] at hle; omega
                    · subst hle; simp
                  have h2 : cs.length - off ≤ (l.ccap - skip) * te.size := by
                    rw [Nat.sub_mul, hg3']
                    omega
                  exact Nat.div_le_of_le_mul (by rw [Nat.mul_comm]; exact h2)
                split
                · refine good_sub3 (h.rd _) hl hlo hhi hmx hknown (fun e => by cases e) true fun x y m hb => run_v ?_
                  simp only [Instr.sliceAt, Sem.run_bind, run_underlying hu, Result.andThen_ok, Instr.slice, Cap.conc, hb, run_sizeOf hok, Sem.run_pure, Option.map_some, addr_add]
                · split
                  · rename_i x y m e'
                    cases hend : Nat.ble m x with
                    | true =>
                      simp only [cond_true]
                      cases hend2 : Nat.ble y x with
                      | false => exact good_fail
                      | true =>
                      simp only [cond_true]
                      have hge := Nat.le_of_ble_eq_true hend2
                      obtain ⟨M, h1, h2⟩ := run_bounds3 (P := P) (w := w) hlo hhi hmx e' hknown true
                      refine good_retV (c := .slice (if M = x then some ⟨l.blk, l.base + off, none⟩ else some ⟨l.blk, l.base + off + x * te.size, none⟩) (y - x) (M - x)) (h.rd _) (run_v ?_) ?_
                      · simp only [Instr.sliceAt, Sem.run_bind, run_underlying hu, Result.andThen_ok, Instr.slice, Cap.conc, h1, run_sizeOf hok, Sem.run_pure, Option.map_some, addr_add]
                      · rw [show y - x = 0 by omega]
                        split
                        · exact ⟨_, _, rfl⟩
                        · exact ⟨_, _, rfl⟩
                    | false =>
                      simp only [cond_false]
                      have hlt : x < m := by
                        rcases Nat.lt_or_ge x m with h | h
                        · exact h
                        · rw [Nat.ble_eq_true_of_le h] at hend; cases hend
                      obtain ⟨M, h1, h2⟩ := run_bounds3 (P := P) (w := w) hlo hhi hmx e' hknown true
                      have hM : M = l.ccap - skip ∧ m = (cs.length - off) / te.size := by
                        rcases h2 with ⟨_, h4, h5⟩ | ⟨h4, _, _⟩
                        · exact ⟨h4, h5⟩
                        · exact absurd rfl h4
                      refine good_retV (c := .slice (some ⟨l.blk, l.base + off + x * te.size, none⟩) (y - x) (l.ccap - skip - x)) (h.rd _) (run_v ?_) ⟨l, hl, ?_⟩
                      · have hne : ¬ M = x := by omega
                        simp only [Instr.sliceAt, Sem.run_bind, run_underlying hu, Result.andThen_ok, Instr.slice, Cap.conc, h1, run_sizeOf hok, Sem.run_pure, Option.map_some, addr_add, if_neg hne]
                        rw [hM.1]
                      · simp [Cap.conc, Nat.add_assoc, Nat.sub_sub]
                  · exact good_fail
            · exact good_fail
    · exact good_fail
  · rename_i id off
    obtain ⟨l, hl, rfl⟩ := hx
    split
    · rename_i n0 e0 hd
      unfold sliceArr
      rw [hd]
      dsimp only
      have hu := und_of hE hd
      split
      · rename_i te hte
        have hok := hE.ty _ _ hte
        refine good_sub3 h hl hlo hhi hmx (Nat.le_refl n0) (fun _ => rfl) false fun x y m hb => run_v ?_
        simp only [Instr.sliceAt, Sem.run_bind, run_underlying hu, Result.andThen_ok, Instr.sureAddr, Sem.run_pure, hb, run_sizeOf hok, addr_add]
        split <;> rfl
      · exact good_fail
    · rename_i arr hd
      have hu := und_of hE hd
      unfold sliceArr
      split
      · rename_i n e hd'
        have hu' := und_of hE hd'
        split
        · rename_i te hte
          have hok := hE.ty _ _ hte
          refine good_sub3 h hl hlo hhi hmx (Nat.le_refl n) (fun _ => rfl) false fun x y m hb => run_v ?_
          simp only [Instr.sliceAt, Sem.run_bind, run_underlying hu, run_underlying hu', Result.andThen_ok, Instr.slice, asAddr, Sem.run_pure, hb, run_sizeOf hok, addr_add]
          split <;> rfl
        · exact good_fail
      · exact good_fail
    · exact good_fail
  · exact good_fail

end
end Go.AM

namespace Go.AM
open Go

section
variable {P : Program} {φ : Map} {s : S} {w : World} {E : Env}

theorem good_len (hE : EnvOk E P) (h : Rel φ s w) {t ty : TypeId} {ts : List TypeId} {x : V} {xs : List V} {c : Value} {cs : List Value} (hx : VR φ x c) :
    Good P φ s w (lenAt E t x) ((do pure (.value (← Builtin.len_ (t :: ts).toArray ty (c :: cs).toArray)) : Sem Next).run P w) := by
  unfold lenAt
  split
  · rename_i hd
    have hu := und_of hE hd
    split
    · rename_i l
      cases hx
      have hsz : (ByteArray.mk l.toArray).size = l.length := by simp [ByteArray.size]
      exact good_retV (c := .int .i64 l.length) h (run_v (by simp [Builtin.len_, run_underlying hu, hsz, goInt])) rfl
    · exact good_fail
  · rename_i n e hd
    have hu := und_of hE hd
    exact good_retV (c := .int .i64 n) h (run_v (by simp [Builtin.len_, run_underlying hu, goInt])) rfl
  · rename_i a hd
    have hu := und_of hE hd
    split
    · rename_i n e hd'
      have hu' := und_of hE hd'
      exact good_retV (c := .int .i64 n) h (run_v (by simp [Builtin.len_, run_underlying hu, run_underlying hu', goInt])) rfl
    · exact good_fail
  · rename_i e hd
    have hu := und_of hE hd
    split
    · rename_i a n k
      cases a with
      | none => obtain ⟨m, hm, rfl⟩ := hx; exact good_retV (c := .int .i64 n) h (run_v (by simp [Builtin.len_, run_underlying hu, goInt])) rfl
      | some p => obtain ⟨l, hl, rfl⟩ := hx; exact good_retV (c := .int .i64 n) h (run_v (by simp [Builtin.len_, run_underlying hu, goInt])) rfl
    · obtain ⟨a, m1, rfl⟩ := hx; exact good_retV (c := .int .i64 0) h (run_v (by simp [Builtin.len_, run_underlying hu, goInt])) rfl
    · exact good_fail
  · rename_i k e hd
    have hu := und_of hE hd
    split
    · cases hx
      exact good_retV (c := .int .i64 0) h (run_v (by simp [Builtin.len_, run_underlying hu, goInt])) rfl
    · rename_i r
      obtain ⟨l, hl, rfl⟩ := hx
      refine good_rd fun o ho => ?_
      split
      · rename_i es clock ord
        obtain ⟨l', hl', hob⟩ := h.obj _ _ ho
        rw [hl] at hl'; cases hl'
        have hlen : ∀ (es : List (V × V × Nat)) (cs : List MapEntry), EntsR φ es cs → es.length = cs.length := by
          intro es
          induction es with
          | nil => intro cs h; simp only [EntsR] at h; subst h; rfl
          | cons e es ih => intro cs h; obtain ⟨c, cs', rfl, _, h'⟩ := h; simp [ih _ h']
        have key : ∃ (ms : Array MapEntry) (ck : Nat), w.heap[l.blk]? = some (.map ms ck) ∧ ms.size = es.length := by
          cases ord with
          | true => obtain ⟨_, ms, e1, e2, _⟩ := hob; exact ⟨ms, clock, e1, by simpa using (hlen _ _ e2).symm⟩
          | false => obtain ⟨_, ms, ds, ck, e1, e2, e3, _⟩ := hob; exact ⟨ms, ck, e1, by rw [hlen _ _ e2, e3.length_eq]; simp⟩
        obtain ⟨ms, ck, e1, e2⟩ := key
        have hg : (getObj l.blk).run P w = .ok (.map ms ck) w := by simp [getObj, Sem.run, e1]
        exact good_retV (c := .int .i64 es.length) (h.rd _) (run_v (by simp [Builtin.len_, run_underlying hu, goInt, hg, e2])) rfl
      · exact good_fail
    · exact good_fail
  · exact good_fail

theorem good_cap (hE : EnvOk E P) (h : Rel φ s w) {t ty : TypeId} {ts : List TypeId} {x : V} {c : Value} {cs : List Value} (hx : VR φ x c) :
    Good P φ s w (capAt E t x) ((do pure (.value (← Builtin.cap_ (t :: ts).toArray ty (c :: cs).toArray)) : Sem Next).run P w) := by
  unfold capAt
  split
  · rename_i e hd
    have hu := und_of hE hd
    split
    · rename_i a m n
      cases a with
      | none => obtain ⟨m, hm, rfl⟩ := hx; cases hm; exact good_retV (c := .int .i64 n) h (run_v (by simp [Builtin.cap_, run_underlying hu, goInt])) rfl
      | some p => obtain ⟨l, hl, rfl⟩ := hx; exact good_retV (c := .int .i64 n) h (run_v (by simp [Builtin.cap_, run_underlying hu, goInt, Cap.conc])) rfl
    · exact good_fail
  · rename_i n e hd
    have hu := und_of hE hd
    exact good_retV (c := .int .i64 n) h (run_v (by simp [Builtin.cap_, run_underlying hu, goInt])) rfl
  · exact good_fail

theorem VRL_take (φ : Map) : ∀ (n : Nat) (cs : List V) (xs : List Value), VRL φ cs xs → VRL φ (cs.take n) (xs.take n)
  | 0, cs, xs, _ => by simp [VRL]
  | n + 1, [], xs, h => by simp only [VRL] at h; subst h; simp [VRL]
  | n + 1, c :: cs, xs, h => by
    obtain ⟨x, xs', rfl, h1, h2⟩ := h
    exact ⟨x, _, rfl, h1, VRL_take φ n _ _ h2⟩

/-- what is appended or copied -/
theorem good_src (h : Rel φ s w) {size n : Nat} {y : V} {d : Value} {k : List V → Q OR} {r : Result Next} (hy : VR φ y d)
    (hk : ∀ vs (xs : List Value) s', Rel φ s' w → s'.n = s.n → s'.h = s.h → (∀ dr, (Builtin.firstCells size n d).run P { w with drawn := dr } = .ok xs.toArray { w with drawn := dr }) → VRL φ vs xs → xs.length = n * size → Good P φ s' w (k vs) r) : Good P φ s w (srcOf size n y k) r := by
  unfold srcOf
  split
  · obtain ⟨m, _, rfl⟩ := hy
    cases hn : Nat.beq n 0 with
    | false => exact good_fail
    | true =>
      have := Nat.eq_of_beq_eq_true hn
      subst this
      exact hk [] [] s h rfl rfl (fun dr => by simp [Builtin.firstCells]) rfl (by simp)
  · obtain ⟨a, m1, rfl⟩ := hy
    cases hn : Nat.beq n 0 with
    | false => exact good_fail
    | true =>
      have := Nat.eq_of_beq_eq_true hn
      subst this
      exact hk [] [] s h rfl rfl (fun dr => by simp [Builtin.firstCells, loadCells, loadCellsFrom]) rfl (by simp)
  · rename_i id off _ _
    obtain ⟨l, hl, rfl⟩ := hy
    refine good_rd fun o ho => ?_
    split
    · rename_i cs opn ro
      split
      · rename_i ws hws
        obtain ⟨l', hl', hob⟩ := h.obj _ _ ho
        rw [hl] at hl'; cases hl'
        obtain ⟨xs, h1, h2, h3⟩ := run_row_of (P := P) hob hws
        exact hk ws xs _ (h.rd _) rfl rfl (fun dr => by simpa [Builtin.firstCells] using h1 dr) h2 h3
      · exact good_fail
    · exact good_fail
  · rename_i l
    cases hy
    cases hn : and (Nat.beq size 1) (Nat.ble n l.length) with
    | false => exact good_fail
    | true =>
      simp only [cond_true]
      simp only [Bool.and_eq_true] at hn
      have hn1 := Nat.eq_of_beq_eq_true hn.1
      have hn2 := Nat.le_of_ble_eq_true hn.2
      refine hk _ ((l.take n).map fun b => Value.int .u8 b.toNat) s h rfl rfl (fun dr => ?_) (VRL_bytes φ _) (by simp [hn1]; omega)
      simp only [Builtin.firstCells, Sem.run_pure]
      congr 1
      apply Array.toList_inj.1
      rw [Array.toList_map, ByteArray.data_extract, Array.toList_extract]
      simp [List.extract_eq_take_drop]
  · exact good_fail

theorem run_lenOf {y : V} {d : Value} {n : Nat} (hy : VR φ y d) (h : AM.lenOf y = some n) : (Builtin.lenOf d).run P w = .ok n w := by
  unfold AM.lenOf at h
  split at h
  · rename_i a m k
    cases h
    cases a with
    | none => obtain ⟨m, _, rfl⟩ := hy; rfl
    | some p => obtain ⟨l, _, rfl⟩ := hy; rfl
  · cases h; obtain ⟨a, m1, rfl⟩ := hy; rfl
  · cases h; cases hy; simp [Builtin.lenOf, ByteArray.size]
  · cases h

theorem good_copy (hE : EnvOk E P) (h : Rel φ s w) {t t2 ty : TypeId} {ts : List TypeId} {x y : V} {c d : Value} {cs : List Value} (hx : VR φ x c) (hy : VR φ y d) :
    Good P φ s w (builtinCopy E t x y) ((do pure (.value (← Builtin.copy_ (t :: ts).toArray ty (c :: d :: cs).toArray)) : Sem Next).run P w) := by
  unfold builtinCopy
  split
  · rename_i a len cap
    split
    · rename_i e hd
      have hu := und_of hE hd
      split
      · exact good_fail
      · rename_i te hte
        have hok := hE.ty _ _ hte
        split
        · exact good_fail
        · rename_i m hm
          have hlo := run_lenOf (P := P) (w := w) hy hm
          refine good_src h hy fun vs xs s' hs' hn hh hf hv _ => ?_
          replace hf := hf w.drawn
          split
          · obtain ⟨k, _, rfl⟩ := hx
            refine good_retV (c := .int .i64 (Nat.min m len)) hs' (run_v ?_) rfl
            simp [Builtin.copy_, run_underlying hu, hlo, run_sizeOf hok, hf, goInt]
          · rename_i id off
            obtain ⟨l, hl, rfl⟩ := hx
            intro o s'' e'
            obtain ⟨w', hr, h1, h2, rfl⟩ := rel_putCells (P := P) hs' e' hl hv
            refine ⟨φ, w', h1, h2, .inl ⟨.int .i64 (Nat.min m len), run_v ?_, rfl⟩⟩
            simp [Builtin.copy_, run_underlying hu, hlo, run_sizeOf hok, hf, goInt, hr]
    · exact good_fail
  · exact good_fail

theorem good_foldV {f : V → V → Option V} {g : Value → Value → Sem Value} (hfg : ∀ x y z c d, f x y = some z → VR φ x c → VR φ y d → ∃ e, (g c d).run P w = .ok e w ∧ VR φ z e) :
    ∀ (l : List V) (x v : V) (c : Value) (ds : List Value), foldV f l x = some v → VR φ x c → VRL φ l ds → ∃ e, (ds.foldlM g c).run P w = .ok e w ∧ VR φ v e
  | [], x, v, c, ds, h, hx, hl => by
    simp only [VRL] at hl; subst hl
    simp only [foldV, Option.some.injEq] at h; subst h
    exact ⟨c, by simp, hx⟩
  | y :: l, x, v, c, _, h, hx, ⟨d, ds, rfl, hy, hl⟩ => by
    simp only [foldV] at h
    split at h
    · rename_i z hz
      obtain ⟨e, h1, h2⟩ := hfg _ _ _ _ _ hz hx hy
      obtain ⟨e', h3, h4⟩ := good_foldV hfg l z v e ds h h2 hl
      exact ⟨e', by simp [h1, h3], h4⟩
    · cases h

theorem min_ok (x y z : V) (c d : Value) (h : minI x y = some z) (hx : VR φ x c) (hy : VR φ y d) : ∃ e, (Builtin.min2 c d).run P w = .ok e w ∧ VR φ z e := by
  unfold minI at h
  split at h
  · split at h
    · cases h; cases hx; cases hy
      refine ⟨_, rfl, ?_⟩
      show Value.int _ _ = Value.int _ _
      congr 1
      rw [ltI_eq]
      split <;> rename_i hlt <;> simp [hlt]
    · cases h
  · cases h

theorem max_ok (x y z : V) (c d : Value) (h : maxI x y = some z) (hx : VR φ x c) (hy : VR φ y d) : ∃ e, (Builtin.max2 c d).run P w = .ok e w ∧ VR φ z e := by
  unfold maxI at h
  split at h
  · split at h
    · cases h; cases hx; cases hy
      refine ⟨_, rfl, ?_⟩
      show Value.int _ _ = Value.int _ _
      congr 1
      rw [ltI_eq]
      split <;> rename_i hlt
      · have := Int.lt_of_not_ge (Int.not_le.2 hlt)
        simp [hlt]
      · simp only [gt_iff_lt] at hlt
        simp [hlt]
    · cases h
  · cases h

theorem roomOk_spec {n b : Nat} (h : roomOk n b = true) : n * (b + 1) ≤ 4294967296 := Nat.le_of_ble_eq_true h

theorem good_makeSlice (hE : EnvOk E P) (h : Rel φ s w) {t : TypeId} {x y : V} {c d : Value} (hx : VR φ x c) (hy : VR φ y d) :
    Good P φ s w (makeSliceOf E t x y) ((do pure (.value (← Instr.makeSlice t c d)) : Sem Next).run P w) := by
  unfold makeSliceOf
  split
  · rename_i e hd
    have hu := und_of hE hd
    split
    · rename_i te hte
      have hok := hE.ty _ _ hte
      split
      · rename_i k1 l
        split
        · rename_i k2 n
          cases hb : and (Nat.ble l n) (and (Nat.ble n 4294967296) (roomOk n te.bytes)) with
          | false => exact good_fail
          | true =>
            simp only [cond_true]
            simp only [Bool.and_eq_true] at hb
            obtain ⟨hb1, hb2, hb3⟩ := hb
            have h1 := Nat.le_of_ble_eq_true hb1
            have h2 := Nat.le_of_ble_eq_true hb2
            have h3 := roomOk_spec hb3
            cases hx; cases hy
            obtain ⟨z, hz, hz1, _⟩ := run_zeroValue hok w
            obtain ⟨inf, hinf, hby, hsz⟩ := run_typeInfo hok w
            have hzv : VRL φ te.zero z.cells.toList := by rw [hz1]; exact (VR_ofV φ z).cells
            have hzs : z.cells.size = te.size := by
              have := VRL.length hzv
              rw [hok.len] at this
              simpa using this.symm
            have hw1 : IntKind.i64.wrap (Int.ofNat l) = (l : Int) := wrap_small (k := .i64) (by simp only [lim]; omega)
            have hw2 : IntKind.i64.wrap (Int.ofNat n) = (n : Int) := wrap_small (k := .i64) (by simp only [lim]; omega)
            have hbn : (te.bytes : Int) * n ≤ 4294967296 := by
              have : te.bytes * n ≤ n * (te.bytes + 1) := by rw [Nat.mul_add, Nat.mul_comm]; omega
              have h5 : te.bytes * n ≤ 4294967296 := Nat.le_trans this h3
              rw [← Int.natCast_mul]
              exact Int.ofNat_le.2 h5
            have hzero : ∃ zc : Array Value, ((n * te.size = 0 ∧ zc = #[]) ∨ (¬ n * te.size = 0 ∧ zc = z.cells)) ∧
                VRL φ (repl n te.zero) ((Array.range (n * te.size)).map (fun i => zc[i % zc.size]!)).toList := by
              by_cases h0 : n * te.size = 0
              · refine ⟨#[], .inl ⟨h0, rfl⟩, ?_⟩
                have : repl n te.zero = [] := List.eq_nil_of_length_eq_zero (by rw [repl_length, hok.len, h0])
                rw [this, h0]
                simp [VRL]
              · refine ⟨z.cells, .inr ⟨h0, rfl⟩, ?_⟩
                rw [← hzs, range_map_zero]
                exact VRL_repl hzv n
            obtain ⟨zc, hzc, hrep⟩ := hzero
            refine good_new (ob := .cells ((Array.range (n * te.size)).map (fun i => zc[i % zc.size]!)) e) (l := ⟨w.heap.size, 0, 0, 0, false⟩) h rfl (ob_cells rfl rfl ?_ (fun e => absurd rfl e)) fun hr => ?_
            · exact VRL.mono (Map.upd_ext h.fresh) _ _ hrep
            · refine good_retV (c := .slice (some ⟨w.heap.size, 0, none⟩) l n) hr (run_v ?_) ⟨_, Map.upd_self, rfl⟩
              have hbig : ((te.bytes : Int) * ((n : Int)) > 2 ^ 48) = False := by
                rw [eq_iff_iff, iff_false]
                have : (4294967296 : Int) < 2 ^ 48 := by decide
                omega
              have hroom : (askRoom (n * te.bytes)).run P w = .ok () w := by
                simp only [askRoom]
                split
                · rfl
                · rfl
              have htl : (((n : Int) < 0 || decide ((te.bytes : Int) * (n : Int) > 2 ^ 48)) : Bool) = false := by
                simp only [hbig, decide_false, Bool.or_false, decide_eq_false_iff_not]
                omega
              have hcond : ¬ ((((n : Int) < 0 || decide ((te.bytes : Int) * (n : Int) > 2 ^ 48)) || decide ((l : Int) < 0) || decide ((l : Int) > (n : Int)) : Bool) = true) := by
                rw [htl]
                simp only [Bool.false_or, Bool.or_eq_true, decide_eq_true_eq]
                omega
              rcases hzc with ⟨h0, rfl⟩ | ⟨h0, rfl⟩
              · simp only [Instr.makeSlice, Sem.run_bind, run_underlying hu, Result.andThen_ok, asInt, asIntOf, Sem.run_pure, hinf, hby, hw1, hw2, if_neg hcond, Int.toNat_natCast, hroom, run_sizeOf hok, if_pos h0, newRow, newObj]
                rfl
              · simp only [Instr.makeSlice, Sem.run_bind, run_underlying hu, Result.andThen_ok, asInt, asIntOf, Sem.run_pure, hinf, hby, hw1, hw2, if_neg hcond, Int.toNat_natCast, hroom, run_sizeOf hok, if_neg h0, hz, newRow, newObj]
                rfl
        · exact good_fail
      · exact good_fail
    · exact good_fail
  · exact good_fail

end
end Go.AM

