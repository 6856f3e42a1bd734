/- An abstract machine for the model's programs, its runs, and what they say of the model (part AmR). No condition. -/
import Derived.Test.YtoenpafonldhoaaGreatDoorAmA
import Derived.Laws.Sem
import Derived.Laws.Cells
import Derived.Laws.Entries
import Derived.Laws.StructEq
import Derived.Calls
set_option linter.unusedVariables false
set_option linter.unusedSimpArgs false
set_option linter.unusedSectionVars false
namespace Go.AM
open Go

/-! ## trees -/
theorem Tr.get_one {α : Type} (a : Option α) : ∀ (k n m : Nat), n < k → (Tr.one a k n).get m = if m = n then a else none := by
  intro k
  induction k with
  | zero => intro n m h; omega
  | succ k ih =>
    intro n m h
    simp only [Tr.one]
    by_cases h0 : n = 0
    · subst h0
      simp only [Nat.beq, cond_true, Tr.get]
      by_cases hm : m = 0
      · subst hm; simp
      · have : Nat.beq m 0 = false := by cases m with | zero => omega | succ m => rfl
        simp only [this, cond_false]
        cases Nat.beq (Nat.mod m 2) 1 <;> simp [Tr.get, hm]
    · have hb : Nat.beq n 0 = false := by cases n with | zero => omega | succ m => rfl
      simp only [hb, cond_false]
      have e1 : Nat.mod n 2 = n % 2 := rfl
      have e2 : Nat.div n 2 = n / 2 := rfl
      have f1 : Nat.mod m 2 = m % 2 := rfl
      have f2 : Nat.div m 2 = m / 2 := rfl
      rw [e1, e2]
      by_cases h1 : n % 2 = 1
      · have : Nat.beq (n % 2) 1 = true := by rw [h1]; rfl
        simp only [this, cond_true, Tr.get]
        by_cases hm : m = 0
        · subst hm; simp; omega
        · have hb' : Nat.beq m 0 = false := by cases m with | zero => omega | succ m => rfl
          simp only [hb', cond_false, f1, f2]
          by_cases g1 : m % 2 = 1
          · have : Nat.beq (m % 2) 1 = true := by rw [g1]; rfl
            simp only [this, cond_true]
            rw [ih _ _ (by omega)]
            by_cases e : m = n
            · subst e; simp
            · rw [if_neg (by omega), if_neg e]
          · have : Nat.beq (m % 2) 1 = false := by
              have : m % 2 = 0 := by omega
              rw [this]; rfl
            simp only [this, cond_false]
            rw [if_neg (by intro e; subst e; exact g1 h1)]
      · have : Nat.beq (n % 2) 1 = false := by
          have : n % 2 = 0 := by omega
          rw [this]; rfl
        simp only [this, cond_false, Tr.get]
        by_cases hm : m = 0
        · subst hm; simp; omega
        · have hb' : Nat.beq m 0 = false := by cases m with | zero => omega | succ m => rfl
          simp only [hb', cond_false, f1, f2]
          by_cases g1 : m % 2 = 1
          · have : Nat.beq (m % 2) 1 = true := by rw [g1]; rfl
            simp only [this, cond_true]
            rw [if_neg (by intro e; subst e; exact h1 g1)]
          · have : Nat.beq (m % 2) 1 = false := by
              have : m % 2 = 0 := by omega
              rw [this]; rfl
            simp only [this, cond_false, Nat.pred_eq_sub_one]
            rw [ih _ _ (by omega)]
            by_cases e : m = n
            · subst e; simp
            · rw [if_neg (by omega), if_neg e]

theorem Tr.get_put {α : Type} (a : Option α) : ∀ (t : Tr α) (n m : Nat), (t.put n a).get m = if m = n then a else t.get m := by
  intro t
  induction t with
  | leaf => intro n m; simp only [Tr.put, Tr.get]; exact Tr.get_one a (n + 1) n m (by omega)
  | node l v r hl hr =>
    intro n m
    have e1 : Nat.mod n 2 = n % 2 := rfl
    have e2 : Nat.div n 2 = n / 2 := rfl
    have f1 : Nat.mod m 2 = m % 2 := rfl
    have f2 : Nat.div m 2 = m / 2 := rfl
    simp only [Tr.put, e1, e2]
    have bz : ∀ x : Nat, x ≠ 0 → Nat.beq x 0 = false := fun x hx => by cases x with | zero => omega | succ m => rfl
    have b1 : ∀ x : Nat, x % 2 = 1 → Nat.beq (x % 2) 1 = true := fun x hx => by rw [hx]; rfl
    have b0 : ∀ x : Nat, ¬ x % 2 = 1 → Nat.beq (x % 2) 1 = false := fun x hx => by
      have : x % 2 = 0 := by omega
      rw [this]; rfl
    by_cases h0 : n = 0
    · subst h0
      simp only [Nat.beq, cond_true, Tr.get]
      by_cases hm : m = 0
      · subst hm; simp
      · rw [if_neg hm]; simp only [bz m hm, cond_false]
    · simp only [bz n h0, cond_false]
      by_cases h1 : n % 2 = 1
      · simp only [b1 n h1, cond_true, Tr.get, f1, f2]
        by_cases hm : m = 0
        · subst hm; simp; omega
        · simp only [bz m hm, cond_false]
          by_cases g1 : m % 2 = 1
          · simp only [b1 m g1, cond_true]
            rw [hl]
            by_cases e : m = n
            · subst e; simp
            · rw [if_neg (by omega), if_neg e]
          · simp only [b0 m g1, cond_false]
            rw [if_neg (by intro e; subst e; exact g1 h1)]
      · simp only [b0 n h1, cond_false, Tr.get, f1, f2]
        by_cases hm : m = 0
        · subst hm; simp; omega
        · simp only [bz m hm, cond_false]
          by_cases g1 : m % 2 = 1
          · simp only [b1 m g1, cond_true]
            rw [if_neg (by intro e; subst e; exact h1 g1)]
          · simp only [b0 m g1, cond_false, Nat.pred_eq_sub_one]
            rw [hr]
            by_cases e : m = n
            · subst e; simp
            · rw [if_neg (by omega), if_neg e]

/-! ## trees of heap steps -/
def Q.eval {α : Type} : Q α → S → Option (α × S)
  | .ret a => fun s => some (a, s)
  | .fail _ => fun _ => none
  | .rd id f => fun s => match s.h.get id with
    | some o => (f o).eval (s.rd id)
    | none => none
  | .wr id o q => fun s => q.eval (s.wr id (some o))
  | .kill id q => fun s => q.eval (s.wr id none)
  | .new o f => fun s => (f s.n).eval (s.new o)

theorem Q.run_some {α β : Type} (z : String → β) (k : α → S → β) : ∀ (q : Q α) (s : S) (a : α) (s' : S), q.eval s = some (a, s') → Q.run z q s k = k a s' := by
  intro q
  induction q with
  | ret a => intro s a' s' h; simp only [Q.eval, Option.some.injEq, Prod.mk.injEq] at h; obtain ⟨rfl, rfl⟩ := h; rfl
  | fail w => intro s a' s' h; simp [Q.eval] at h
  | rd id f ih =>
    intro s a' s' h
    simp only [Q.eval] at h
    simp only [Q.run]
    split at h
    · rename_i o ho; simp only [ho]; exact ih o _ _ _ h
    · simp at h
  | wr id o q ih => intro s a' s' h; exact ih _ _ _ h
  | kill id q ih => intro s a' s' h; exact ih _ _ _ h
  | new o f ih => intro s a' s' h; exact ih _ _ _ _ h

theorem Q.run_none {α β : Type} (z : String → β) (k : α → S → β) : ∀ (q : Q α) (s : S), q.eval s = none → ∃ w, Q.run z q s k = z w := by
  intro q
  induction q with
  | ret a => intro s h; simp [Q.eval] at h
  | fail w => intro s _; exact ⟨w, rfl⟩
  | rd id f ih =>
    intro s h
    simp only [Q.eval] at h
    simp only [Q.run]
    split at h
    · rename_i o ho; simp only [ho]; exact ih o _ h
    · rename_i ho; simp only [ho]; exact ⟨_, rfl⟩
  | wr id o q ih => intro s h; exact ih _ h
  | kill id q ih => intro s h; exact ih _ h
  | new o f ih => intro s h; exact ih _ _ h

theorem Q.run_cases {α β : Type} (z : String → β) (k : α → S → β) (q : Q α) (s : S) : (∃ w, Q.run z q s k = z w) ∨ ∃ a s', q.eval s = some (a, s') ∧ Q.run z q s k = k a s' := by
  cases h : q.eval s with
  | none => exact .inl (Q.run_none z k q s h)
  | some p => obtain ⟨a, s'⟩ := p; exact .inr ⟨a, s', rfl, Q.run_some z k q s a s' h⟩

/-! ## what stands for what -/
/-- where an abstract block lies -/
structure Loc where
  blk : Nat
  base : Nat
  ccap : Nat
  esz : Nat
  ro : Bool

/-- where each number lies; 'un': numbers that are never to be used -/
structure Map where
  f : Nat → Option Loc
  un : Nat → Prop

instance : CoeFun Map (fun _ => Nat → Option Loc) := ⟨Map.f⟩

def Cap.conc (l : Loc) : Cap → Nat
  | .exact c => c
  | .opn k => l.ccap - k

def Value.isCell : Value → Bool
  | .agg _ => false
  | .tuple _ => false
  | _ => true

mutual
def VR (φ : Map) : V → Value → Prop
  | .bool b, c => c = .bool b
  | .int k n, c => c = .int k n
  | .str s, c => c = .string ⟨s.toArray⟩
  | .ptr none, c => c = .pointer none
  | .ptr (some p), c => ∃ l, φ p.1 = some l ∧ c = .pointer (some ⟨l.blk, l.base + p.2, none⟩)
  | .slice none n k, c => ∃ m, k = .exact m ∧ c = .slice none n m
  | .slice (some p) n k, c => ∃ l, φ p.1 = some l ∧ c = .slice (some ⟨l.blk, l.base + p.2, none⟩) n (k.conc l)
  | .esl, c => ∃ a n, c = .slice (some a) 0 n
  | .map none, c => c = .map none
  | .map (some r), c => ∃ l, φ r = some l ∧ c = .map (some l.blk)
  | .func f a b, c => ∃ a' b', c = .func (.func f) a' b' ∧ VRL φ a a'.toList ∧ VRL φ b b'.toList
  | .yield r, c => ∃ l, φ r = some l ∧ c = .func (.yield l.blk) #[] #[]
  | .nilFunc, c => c = .nilFunc
  | .iface t v, c => ∃ c', c = .iface t c' ∧ VR φ v c'
  | .nilIface, c => c = .nilIface
  | .agg vs, c => ∃ a, c = .agg a ∧ VRL φ vs a.toList
  | .tuple vs, c => ∃ a, c = .tuple a ∧ VRL φ vs a.toList
  | .bad, c => Value.isCell c = true
def VRL (φ : Map) : List V → List Value → Prop
  | [], l => l = []
  | v :: vs, l => ∃ c cs, l = c :: cs ∧ VR φ v c ∧ VRL φ vs cs
end

mutual
theorem VR.mono {φ ψ : Map} (h : ∀ id l, φ id = some l → ψ id = some l) : ∀ (v : V) (c : Value), VR φ v c → VR ψ v c
  | .bool _, _, r => r
  | .int _ _, _, r => r
  | .str _, _, r => r
  | .ptr none, _, r => r
  | .ptr (some _), _, ⟨l, hl, e⟩ => ⟨l, h _ _ hl, e⟩
  | .slice none _ _, _, r => r
  | .slice (some _) _ _, _, ⟨l, hl, e⟩ => ⟨l, h _ _ hl, e⟩
  | .esl, _, r => r
  | .map none, _, r => r
  | .map (some _), _, ⟨l, hl, e⟩ => ⟨l, h _ _ hl, e⟩
  | .func _ a b, _, ⟨a', b', e, ha, hb⟩ => ⟨a', b', e, VRL.mono h a _ ha, VRL.mono h b _ hb⟩
  | .yield _, _, ⟨l, hl, e⟩ => ⟨l, h _ _ hl, e⟩
  | .nilFunc, _, r => r
  | .iface _ v, _, ⟨c', e, r⟩ => ⟨c', e, VR.mono h v _ r⟩
  | .nilIface, _, r => r
  | .agg vs, _, ⟨a, e, r⟩ => ⟨a, e, VRL.mono h vs _ r⟩
  | .tuple vs, _, ⟨a, e, r⟩ => ⟨a, e, VRL.mono h vs _ r⟩
  | .bad, _, r => r
theorem VRL.mono {φ ψ : Map} (h : ∀ id l, φ id = some l → ψ id = some l) : ∀ (vs : List V) (cs : List Value), VRL φ vs cs → VRL ψ vs cs
  | [], _, r => r
  | v :: vs, _, ⟨c, cs, e, r, rs⟩ => ⟨c, cs, e, VR.mono h v c r, VRL.mono h vs cs rs⟩
end

theorem VRL.length {φ : Map} : ∀ {vs : List V} {cs : List Value}, VRL φ vs cs → vs.length = cs.length
  | [], _, h => by simp only [VRL] at h; subst h; rfl
  | _ :: vs, _, ⟨c, cs, e, _, r⟩ => by subst e; simp [VRL.length r]

theorem VRL.get {φ : Map} : ∀ {vs : List V} {cs : List Value} {i : Nat} {v : V}, VRL φ vs cs → vs[i]? = some v → ∃ c, cs[i]? = some c ∧ VR φ v c
  | [], _, _, _, _, hi => by simp at hi
  | v :: vs, _, 0, _, ⟨c, cs, e, r, _⟩, hi => by subst e; simp at hi; subst hi; exact ⟨c, by simp, r⟩
  | v :: vs, _, i + 1, _, ⟨c, cs, e, _, rs⟩, hi => by
    subst e
    simp only [List.getElem?_cons_succ] at hi ⊢
    exact VRL.get rs hi

theorem VRL.append {φ : Map} : ∀ {vs ws : List V} {cs ds : List Value}, VRL φ vs cs → VRL φ ws ds → VRL φ (vs ++ ws) (cs ++ ds)
  | [], _, _, _, h, h' => by simp only [VRL] at h; subst h; exact h'
  | v :: vs, _, _, _, ⟨c, cs, e, r, rs⟩, h' => by subst e; exact ⟨c, _, rfl, r, VRL.append rs h'⟩

theorem VRL.takeN {φ : Map} : ∀ {n : Nat} {vs ws : List V} {cs : List Value}, VRL φ vs cs → takeN n vs = some ws → VRL φ ws (cs.take n) ∧ n ≤ cs.length
  | 0, _, _, _, _, e => by simp only [AM.takeN, Option.some.injEq] at e; subst e; exact ⟨by simp [VRL], by omega⟩
  | n + 1, [], _, _, _, e => by simp [AM.takeN] at e
  | n + 1, v :: vs, _, _, ⟨c, cs, e', r, rs⟩, e => by
    subst e'
    simp only [AM.takeN] at e
    split at e
    · rename_i l hl
      simp only [Option.some.injEq] at e; subst e
      obtain ⟨h1, h2⟩ := VRL.takeN rs hl
      exact ⟨⟨c, _, by simp, r, h1⟩, by simp; omega⟩
    · simp at e

theorem VRL.dropN {φ : Map} : ∀ {n : Nat} {vs : List V} {cs : List Value}, VRL φ vs cs → VRL φ (dropN n vs) (cs.drop n)
  | 0, _, _, h => by simpa [AM.dropN] using h
  | n + 1, [], _, h => by simp only [VRL] at h; subst h; simp [AM.dropN, VRL]
  | n + 1, v :: vs, _, ⟨c, cs, e', r, rs⟩ => by subst e'; simpa [AM.dropN] using VRL.dropN rs

end Go.AM

namespace Go.AM
open Go

/-! ## objects and worlds -/
def TmR (φ : Map) (t : Tr V) (nt : Nat) (a : Array Value) : Prop := a.size = nt ∧ ∀ i, VR φ (tmV t i) (a.getD i undef)

def optBlk (φ : Map) : Option Nat → Option Nat → Prop
  | none, c => c = none
  | some r, c => ∃ l, φ r = some l ∧ c = some l.blk

def EntR (φ : Map) (e : V × V × Nat) (c : MapEntry) : Prop := VR φ e.1 c.key ∧ VR φ e.2.1 c.val

def EntsR (φ : Map) : List (V × V × Nat) → List MapEntry → Prop
  | [], l => l = []
  | e :: es, l => ∃ c cs, l = c :: cs ∧ EntR φ e c ∧ EntsR φ es cs

def bornsOf : List (V × V × Nat) → List Nat
  | [] => []
  | e :: es => e.2.2 :: bornsOf es

/-- two keys that are numbers, bools or strings, and not the same -/
def flatNe (a b : V) : Prop := eqInt a b = some false ∨ eqBool a b = some false ∨ eqStr a b = some false

def ObB (φ : Map) (l : Loc) : Ob → Option Obj → Prop
  | .cells cs opn ro, ob => ∃ arr elem fz, ob = some (.cells arr elem fz) ∧ (∀ j c, cs[j]? = some c → ∃ x, arr[l.base + j]? = some x ∧ VR φ c x) ∧
      (opn ≠ 0 → l.esz = opn ∧ arr.size = l.base + l.ccap * l.esz) ∧ (ro = false → l.ro = false ∧ ∀ j, l.base ≤ j → j < arr.size → ¬ (fz.1 ≤ j ∧ j < fz.2))
  | .map es clock true, ob => l.ro = false ∧ ∃ cs, ob = some (.map cs clock) ∧ EntsR φ es cs.toList ∧ cs.toList.map (·.born) = bornsOf es
  | .map es _ false, ob => l.ro = false ∧ ∃ cs ds clock, ob = some (.map cs clock) ∧ EntsR φ es ds ∧ ds.Perm cs.toList ∧ es.Pairwise (fun a b => flatNe a.1 b.1)
  | .mapIter m since seen stepped, ob => l.ro = false ∧ l.base = 0 ∧ ∃ m', ob = some (.mapIter m' since seen.toArray stepped) ∧ optBlk φ m m'
  | .loop st pend fn tm nt ps asg body df, ob => l.ro = false ∧ ∃ tms ld, ob = some (.loop { state := st, pending := pend, fn, tmps := tms, params := ps.toArray, assign := asg, body, defers := ld.blk }) ∧ φ df = some ld ∧ TmR φ tm nt tms
  | .defd, ob => l.ro = false ∧ ob = some (.deferred (some []))
  | .cnt _, _ => l.ro = true

theorem TmR.mono {φ ψ : Map} (h : ∀ id l, φ id = some l → ψ id = some l) {t : Tr V} {nt : Nat} {a : Array Value} (r : TmR φ t nt a) : TmR ψ t nt a :=
  ⟨r.1, fun i => VR.mono h _ _ (r.2 i)⟩

theorem EntsR.mono {φ ψ : Map} (h : ∀ id l, φ id = some l → ψ id = some l) : ∀ {es : List (V × V × Nat)} {cs : List MapEntry}, EntsR φ es cs → EntsR ψ es cs
  | [], _, r => r
  | _ :: _, _, ⟨c, cs, e, ⟨r1, r2⟩, rs⟩ => ⟨c, cs, e, ⟨VR.mono h _ _ r1, VR.mono h _ _ r2⟩, EntsR.mono h rs⟩

theorem ObB.mono {φ ψ : Map} (h : ∀ id l, φ id = some l → ψ id = some l) {l : Loc} : ∀ {o : Ob} {ob : Option Obj}, ObB φ l o ob → ObB ψ l o ob
  | .cells _ _ _, _, ⟨arr, elem, fz, e, hc, ho, hr⟩ => ⟨arr, elem, fz, e, fun j c hj => (hc j c hj).imp fun _ hx => ⟨hx.1, VR.mono h _ _ hx.2⟩, ho, hr⟩
  | .map _ _ true, _, ⟨r, cs, e, he, hb⟩ => ⟨r, cs, e, he.mono h, hb⟩
  | .map _ _ false, _, ⟨r, cs, ds, k, e, he, hp, hn⟩ => ⟨r, cs, ds, k, e, he.mono h, hp, hn⟩
  | .mapIter none _ _ _, _, ⟨r, r', m', e, hm⟩ => ⟨r, r', m', e, hm⟩
  | .mapIter (some _) _ _ _, _, ⟨r, r', m', e, lm, hm, e'⟩ => ⟨r, r', m', e, lm, h _ _ hm, e'⟩
  | .loop .., _, ⟨r, tms, ld, e, hd, ht⟩ => ⟨r, tms, ld, e, h _ _ hd, ht.mono h⟩
  | .defd, _, r => r
  | .cnt _, _, r => r

structure Rel (φ : Map) (s : S) (w : World) : Prop where
  obj : ∀ id o, s.h.get id = some o → ∃ l, φ id = some l ∧ ObB φ l o (w.heap[l.blk]?)
  inj : ∀ id id' l l', φ id = some l → φ id' = some l' → s.h.get id ≠ none → s.h.get id' ≠ none → l.blk = l'.blk → id = id' ∨ (l.ro = true ∧ l'.ro = true)
  dom : ∀ id, s.n ≤ id → φ id = none
  bnd : ∀ id l, φ id = some l → l.blk < w.heap.size
  un : ∀ id, φ.un id → id < s.n ∧ φ id = none

/-- what a step leaves as it was -/
structure Keep (φ : Map) (w : World) (φ' : Map) (w' : World) : Prop where
  ext : ∀ id l, φ id = some l → φ' id = some l
  size : w.heap.size ≤ w'.heap.size
  same : ∀ b, b < w.heap.size → (∀ id l, φ id = some l → l.blk = b → l.ro = true) → w'.heap[b]? = w.heap[b]?
  from_ : ∀ id l, φ' id = some l → (∃ id' l', φ id' = some l' ∧ l'.blk = l.blk ∧ (l.ro = false → l'.ro = false)) ∨ w.heap.size ≤ l.blk
  os : w'.os = w.os
  output : w'.output = w.output
  tape : w'.tape = w.tape
  un : φ'.un = φ.un
  newro : ∀ id l, φ' id = some l → φ id = some l ∨ l.ro = false

theorem Keep.refl (φ : Map) (w : World) : Keep φ w φ w :=
  ⟨fun _ _ h => h, Nat.le_refl _, fun _ _ _ => rfl, fun id l h => .inl ⟨id, l, h, rfl, fun h => h⟩, rfl, rfl, rfl, rfl, fun _ _ h => .inl h⟩

theorem Keep.trans {φ φ₁ φ₂ : Map} {w w₁ w₂ : World} (h : Keep φ w φ₁ w₁) (g : Keep φ₁ w₁ φ₂ w₂) : Keep φ w φ₂ w₂ where
  ext id l e := g.ext id l (h.ext id l e)
  size := Nat.le_trans h.size g.size
  same b hb hr := by
    rw [g.same b (Nat.lt_of_lt_of_le hb h.size) ?_, h.same b hb hr]
    intro id l hl e
    rcases h.from_ id l hl with ⟨id', l', h1, h2, h3⟩ | h1
    · have := hr id' l' h1 (h2.trans e)
      cases hro : l.ro with
      | true => rfl
      | false => rw [h3 hro] at this; simp at this
    · omega
  from_ id l hl := by
    rcases g.from_ id l hl with ⟨id', l', h1, h2, h3⟩ | h1
    · rcases h.from_ id' l' h1 with ⟨id'', l'', k1, k2, k3⟩ | k1
      · exact .inl ⟨id'', l'', k1, k2.trans h2, fun e => k3 (h3 e)⟩
      · exact .inr (by omega)
    · exact .inr (Nat.le_trans h.size h1)
  os := g.os.trans h.os
  output := g.output.trans h.output
  tape := g.tape.trans h.tape
  un := g.un.trans h.un
  newro id l hl := (g.newro id l hl).elim (fun h1 => h.newro id l h1) .inr

def Map.upd (φ : Map) (n : Nat) (l : Loc) : Map := ⟨fun i => if i = n then some l else φ i, φ.un⟩

theorem Map.upd_self {φ : Map} {n : Nat} {l : Loc} : φ.upd n l n = some l := by simp [Map.upd]

theorem Map.upd_ext {φ : Map} {n : Nat} {l : Loc} (h : φ n = none) : ∀ id k, φ id = some k → φ.upd n l id = some k := by
  intro id k e
  show (if id = n then some l else φ id) = some k
  split
  · rename_i he; subst he; rw [h] at e; simp at e
  · exact e

theorem Rel.rd {φ : Map} {s : S} {w : World} (h : Rel φ s w) (id : Nat) : Rel φ (s.rd id) w := ⟨h.obj, h.inj, h.dom, h.bnd, h.un⟩

theorem Rel.log {φ : Map} {s : S} {w : World} (h : Rel φ s w) (lg : List (Nat × Bool)) : Rel φ ⟨s.h, s.n, lg⟩ w := ⟨h.obj, h.inj, h.dom, h.bnd, h.un⟩

/-- a block is written -/
theorem Rel.wr {φ : Map} {s : S} {w w' : World} {id : Nat} {l : Loc} {o : Ob} (h : Rel φ s w) (hl : φ id = some l) (hro : l.ro = false) (hid : s.h.get id ≠ none)
    (hs : w'.heap.size = w.heap.size) (hb : ∀ b, b ≠ l.blk → w'.heap[b]? = w.heap[b]?) (ho : ObB φ l o (w'.heap[l.blk]?)) : Rel φ (s.wr id (some o)) w' where
  obj j oj hj := by
    simp only [S.wr, Tr.get_put] at hj
    split at hj
    · rename_i e; subst e; simp only [Option.some.injEq] at hj; subst hj; exact ⟨l, hl, ho⟩
    · rename_i hne
      obtain ⟨k, hk, hok⟩ := h.obj j oj hj
      refine ⟨k, hk, ?_⟩
      rw [hb k.blk ?_]
      · exact hok
      · intro e
        rcases h.inj j id k l hk hl (by simp [hj]) hid e with e | ⟨_, e⟩
        · exact hne e
        · rw [hro] at e; cases e
  inj a b la lb ha hb' hga hgb e := by
    simp only [S.wr, Tr.get_put] at hga hgb
    refine h.inj a b la lb ha hb' ?_ ?_ e
    · split at hga <;> simp_all
    · split at hgb <;> simp_all
  dom := h.dom
  bnd j lj hj := by rw [hs]; exact h.bnd j lj hj
  un := h.un

theorem Rel.kill {φ : Map} {s : S} {w : World} (h : Rel φ s w) (id : Nat) : Rel φ (s.wr id none) w where
  obj j oj hj := by
    simp only [S.wr, Tr.get_put] at hj
    split at hj
    · simp at hj
    · exact h.obj j oj hj
  inj a b la lb ha hb' hga hgb e := by
    simp only [S.wr, Tr.get_put] at hga hgb
    refine h.inj a b la lb ha hb' ?_ ?_ e
    · split at hga <;> simp_all
    · split at hgb <;> simp_all
  dom := h.dom
  bnd := h.bnd
  un := h.un

theorem Rel.fresh {φ : Map} {s : S} {w : World} (h : Rel φ s w) : φ s.n = none := h.dom _ (Nat.le_refl _)

/-- an abstract block comes: on a block that no living one has -/
theorem Rel.new {φ : Map} {s : S} {w w' : World} {l : Loc} {o : Ob} (h : Rel φ s w) (hsz : w.heap.size ≤ w'.heap.size) (hlb : l.blk < w'.heap.size)
    (hfree : ∀ id k, φ id = some k → s.h.get id ≠ none → k.blk ≠ l.blk) (hb : ∀ id k, φ id = some k → s.h.get id ≠ none → w'.heap[k.blk]? = w.heap[k.blk]?)
    (ho : ObB (φ.upd s.n l) l o (w'.heap[l.blk]?)) : Rel (φ.upd s.n l) (s.new o) w' where
  obj j oj hj := by
    simp only [S.new, Tr.get_put] at hj
    split at hj
    · rename_i e; subst e; simp only [Option.some.injEq] at hj; subst hj; exact ⟨l, by simp [Map.upd], ho⟩
    · rename_i hne
      obtain ⟨k, hk, hok⟩ := h.obj j oj hj
      refine ⟨k, Map.upd_ext h.fresh _ _ hk, ?_⟩
      rw [hb j k hk (by simp [hj])]
      exact hok.mono (Map.upd_ext h.fresh)
  inj a b la lb ha hb' hga hgb e := by
    simp only [S.new, Tr.get_put] at hga hgb
    simp only [Map.upd] at ha hb'
    by_cases ea : a = s.n
    · by_cases eb : b = s.n
      · exact .inl (by rw [ea, eb])
      · rw [if_pos ea] at ha; rw [if_neg eb] at hb' hgb
        simp only [Option.some.injEq] at ha; subst ha
        exact absurd e.symm (hfree b lb hb' hgb)
    · rw [if_neg ea] at ha hga
      by_cases eb : b = s.n
      · rw [if_pos eb] at hb'
        simp only [Option.some.injEq] at hb'; subst hb'
        exact absurd e (hfree a la ha hga)
      · rw [if_neg eb] at hb' hgb
        exact h.inj a b la lb ha hb' hga hgb e
  dom j hj := by
    simp only [S.new] at hj
    simp only [Map.upd]
    rw [if_neg (by omega)]; exact h.dom j (by omega)
  bnd j lj hj := by
    simp only [Map.upd] at hj
    split at hj
    · simp only [Option.some.injEq] at hj; subst hj; exact hlb
    · exact Nat.lt_of_lt_of_le (h.bnd j lj hj) hsz
  un j hj := by
    obtain ⟨h1, h2⟩ := h.un j hj
    refine ⟨Nat.lt_succ_of_lt h1, ?_⟩
    simp only [Map.upd]
    rw [if_neg (by omega)]; exact h2

/-- a new block -/
theorem Rel.alloc {φ : Map} {s : S} {w : World} {o : Ob} {ob : Obj} {l : Loc} (h : Rel φ s w) (hl : l.blk = w.heap.size) (ho : ObB (φ.upd s.n l) l o (some ob)) :
    Rel (φ.upd s.n l) (s.new o) { w with heap := w.heap.push ob } := by
  refine h.new (by simp) (by simp [hl]) ?_ ?_ ?_
  · intro id k hk _ e
    have := h.bnd id k hk
    omega
  · intro id k hk _
    have := h.bnd id k hk
    simp [Array.getElem?_push, Nat.ne_of_lt this]
  · simpa [Array.getElem?_push, hl] using ho

theorem Keep.alloc {φ : Map} {s : S} {w : World} {ob : Obj} {l : Loc} (h : Rel φ s w) (hl : l.blk = w.heap.size) (hro : l.ro = false := by rfl) :
    Keep φ w (φ.upd s.n l) { w with heap := w.heap.push ob } where
  ext := Map.upd_ext h.fresh
  size := by simp
  same b hb _ := by simp [Array.getElem?_push, Nat.ne_of_lt hb]
  from_ id k hk := by
    simp only [Map.upd] at hk
    split at hk
    · simp only [Option.some.injEq] at hk; subst hk; exact .inr (by omega)
    · exact .inl ⟨id, k, hk, rfl, fun h => h⟩
  os := rfl
  output := rfl
  tape := rfl
  un := rfl
  newro id k hk := by
    have hk' : (if id = s.n then some l else φ id) = some k := hk
    split at hk'
    · simp only [Option.some.injEq] at hk'; subst hk'; exact .inr hro
    · exact .inl hk'

/-- one block is written -/
theorem Keep.wr {φ : Map} {w w' : World} {id : Nat} {l : Loc} (hl : φ id = some l) (hro : l.ro = false) (hs : w'.heap.size = w.heap.size) (hb : ∀ b, b ≠ l.blk → w'.heap[b]? = w.heap[b]?)
    (ho : w'.os = w.os) (hp : w'.output = w.output) (ht : w'.tape = w.tape) : Keep φ w φ w' where
  ext _ _ h := h
  size := by omega
  same b _ hr := by
    by_cases e : b = l.blk
    · subst e
      have := hr id l hl rfl
      rw [hro] at this; simp at this
    · exact hb b e
  from_ id l h := .inl ⟨id, l, h, rfl, fun h => h⟩
  os := ho
  output := hp
  tape := ht
  un := rfl
  newro _ _ h := .inl h

/-- one draw -/
theorem Rel.drawn {φ : Map} {s : S} {w : World} (h : Rel φ s w) (n : Nat) : Rel φ s { w with drawn := n } := ⟨h.obj, h.inj, h.dom, h.bnd, h.un⟩
theorem Keep.drawn (φ : Map) (w : World) (n : Nat) : Keep φ w φ { w with drawn := n } :=
  ⟨fun _ _ h => h, Nat.le_refl _, fun _ _ _ => rfl, fun id l h => .inl ⟨id, l, h, rfl, fun h => h⟩, rfl, rfl, rfl, rfl, fun _ _ h => .inl h⟩

end Go.AM

