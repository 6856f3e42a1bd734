/- An abstract machine for the model's programs, its runs, and what they say of the model (part AmE). No condition. -/
import Derived.Test.YtoenpafonldhoaaGreatDoorAmD
set_option linter.unusedVariables false
set_option linter.unusedSimpArgs false
set_option linter.unusedSectionVars false
namespace Go.AM
open Go
set_option linter.unusedVariables false
set_option linter.unusedSimpArgs false

/-! ## a run depends on the numbers that it logs, and on nothing else -/
def Sim (D : Nat → Prop) (s s' : S) : Prop := s'.n = s.n ∧ ∀ id, D id → s'.h.get id = s.h.get id

structure Stp (s t : S) (new : List (Nat × Bool)) : Prop where
  lg : t.lg = new ++ s.lg
  n : s.n ≤ t.n
  same : ∀ id, id < s.n → (∀ p ∈ new, p.1 = id → p.2 = false) → t.h.get id = s.h.get id

theorem Stp.refl (s : S) : Stp s s [] := ⟨rfl, Nat.le_refl _, fun _ _ _ => rfl⟩

theorem Stp.trans {s t u : S} {n₁ n₂ : List (Nat × Bool)} (h : Stp s t n₁) (g : Stp t u n₂) : Stp s u (n₂ ++ n₁) where
  lg := by rw [g.lg, h.lg, List.append_assoc]
  n := Nat.le_trans h.n g.n
  same id hid hw := by
    rw [g.same id (Nat.lt_of_lt_of_le hid h.n) (fun p hp => hw p (List.mem_append_left _ hp)), h.same id hid (fun p hp => hw p (List.mem_append_right _ hp))]

class Res (ρ : Type) where
  st : ρ → Option S
  put : ρ → S → ρ

instance : Res R := ⟨fun | .ok _ _ s => some s | .fail _ => none, fun | .ok x fr _ => fun s => .ok x fr s | .fail w => fun _ => .fail w⟩
instance : Res TR := ⟨fun | .ret _ _ s => some s | .pan _ _ s => some s | .code (.ok _ _ s) => some s | _ => none,
  fun | .ret v rc _ => fun s => .ret v rc s | .pan v rc _ => fun s => .pan v rc s | .code (.ok x fr _) => fun s => .code (.ok x fr s) | r => fun _ => r⟩
instance : Res O1 := ⟨fun | .go _ s => some s | .pan _ s => some s | .fail _ => none, fun | .go fr _ => fun s => .go fr s | .pan v _ => fun s => .pan v s | .fail w => fun _ => .fail w⟩

def LclW {ρ : Type} [Res ρ] (l : Option Nat) (F : S → ρ) : Prop := ∀ (s t : S), Res.st (F s) = some t → ∃ new, (∀ i, l = some i → ∃ p ∈ new, p.1 = i) ∧ Stp s t new ∧
   ∀ (D : Nat → Prop) (s' : S), Sim D s s' → (∀ p ∈ new, D p.1) → (∀ id, s.n ≤ id → D id) → ∃ t', F s' = Res.put (F s) t' ∧ Sim D t t' ∧ Stp s' t' new

abbrev Lcl {ρ : Type} [Res ρ] (F : S → ρ) : Prop := LclW none F

section
variable {ρ σ : Type} [Res ρ] [Res σ]

theorem LclW.none {l : Option Nat} {F : S → ρ} (h : LclW l F) : Lcl F := fun s t ht =>
  let ⟨new, _, h2, h3⟩ := h s t ht
  ⟨new, fun i hi => by simp at hi, h2, h3⟩

theorem lcl_fail {l : Option Nat} {z : ρ} (h : Res.st z = Option.none) : LclW l (fun _ => z) := fun s t ht => by rw [h] at ht; simp at ht

theorem lcl_of {F : S → ρ} (h1 : ∀ s, Res.st (F s) = some s) (h2 : ∀ s s', F s' = Res.put (F s) s') : Lcl F := fun s t ht => by
  rw [h1] at ht
  simp only [Option.some.injEq] at ht; subst ht
  refine ⟨[], fun i hi => by simp at hi, .refl _, fun D s' hs _ _ => ⟨s', h2 s s', hs, .refl _⟩⟩

theorem lcl_ok {x : X} {fr : Fr} : Lcl (fun s => R.ok x fr s) := lcl_of (fun _ => rfl) (fun _ _ => rfl)
theorem lcl_ret {v : V} {rc : Bool} : Lcl (fun s => TR.ret v rc s) := lcl_of (fun _ => rfl) (fun _ _ => rfl)
theorem lcl_pan {v : V} {rc : Bool} : Lcl (fun s => TR.pan v rc s) := lcl_of (fun _ => rfl) (fun _ _ => rfl)
theorem lcl_code {x : X} {fr : Fr} : Lcl (fun s => TR.code (.ok x fr s)) := lcl_of (fun _ => rfl) (fun _ _ => rfl)
theorem lcl_go {fr : Fr} : Lcl (fun s => O1.go fr s) := lcl_of (fun _ => rfl) (fun _ _ => rfl)
theorem lcl_panO {v : V} : Lcl (fun s => O1.pan v s) := lcl_of (fun _ => rfl) (fun _ _ => rfl)

/-- one step ahead -/
theorem lcl_step {F : S → ρ} {g : S → S} {e : Nat × Bool} (hF : Lcl F) (hs : ∀ s, Stp s (g s) [e]) (hsim : ∀ (D : Nat → Prop) (s s' : S), Sim D s s' → D e.1 → Sim D (g s) (g s')) : LclW (some e.1) (fun s => F (g s)) := fun s t ht => by
  obtain ⟨new, _, h2, h3⟩ := hF (g s) t ht
  refine ⟨new ++ [e], fun i hi => ⟨e, by simp, by simpa using hi⟩, (hs s).trans h2, fun D s' hS hD hN => ?_⟩
  obtain ⟨t', k1, k2, k3⟩ := h3 D (g s') (hsim D s s' hS (hD e (by simp))) (fun p hp => hD p (List.mem_append_left _ hp)) (fun id hid => hN id (Nat.le_trans (hs s).n hid))
  exact ⟨t', k1, k2, (hs s').trans k3⟩

theorem lcl_rd {F : S → ρ} (id : Nat) (hF : Lcl F) : LclW (some id) (fun s => F (s.rd id)) :=
  lcl_step (g := fun s => s.rd id) (e := (id, false)) hF (fun s => ⟨rfl, Nat.le_refl _, fun _ _ _ => rfl⟩) (fun D s s' h _ => ⟨h.1, h.2⟩)

theorem lcl_wr {F : S → ρ} (id : Nat) (o : Option Ob) (hF : Lcl F) : LclW (some id) (fun s => F (s.wr id o)) :=
  lcl_step (g := fun s => s.wr id o) (e := (id, true)) hF (fun s => ⟨rfl, Nat.le_refl _, fun i hi hw => by
    have : i ≠ id := fun e => by have := hw (id, true) (by simp) e.symm; simp at this
    simp only [S.wr, Tr.get_put, if_neg this]⟩)
    (fun D s s' h hD => ⟨h.1, fun i hi => by simp only [S.wr, Tr.get_put]; split; rfl; exact h.2 i hi⟩)

theorem lcl_new {F : Nat → S → ρ} (o : Nat → Ob) (hF : ∀ n, Lcl (F n)) : Lcl (fun s => F s.n (s.new (o s.n))) := fun s t ht => by
  obtain ⟨new, _, h2, h3⟩ := hF s.n (s.new (o s.n)) t ht
  have hst : ∀ s : S, Stp s (s.new (o s.n)) [(s.n, true)] := fun s => ⟨rfl, Nat.le_succ _, fun i hi _ => by
    have : i ≠ s.n := by omega
    simp only [S.new, Tr.get_put, if_neg this]⟩
  refine ⟨new ++ [(s.n, true)], fun i hi => by simp at hi, (hst s).trans h2, fun D s' hS hD hN => ?_⟩
  have hS' : Sim D (s.new (o s.n)) (s'.new (o s'.n)) := by
    refine ⟨by simp [S.new, hS.1], fun i hi => ?_⟩
    simp only [S.new, Tr.get_put, hS.1]
    split
    · rfl
    · exact hS.2 i hi
  obtain ⟨t', k1, k2, k3⟩ := h3 D _ hS' (fun p hp => hD p (List.mem_append_left _ hp)) (fun id hid => hN id (Nat.le_trans (Nat.le_succ _) hid))
  refine ⟨t', ?_, k2, ?_⟩
  · simp only [hS.1] at k1 ⊢; exact k1
  · have := (hst s').trans k3
    rw [hS.1] at this; exact this

/-- a look at an object that is logged later -/
theorem lcl_get {G : Option Ob → S → ρ} (l : Nat) (h : ∀ o, LclW (some l) (G o)) : LclW (some l) (fun s => G (s.h.get l) s) := fun s t ht => by
  obtain ⟨new, h1, h2, h3⟩ := h (s.h.get l) s t ht
  refine ⟨new, h1, h2, fun D s' hS hD hN => ?_⟩
  obtain ⟨p, hp, e⟩ := h1 l rfl
  have hl : s'.h.get l = s.h.get l := hS.2 l (e ▸ hD p hp)
  obtain ⟨t', k1, k2, k3⟩ := h3 D s' hS hD hN
  exact ⟨t', by simp only [hl]; exact k1, k2, k3⟩

/-- one run behind another: 'f' goes on with what 'F' gave -/
theorem lcl_bind {F : S → ρ} {f : ρ → σ} (hF : Lcl F) (hz : ∀ s, Res.st (F s) = Option.none → Res.st (f (F s)) = Option.none)
    (hput : ∀ (s : S) (r : ρ) (t : S), Res.st r = some t → r = Res.put r t ∧ ∀ t', Res.put (Res.put r t) t' = Res.put r t')
    (hf : ∀ r : ρ, (∃ t, Res.st r = some t) → Lcl (fun s => f (Res.put r s))) : Lcl (fun s => f (F s)) := fun s t ht => by
  cases hs : Res.st (F s) with
  | none => rw [hz s hs] at ht; simp at ht
  | some s1 =>
    obtain ⟨n1, _, h2, h3⟩ := hF s s1 hs
    have he := (hput s (F s) s1 hs).1
    have ht' : Res.st (f (Res.put (F s) s1)) = some t := by rw [← he]; exact ht
    obtain ⟨n2, _, g2, g3⟩ := hf (F s) ⟨s1, hs⟩ s1 t ht'
    refine ⟨n2 ++ n1, fun i hi => by simp at hi, h2.trans g2, fun D s' hS hD hN => ?_⟩
    obtain ⟨t1, k1, k2, k3⟩ := h3 D s' hS (fun p hp => hD p (List.mem_append_right _ hp)) hN
    obtain ⟨t2, m1, m2, m3⟩ := g3 D t1 k2 (fun p hp => hD p (List.mem_append_left _ hp)) (fun id hid => hN id (Nat.le_trans h2.n hid))
    refine ⟨t2, ?_, m2, k3.trans m3⟩
    show f (F s') = Res.put (f (F s)) t2
    rw [k1]
    have m1' : f (Res.put (F s) t1) = Res.put (f (Res.put (F s) s1)) t2 := m1
    rw [m1', ← he]

theorem lcl_bindT {F : S → TR} {f : TR → σ} (hF : Lcl F) (h1 : ∀ v rc, Lcl (fun s => f (.ret v rc s))) (h2 : ∀ v rc, Lcl (fun s => f (.pan v rc s))) (h3 : ∀ x fr, Lcl (fun s => f (.code (.ok x fr s))))
    (h4 : ∀ w, Res.st (f (.fail w)) = none) (h5 : ∀ w, Res.st (f (.code (.fail w))) = none) : Lcl (fun s => f (F s)) := by
  refine lcl_bind hF ?_ ?_ ?_
  · intro s hs
    cases hF : F s with
    | ret v rc s => rw [hF] at hs; simp [Res.st] at hs
    | pan v rc s => rw [hF] at hs; simp [Res.st] at hs
    | fail w => exact h4 w
    | code r => cases r with
      | ok x fr s => rw [hF] at hs; simp [Res.st] at hs
      | fail w => exact h5 w
  · intro s r t ht
    cases r with
    | ret v rc s => simp only [Res.st, Option.some.injEq] at ht; subst ht; exact ⟨rfl, fun _ => rfl⟩
    | pan v rc s => simp only [Res.st, Option.some.injEq] at ht; subst ht; exact ⟨rfl, fun _ => rfl⟩
    | fail w => simp [Res.st] at ht
    | code r => cases r with
      | ok x fr s => simp only [Res.st, Option.some.injEq] at ht; subst ht; exact ⟨rfl, fun _ => rfl⟩
      | fail w => simp [Res.st] at ht
  · intro r ⟨t, ht⟩
    cases r with
    | ret v rc s => exact h1 v rc
    | pan v rc s => exact h2 v rc
    | fail w => simp [Res.st] at ht
    | code r => cases r with
      | ok x fr s => exact h3 x fr
      | fail w => simp [Res.st] at ht

theorem lcl_bindR {F : S → R} {f : R → σ} (hF : Lcl F) (h1 : ∀ x fr, Lcl (fun s => f (.ok x fr s))) (h4 : ∀ w, Res.st (f (.fail w)) = none) : Lcl (fun s => f (F s)) := by
  refine lcl_bind hF ?_ ?_ ?_
  · intro s hs
    cases hF : F s with
    | ok x fr s => rw [hF] at hs; simp [Res.st] at hs
    | fail w => exact h4 w
  · intro s r t ht
    cases r with
    | ok x fr s => simp only [Res.st, Option.some.injEq] at ht; subst ht; exact ⟨rfl, fun _ => rfl⟩
    | fail w => simp [Res.st] at ht
  · intro r ⟨t, ht⟩
    cases r with
    | ok x fr s => exact h1 x fr
    | fail w => simp [Res.st] at ht

theorem lcl_bindO {F : S → O1} {f : O1 → σ} (hF : Lcl F) (h1 : ∀ fr, Lcl (fun s => f (.go fr s))) (h2 : ∀ v, Lcl (fun s => f (.pan v s))) (h4 : ∀ w, Res.st (f (.fail w)) = none) : Lcl (fun s => f (F s)) := by
  refine lcl_bind hF ?_ ?_ ?_
  · intro s hs
    cases hF : F s with
    | go fr s => rw [hF] at hs; simp [Res.st] at hs
    | pan v s => rw [hF] at hs; simp [Res.st] at hs
    | fail w => exact h4 w
  · intro s r t ht
    cases r with
    | go fr s => simp only [Res.st, Option.some.injEq] at ht; subst ht; exact ⟨rfl, fun _ => rfl⟩
    | pan v s => simp only [Res.st, Option.some.injEq] at ht; subst ht; exact ⟨rfl, fun _ => rfl⟩
    | fail w => simp [Res.st] at ht
  · intro r ⟨t, ht⟩
    cases r with
    | go fr s => exact h1 fr
    | pan v s => exact h2 v
    | fail w => simp [Res.st] at ht

theorem lcl_Q {α : Type} {z : String → ρ} (hz : ∀ w, Res.st (z w) = none) {k : α → S → ρ} (hk : ∀ a, Lcl (k a)) : ∀ q : Q α, Lcl (fun s => Q.run z q s k) := by
  intro q
  induction q with
  | ret a => exact hk a
  | fail w => exact lcl_fail (hz w)
  | rd id f ih =>
    have := lcl_get (G := fun o s => match o with
      | some o => Q.run z (f o) (s.rd id) k
      | none => z "no object") id (fun o => by
        cases o with
        | none => exact lcl_fail (hz _)
        | some o => exact lcl_rd id (ih o))
    have e : (fun s : S => Q.run z (Q.rd id f) s k) = fun s => (fun (o : Option Ob) (s : S) => match o with
      | some o => Q.run z (f o) (s.rd id) k
      | none => z "no object") (s.h.get id) s := by
      funext s
      simp only [Q.run]
      cases s.h.get id <;> rfl
    rw [e]
    exact this.none
  | wr id o q ih => exact (lcl_wr id (some o) ih).none
  | kill id q ih => exact (lcl_wr id none ih).none
  | new o f ih => exact lcl_new (F := fun n s => Q.run z (f n) s k) (fun _ => o) ih

end
end Go.AM

namespace Go.AM
open Go
set_option linter.unusedVariables false
set_option linter.unusedSimpArgs false

def LSelf (self : Self) : Prop := ∀ t, Lcl (fun s => self t s)

section
variable {E : Env} {self : Self} {cx : Cx} {fr : Fr}

theorem lcl_afterCall (hs : LSelf self) (t : Task) (dst : Option Tmp) : Lcl (fun s => afterCall cx fr dst (self t s)) :=
  lcl_bindT (hs t)
    (fun v rc => by cases rc; exact lcl_go; exact lcl_fail rfl)
    (fun v rc => by cases rc; exact lcl_panO; exact lcl_fail rfl)
    (fun _ _ => lcl_fail rfl) (fun _ => rfl) (fun _ => rfl)

theorem lcl_after (hs : LSelf self) (dst : Option Tmp) : ∀ r, Lcl (after self cx fr dst r)
  | .val v => lcl_go
  | .pan v => lcl_panO
  | .defer d => by
    show Lcl (fun s => deferred cx fr dst d s)
    unfold deferred
    cases cx.rd with
    | none => exact lcl_go
    | some x => exact lcl_fail rfl
  | .recover => by
    show Lcl (fun s => recovered cx fr dst s)
    unfold recovered
    cases cx.rd with
    | some x => exact lcl_fail rfl
    | none =>
      cases cx.pk with
      | none => exact lcl_go
      | some v => cases fr.rc <;> exact lcl_go
  | .call f args => lcl_afterCall hs _ _
  | .round l args => lcl_afterCall hs _ _

theorem lcl_exec1 (hs : LSelf self) (ops : List Oper) (o : Oper) : Lcl (exec1 E self cx ops o fr) := by
  show Lcl (fun s => exec1 E self cx ops o fr s)
  unfold exec1
  cases guardOk ops fr o.guard with
  | true => exact lcl_Q (fun _ => rfl) (lcl_after hs o.dst) _
  | false =>
    cases guardNot ops fr o.guard with
    | true => exact lcl_go
    | false => exact lcl_fail rfl

theorem lcl_evOps (hs : LSelf self) (ops : List Oper) : ∀ (l : List Oper) (fr : Fr), Lcl (evOps E self cx ops l fr)
  | [], fr => lcl_ok
  | o :: l, fr => by
    have := lcl_bindO (f := fun r => match r with
      | .go fr s => evOps E self cx ops l fr s
      | .pan v s => R.ok (.panic v) fr s
      | .fail why => R.fail why) (lcl_exec1 (E := E) (cx := cx) (fr := fr) hs ops o) (fun fr => lcl_evOps hs ops l fr) (fun v => lcl_ok) (fun _ => rfl)
    exact this

theorem lcl_jumpOf : ∀ j : Option Code, Lcl (fun s => jumpOf fr s j)
  | none => lcl_ok
  | some (.exit i) => lcl_ok
  | some (.goto i) => lcl_ok
  | some .ret => lcl_ok
  | some .skip => lcl_fail rfl
  | some (.region _ _ _) => lcl_fail rfl
  | some (.seq _ _) => lcl_fail rfl
  | some (.cond _ _ _) => lcl_fail rfl
  | some (.block _ _) => lcl_fail rfl
  | some (.loop _) => lcl_fail rfl
  | some (.rangeFunc _ _ _ _) => lcl_fail rfl
  | some (.scope _) => lcl_fail rfl
  | some (.label _) => lcl_fail rfl
  | some (.refuse _) => lcl_fail rfl

theorem lcl_endLoop (l : Nat) : ∀ o, LclW (some l) (fun s => endLoop l fr s o) := by
  intro o
  cases o with
  | none => exact lcl_fail rfl
  | some ob =>
    cases ob with
    | loop st pend fn tm nt ps asg body df =>
      simp only [endLoop]
      cases stateOk st with
      | false => exact lcl_fail rfl
      | true => exact lcl_wr l _ (lcl_jumpOf pend)
    | cells _ _ _ => exact lcl_fail rfl
    | map _ _ _ => exact lcl_fail rfl
    | mapIter _ _ _ _ => exact lcl_fail rfl
    | defd => exact lcl_fail rfl
    | cnt _ => exact lcl_fail rfl

theorem lcl_iterIn (hs : LSelf self) (ps : Array Tmp) (asg body : Code) (gf : FuncId) (first cap : List V) (df : Nat) : Lcl (fun s => iterIn self ps asg body cx gf first cap df fr s) := by
  unfold iterIn
  refine lcl_new (F := fun n s => afterIter n fr (self (.call gf (first ++ (.yield n :: cap)) none) s)) (fun _ => .loop .ready none cx.fn fr.tm cx.nt ps.toList asg body df) (fun n => ?_)
  refine lcl_bindT (hs _) (fun v rc => ?_) (fun v rc => ?_) (fun _ _ => lcl_fail rfl) (fun _ => rfl) (fun _ => rfl)
  · cases rc with
    | true => exact lcl_fail rfl
    | false => exact (lcl_get (G := fun o s => endLoop n fr s o) n (lcl_endLoop n)).none
  · cases rc with
    | true => exact lcl_fail rfl
    | false => exact lcl_ok

theorem lcl_evRange (hs : LSelf self) (f : Operand) (ps : Array Tmp) (asg body : Code) : Lcl (fun s => evRange f ps asg body E self cx fr s) := by
  unfold evRange
  cases opd f fr <;> try exact lcl_fail rfl
  rename_i gf first cap
  simp only
  cases isNoneX (E.ext gf) with
  | false => exact lcl_fail rfl
  | true =>
    simp only [cond_true]
    cases cx.rd with
    | none => exact lcl_new (F := fun n s => iterIn self ps asg body cx gf first cap n ⟨fr.tm, .mark n :: fr.ds, fr.rc, fr.ng⟩ s) (fun _ => .defd) (fun n => lcl_iterIn hs ps asg body gf first cap n)
    | some r =>
      refine (lcl_get (G := fun o s => outerLoop self ps asg body cx gf first cap fr s r o) r (fun o => ?_)).none
      cases o with
      | none => exact lcl_fail rfl
      | some ob =>
        cases ob <;> try exact lcl_fail rfl
        exact lcl_rd r (lcl_iterIn hs ps asg body gf first cap _)

def LDraw (E : Env) (self : Self) : Prop := ∀ (cx : Cx) (fr : Fr) (ops : Array Oper), Lcl (fun s => evDraw E self cx ops.toList s.n s.lg ops.toList 0 [] fr s)

theorem lcl_asCode (hs : LSelf self) (t : Task) : Lcl (fun s => asCode (self t s)) :=
  lcl_bindT (hs t) (fun _ _ => lcl_fail rfl) (fun _ _ => lcl_fail rfl) (fun _ _ => lcl_ok) (fun _ => rfl) (fun _ => rfl)

theorem lcl_guard {F : S → R} {f : Nat → Bool} {z : R} (hz : Res.st z = none) (hF : Lcl F) : Lcl (fun s => bif f s.n then F s else z) := fun s t ht => by
  cases hf : f s.n with
  | false => simp only [hf, cond_false, hz] at ht; cases ht
  | true =>
    simp only [hf, cond_true] at ht
    obtain ⟨new, h1, h2, h3⟩ := hF s t ht
    refine ⟨new, h1, h2, fun D s' hS hD hN => ?_⟩
    obtain ⟨t', k1, k2, k3⟩ := h3 D s' hS hD hN
    refine ⟨t', ?_, k2, k3⟩
    simp only [hS.1, hf, cond_true]
    exact k1

theorem lcl_ev (hs : LSelf self) (hd : LDraw E self) : ∀ (c : Code) (fr : Fr), Lcl (fun s => ev c E self cx fr s)
  | .skip, fr => lcl_ok
  | .label _, fr => lcl_ok
  | .exit _, fr => lcl_ok
  | .goto _, fr => lcl_ok
  | .ret, fr => lcl_ok
  | .refuse _, fr => lcl_fail rfl
  | .region _ ops draw, fr => by
    simp only [ev, evRegion]
    cases draw with
    | true =>
      simp only [cond_true]
      refine lcl_guard (f := fun n => and (oidOk E.oid n) (opsOk ops.toList (beforeOf ops.toList) ops.toList 0)) rfl (hd cx fr ops)
    | false => exact lcl_evOps hs _ _ fr
  | .seq x y, fr =>
    lcl_bindR (f := fun r => match r with
      | .ok x fr s => (match x with
        | .normal => ev y E self cx fr s
        | x => R.ok x fr s)
      | .fail w => R.fail w) (lcl_ev hs hd x fr) (fun x fr => by cases x with
        | normal => exact lcl_ev hs hd y fr
        | exit _ => exact lcl_ok
        | goto _ => exact lcl_ok
        | ret => exact lcl_ok
        | panic _ => exact lcl_ok) (fun _ => rfl)
  | .cond c x y, fr => by
    simp only [ev, evCond]
    cases opd c fr <;> try exact lcl_fail rfl
    rename_i t
    cases t with
    | true => exact lcl_ev hs hd x fr
    | false => exact lcl_ev hs hd y fr
  | .block id c, fr =>
    lcl_bindR (f := fun r => match r with
      | .ok x fr s => (match x with
        | .exit i => bif Nat.beq i id then R.ok .normal fr s else R.ok (.exit i) fr s
        | x => R.ok x fr s)
      | .fail w => R.fail w) (lcl_ev hs hd c fr) (fun x fr => by cases x with
        | normal => exact lcl_ok
        | exit i => cases h : Nat.beq i id <;> simp only [h, cond_true, cond_false] <;> exact lcl_ok
        | goto _ => exact lcl_ok
        | ret => exact lcl_ok
        | panic _ => exact lcl_ok) (fun _ => rfl)
  | .loop c, fr => lcl_asCode hs _
  | .scope c, fr => lcl_asCode hs _
  | .rangeFunc f ps asg body, fr => lcl_evRange hs f ps asg body

theorem lcl_resultsOf {k : List V → S → TR} (hk : ∀ vs, Lcl (k vs)) : ∀ (rs : List ResultVar) (acc : List V), Lcl (fun s => resultsOf E fr rs s acc k)
  | [], acc => hk _
  | .tmp t :: l, acc => lcl_resultsOf hk l _
  | .cell a t :: l, acc => lcl_Q (fun _ => rfl) (fun r => by
      cases r with
      | val v => exact lcl_resultsOf hk l _
      | pan _ => exact lcl_fail rfl
      | defer _ => exact lcl_fail rfl
      | recover => exact lcl_fail rfl
      | call _ _ => exact lcl_fail rfl
      | round _ _ => exact lcl_fail rfl) _

theorem lcl_unwind (hs : LSelf self) (fi : FI) : ∀ (ds : List D) (p : Option V), Lcl (fun s => AM.unwind E self fi fr ds p s)
  | [], none => lcl_resultsOf (fun vs => lcl_ret) _ _
  | [], some v => lcl_pan
  | .mark d :: ds, p => by
    refine (lcl_get (G := fun o s => bif isDefd o then AM.unwind E self fi fr ds p (s.wr d none) else .fail "mark") d (fun o => ?_)).none
    cases isDefd o with
    | true => exact lcl_wr d none (lcl_unwind hs fi ds p)
    | false => exact lcl_fail rfl
  | .call f args :: ds, p => by
    simp only [AM.unwind]
    cases isNoneX (E.ext f) with
    | false => exact lcl_fail rfl
    | true => exact lcl_bindT (f := fun r => afterDefer p (AM.unwind E self fi fr ds) r) (hs _) (fun v rc => lcl_unwind hs fi ds _) (fun _ _ => lcl_fail rfl) (fun _ _ => lcl_fail rfl) (fun _ => rfl) (fun _ => rfl)

theorem lcl_callTask (hs : LSelf self) (hd : LDraw E self) (f : FuncId) (args : List V) (pk : Option V) : Lcl (fun s => callTask E self f args pk s) := by
  unfold callTask
  cases E.fn f with
  | none => exact lcl_fail rfl
  | some fi =>
    simp only
    cases Nat.ble args.length fi.nt with
    | false => exact lcl_fail rfl
    | true =>
      exact lcl_bindR (f := afterBody E self fi) (lcl_ev hs hd fi.body _) (fun x fr => by cases x with
        | normal => exact lcl_unwind hs fi _ _
        | ret => exact lcl_unwind hs fi _ _
        | panic v => exact lcl_unwind hs fi _ _
        | exit _ => exact lcl_fail rfl
        | goto _ => exact lcl_fail rfl) (fun _ => rfl)

theorem lcl_endRound (l : Nat) (x : X) : ∀ o, LclW (some l) (fun s => AM.endRound E cx l x s o) := by
  intro o
  cases o with
  | none => exact lcl_fail rfl
  | some ob =>
    cases ob <;> try exact lcl_fail rfl
    cases x with
    | normal => exact lcl_wr l _ lcl_ret
    | ret => exact lcl_wr l _ lcl_ret
    | exit _ => exact lcl_wr l _ lcl_ret
    | goto _ => exact lcl_wr l _ lcl_ret
    | panic v =>
      simp only [AM.endRound]
      cases E.fn cx.fn with
      | none => exact lcl_fail rfl
      | some _ => exact lcl_rd l lcl_pan

theorem lcl_afterRound {F : S → R} (hF : Lcl F) (l : Nat) : Lcl (fun s => afterRound E cx l (F s)) :=
  lcl_bindR hF (fun x fr => by
    simp only [afterRound]
    cases noDs fr with
    | false => exact lcl_fail rfl
    | true => exact (lcl_get (G := fun o s => AM.endRound E cx l x s o) l (lcl_endRound l x)).none) (fun _ => rfl)

theorem lcl_roundIn (hs : LSelf self) (hd : LDraw E self) (l : Nat) (args : List V) : ∀ o, LclW (some l) (fun s => roundIn E self l args s o) := by
  intro o
  cases o with
  | none => exact lcl_fail rfl
  | some ob =>
    cases ob <;> try exact lcl_fail rfl
    rename_i st pend fn tm nt ps asg body df
    simp only [roundIn]
    cases Nat.beq args.length ps.length with
    | false => exact lcl_fail rfl
    | true =>
      refine lcl_rd (F := fun s => afterAssign E self ⟨fn, nt, some l, none⟩ l body (ev asg E self ⟨fn, nt, some l, none⟩ ⟨paramTm nt ps args tm, [], false, E.ng⟩ s)) l ?_
      refine lcl_bindR (lcl_ev hs hd asg _) (fun x fr => ?_) (fun _ => rfl)
      cases x <;> try exact lcl_fail rfl
      refine (lcl_get (G := fun o s => AM.beginRound E self ⟨fn, nt, some l, none⟩ l body fr s o) l (fun o => ?_)).none
      cases o with
      | none => exact lcl_fail rfl
      | some ob =>
        cases ob <;> try exact lcl_fail rfl
        rename_i st pend fn tm nt ps asg body df
        cases st <;> try exact lcl_fail rfl
        exact lcl_wr (F := fun s => afterRound E _ l (ev _ E self _ fr s)) l _ (lcl_afterRound (lcl_ev hs hd _ fr) l)

theorem lcl_task (hs : LSelf self) (hd : LDraw E self) : LSelf (fun t s => task t E self s)
  | .call f args pk => lcl_callTask hs hd f args pk
  | .round l args => (lcl_get (G := fun o s => roundIn E self l args s o) l (lcl_roundIn hs hd l args)).none
  | .loop cx body fr => lcl_bindR (f := afterLoop self cx body) (lcl_ev hs hd body fr) (fun x fr => by cases x with
      | normal => exact hs _
      | exit _ => exact lcl_code
      | goto _ => exact lcl_code
      | ret => exact lcl_code
      | panic _ => exact lcl_code) (fun _ => rfl)
  | .scope cx code body fr => lcl_bindR (f := afterScope self cx body) (lcl_ev hs hd code fr) (fun x fr => by cases x with
      | normal => exact lcl_code
      | exit _ => exact lcl_code
      | goto l =>
        simp only [afterScope]
        cases findLabel body l with
        | none => exact lcl_code
        | some rest => exact hs _
      | ret => exact lcl_code
      | panic _ => exact lcl_code) (fun _ => rfl)

end
end Go.AM

namespace Go.AM
open Go
set_option linter.unusedVariables false
set_option linter.unusedSimpArgs false

theorem oldOf_append (n : Nat) : ∀ a b : List (Nat × Bool), oldOf n (a ++ b) = oldOf n a ++ oldOf n b
  | [], b => rfl
  | (id, w) :: a, b => by
    simp only [List.cons_append, oldOf, oldOf_append n a b]
    cases Nat.ble n id <;> rfl

theorem mem_oldOf {n : Nat} {p : Nat × Bool} : ∀ {l : List (Nat × Bool)}, p ∈ oldOf n l ↔ p ∈ l ∧ p.1 < n
  | [] => by simp [oldOf]
  | (id, w) :: l => by
    simp only [oldOf]
    cases h : Nat.ble n id with
    | true =>
      have := Nat.le_of_ble_eq_true h
      simp only [cond_true, mem_oldOf (l := l), List.mem_cons]
      constructor
      · rintro ⟨h1, h2⟩; exact ⟨.inr h1, h2⟩
      · rintro ⟨rfl | h1, h2⟩
        · simp only at h2; omega
        · exact ⟨h1, h2⟩
    | false =>
      have : id < n := by
        rcases Nat.lt_or_ge id n with h' | h'
        · exact h'
        · rw [Nat.ble_eq_true_of_le h'] at h; cases h
      simp only [cond_false, List.mem_cons, mem_oldOf (l := l)]
      constructor
      · rintro (rfl | ⟨h1, h2⟩)
        · exact ⟨.inl rfl, this⟩
        · exact ⟨.inr h1, h2⟩
      · rintro ⟨rfl | h1, h2⟩
        · exact .inl rfl
        · exact .inr ⟨h1, h2⟩

theorem aliveOk_spec {h : Tr Ob} {lo : Nat} : ∀ {l : List (Nat × Bool)}, aliveOk h lo l = true ↔ ∀ p ∈ l, p.1 < lo → h.get p.1 ≠ none
  | [] => by simp [aliveOk]
  | (id, w) :: l => by
    simp only [aliveOk]
    cases hb : Nat.ble lo id with
    | true =>
      have := Nat.le_of_ble_eq_true hb
      simp only [cond_true, aliveOk_spec (l := l), List.mem_cons]
      constructor
      · rintro h p (rfl | hp) hlt
        · simp only at hlt; omega
        · exact h p hp hlt
      · exact fun h p hp => h p (.inr hp)
    | false =>
      have hlt : id < lo := by
        rcases Nat.lt_or_ge id lo with h' | h'
        · exact h'
        · rw [Nat.ble_eq_true_of_le h'] at hb; cases hb
      simp only [cond_false]
      cases hg : h.get id with
      | none =>
        simp only [Bool.false_eq_true, List.mem_cons, false_iff]
        intro h'
        exact h' (id, w) (.inl rfl) hlt hg
      | some o =>
        simp only [aliveOk_spec (l := l), List.mem_cons]
        constructor
        · rintro h p (rfl | hp) hlt'
          · simp [hg]
          · exact h p hp hlt'
        · exact fun h p hp => h p (.inr hp)

theorem logs_acc : ∀ (segs : List Seg) (acc : List (Nat × Bool)), logs segs acc = logs segs [] ++ acc
  | [], acc => rfl
  | b :: l, acc => by simp only [logs]; rw [logs_acc l acc, List.append_assoc]

theorem logs_cons (i lo hi : Nat) (lg : List (Nat × Bool)) (ins : Option Nat) (le : Option (Bool × Nat × Nat × V)) (segs : List Seg) : logs (consSeg i lo hi lg ins le segs) [] = lg ++ logs segs [] := by
  cases lg with
  | nil => simp only [consSeg]; cases Nat.beq lo hi <;> rfl
  | cons e l => rfl

section
variable {E : Env} {self : Self} {cx : Cx}

structure Stp0 (n0 : Nat) (s t : S) (new lg0 : List (Nat × Bool)) : Prop where
  lg : t.lg = new ++ lg0
  n : s.n ≤ t.n
  same : ∀ id, id < n0 → (∀ p ∈ new, p.1 = id → p.2 = false) → t.h.get id = s.h.get id

theorem lcl_evDrawAux (hs : LSelf self) (ops : List Oper) (n0 : Nat) (lg0 : List (Nat × Bool)) : ∀ (l : List Oper) (i : Nat) (segs : List Seg) (fr : Fr) (s t : S), n0 ≤ s.n →
    Res.st (evDraw E self cx ops n0 lg0 l i segs fr s) = some t → ∃ new, (∀ p ∈ oldOf n0 (logs segs []), p ∈ new) ∧ Stp0 n0 s t new lg0 ∧
      ∀ (D : Nat → Prop) (s' : S) (lg0' : List (Nat × Bool)), Sim D s s' → (∀ p ∈ new, D p.1) → (∀ id, n0 ≤ id → D id) →
        ∃ t', evDraw E self cx ops n0 lg0' l i segs fr s' = Res.put (evDraw E self cx ops n0 lg0 l i segs fr s) t' ∧ Sim D t t' ∧ Stp0 n0 s' t' new lg0'
  | [], i, segs, fr, s, t, hn, ht => by
    simp only [evDraw] at ht ⊢
    cases hseg : segsOk (beforeOf ops) segs with
    | false => rw [hseg] at ht; simp [Res.st] at ht
    | true =>
      rw [hseg] at ht
      simp only [cond_true, Res.st, Option.some.injEq] at ht ⊢
      subst ht
      refine ⟨oldOf n0 (logs segs []), fun p hp => hp, ⟨rfl, Nat.le_refl _, fun _ _ _ => rfl⟩, fun D s' lg0' hS hD hN => ⟨⟨s'.h, s'.n, oldOf n0 (logs segs []) ++ lg0'⟩, rfl, ⟨hS.1, hS.2⟩, ⟨rfl, Nat.le_refl _, fun _ _ _ => rfl⟩⟩⟩
  | o :: l, i, segs, fr, s, t, hn, ht => by
    simp only [evDraw] at ht ⊢
    have h1 := lcl_exec1 (E := E) (cx := drawCx cx) (fr := fr) hs ops o ⟨s.h, s.n, []⟩
    cases he : exec1 E self (drawCx cx) ops o fr ⟨s.h, s.n, []⟩ with
    | fail w => rw [he] at ht; simp [Res.st] at ht
    | go fr1 s1 =>
      rw [he] at ht
      simp only at ht ⊢
      cases hal : aliveOk s.h s.n s1.lg with
      | false => rw [hal] at ht; simp [Res.st] at ht
      | true =>
      rw [hal] at ht
      simp only [cond_true] at ht ⊢
      obtain ⟨new1, _, k2, k3⟩ := h1 s1 (by rw [he]; rfl)
      have hlg1 : s1.lg = new1 := by rw [k2.lg]; simp
      have hn1 : s.n ≤ s1.n := k2.n
      obtain ⟨new, g1, g2, g3⟩ := lcl_evDrawAux hs ops n0 lg0 l (Nat.succ i) (consSeg i s.n s1.n s1.lg (insOf o s1.lg) (leOf o fr s1.lg) segs) fr1 s1 t (Nat.le_trans hn hn1) ht
      rw [logs_cons, oldOf_append] at g1
      have hin : ∀ p ∈ new1, p.1 < n0 → p ∈ new := fun p hp hlt => g1 p (List.mem_append_left _ (mem_oldOf.2 ⟨hlg1 ▸ hp, hlt⟩))
      have comp : ∀ {s s1 t : S} {lg0 : List (Nat × Bool)}, n0 ≤ s.n → Stp ⟨s.h, s.n, []⟩ s1 new1 → Stp0 n0 s1 t new lg0 → Stp0 n0 s t new lg0 := fun hn a b =>
        ⟨b.lg, Nat.le_trans a.n b.n, fun id hid hw => (b.same id hid hw).trans (a.same id (Nat.lt_of_lt_of_le hid hn) (fun p hp e => hw p (hin p hp (e ▸ hid)) e))⟩
      refine ⟨new, fun p hp => g1 p (List.mem_append_right _ hp), comp hn k2 g2, fun D s' lg0' hS hD hN => ?_⟩
      obtain ⟨t1, m1, m2, m3⟩ := k3 D ⟨s'.h, s'.n, []⟩ ⟨hS.1, hS.2⟩ (fun p hp => by
        rcases Nat.lt_or_ge p.1 n0 with h | h
        · exact hD p (hin p hp h)
        · exact hN _ h) (fun id hid => hN id (Nat.le_trans hn hid))
      rw [he] at m1
      have m1' : exec1 E self (drawCx cx) ops o fr ⟨s'.h, s'.n, []⟩ = .go fr1 t1 := m1
      obtain ⟨t', q1, q2, q3⟩ := g3 D t1 lg0' m2 hD hN
      have hlg : t1.lg = s1.lg := by rw [m3.lg, hlg1]; simp
      refine ⟨t', ?_, q2, comp (by rw [hS.1]; exact hn) m3 q3⟩
      rw [m1']
      have hal' : aliveOk s'.h s.n s1.lg = true := by
        rw [aliveOk_spec] at hal ⊢
        intro p hp hlt
        rw [hS.2 p.1]
        · exact hal p hp hlt
        · rcases Nat.lt_or_ge p.1 n0 with h | h
          · exact hD p (hin p (hlg1 ▸ hp) h)
          · exact hN _ h
      simp only [hlg, hS.1, m2.1, hal', cond_true]
      exact q1
    | pan v s1 =>
      rw [he] at ht
      simp only at ht ⊢
      cases hc : and (fixedAt (beforeOf ops) i ops.length) (segsOk (beforeOf ops) segs) with
      | false => rw [hc] at ht; simp [Res.st] at ht
      | true =>
        rw [hc] at ht
        simp only [cond_true, Res.st, Option.some.injEq] at ht ⊢
        obtain ⟨new1, _, k2, k3⟩ := h1 s1 (by rw [he]; rfl)
        have hlg1 : s1.lg = new1 := by rw [k2.lg]; simp
        have hn1 : s.n ≤ s1.n := k2.n
        subst ht
        have hin : ∀ p ∈ new1, p.1 < n0 → p ∈ oldOf n0 (s1.lg ++ logs segs []) := fun p hp hlt => mem_oldOf.2 ⟨List.mem_append_left _ (hlg1 ▸ hp), hlt⟩
        refine ⟨oldOf n0 (s1.lg ++ logs segs []), fun p hp => ?_, ⟨rfl, hn1, fun id hid hw => k2.same id (Nat.lt_of_lt_of_le hid hn) (fun p hp e => hw p (hin p hp (e ▸ hid)) e)⟩, fun D s' lg0' hS hD hN => ?_⟩
        · rw [oldOf_append]; exact List.mem_append_right _ hp
        · obtain ⟨t1, m1, m2, m3⟩ := k3 D ⟨s'.h, s'.n, []⟩ ⟨hS.1, hS.2⟩ (fun p hp => by
            rcases Nat.lt_or_ge p.1 n0 with h | h
            · exact hD p (hin p hp h)
            · exact hN _ h) (fun id hid => hN id (Nat.le_trans hn hid))
          rw [he] at m1
          have m1' : exec1 E self (drawCx cx) ops o fr ⟨s'.h, s'.n, []⟩ = .pan v t1 := m1
          have hlg : t1.lg = s1.lg := by rw [m3.lg, hlg1]; simp
          refine ⟨⟨t1.h, t1.n, oldOf n0 (s1.lg ++ logs segs []) ++ lg0'⟩, ?_, ⟨m2.1, m2.2⟩, ⟨rfl, m3.n, fun id hid hw => m3.same id (Nat.lt_of_lt_of_le hid (by show n0 ≤ s'.n; rw [hS.1]; exact hn)) (fun p hp e => hw p (hin p hp (e ▸ hid)) e)⟩⟩
          rw [m1']
          simp only [hlg]
          rfl

theorem lcl_draw (hs : LSelf self) : LDraw E self := fun cx fr ops s t ht => by
  obtain ⟨new, h1, h2, h3⟩ := lcl_evDrawAux hs ops.toList s.n s.lg ops.toList 0 [] fr s t (Nat.le_refl _) ht
  refine ⟨new, fun i hi => by simp at hi, ⟨h2.lg, h2.n, h2.same⟩, fun D s' hS hD hN => ?_⟩
  obtain ⟨t', m1, m2, m3⟩ := h3 D s' s'.lg hS hD hN
  refine ⟨t', ?_, m2, ⟨m3.lg, m3.n, fun id hid => m3.same id (hS.1 ▸ hid)⟩⟩
  simp only [hS.1]; exact m1

theorem lcl_run : ∀ n, LSelf (run E n)
  | 0 => fun _ => lcl_fail rfl
  | n + 1 => lcl_task (lcl_run n) (lcl_draw (lcl_run n))

end
end Go.AM

namespace Go.AM
open Go
set_option linter.unusedVariables false
set_option linter.unusedSimpArgs false

/-! ## a tree out of a function -/
def trOf {α : Type} : Nat → (Nat → Option α) → Tr α
  | 0, _ => .leaf
  | n + 1, f => (trOf n f).put n (f n)

theorem get_trOf {α : Type} (f : Nat → Option α) : ∀ (n i : Nat), (trOf n f).get i = if i < n then f i else none
  | 0, i => by simp [trOf, Tr.get]
  | n + 1, i => by
    simp only [trOf, Tr.get_put, get_trOf f n i]
    by_cases h : i = n
    · subst h; simp
    · rw [if_neg h]
      by_cases h' : i < n
      · rw [if_pos h', if_pos (by omega)]
      · rw [if_neg h', if_neg (by omega)]

/-! ## maps that lay things alike -/
def Loc.core (l l' : Loc) : Prop := l'.blk = l.blk ∧ l'.base = l.base ∧ l'.ccap = l.ccap ∧ l'.esz = l.esz

theorem Loc.core.refl (l : Loc) : l.core l := ⟨rfl, rfl, rfl, rfl⟩
theorem Loc.core.conc {l l' : Loc} (h : l.core l') (k : Cap) : k.conc l' = k.conc l := by
  cases k with
  | exact c => rfl
  | opn n => simp only [Cap.conc]; rw [h.2.2.1]

mutual
/-- all numbers in a value meet a condition -/
def Nums (p : Nat → Prop) : V → Prop
  | .ptr (some a) => p a.1
  | .slice (some a) _ _ => p a.1
  | .map (some r) => p r
  | .func _ a b => NumsL p a ∧ NumsL p b
  | .yield r => p r
  | .iface _ v => Nums p v
  | .agg vs => NumsL p vs
  | .tuple vs => NumsL p vs
  | _ => True
def NumsL (p : Nat → Prop) : List V → Prop
  | [] => True
  | v :: vs => Nums p v ∧ NumsL p vs
end

mutual
theorem VR.nums {φ : Map} {p : Nat → Prop} (h : ∀ id l, φ id = some l → p id) : ∀ (v : V) (c : Value), VR φ v c → Nums p v
  | .bool _, _, _ => trivial
  | .int _ _, _, _ => trivial
  | .str _, _, _ => trivial
  | .ptr none, _, _ => trivial
  | .ptr (some _), _, ⟨l, hl, _⟩ => h _ _ hl
  | .slice none _ _, _, _ => trivial
  | .slice (some _) _ _, _, ⟨l, hl, _⟩ => h _ _ hl
  | .esl, _, _ => trivial
  | .map none, _, _ => trivial
  | .map (some _), _, ⟨l, hl, _⟩ => h _ _ hl
  | .func _ a b, _, ⟨_, _, _, ha, hb⟩ => ⟨VRL.nums h a _ ha, VRL.nums h b _ hb⟩
  | .yield _, _, ⟨l, hl, _⟩ => h _ _ hl
  | .nilFunc, _, _ => trivial
  | .iface _ v, _, ⟨_, _, r⟩ => VR.nums h v _ r
  | .nilIface, _, _ => trivial
  | .agg vs, _, ⟨_, _, r⟩ => VRL.nums h vs _ r
  | .tuple vs, _, ⟨_, _, r⟩ => VRL.nums h vs _ r
  | .bad, _, _ => trivial
theorem VRL.nums {φ : Map} {p : Nat → Prop} (h : ∀ id l, φ id = some l → p id) : ∀ (vs : List V) (cs : List Value), VRL φ vs cs → NumsL p vs
  | [], _, _ => trivial
  | v :: vs, _, ⟨_, _, _, r, rs⟩ => ⟨VR.nums h v _ r, VRL.nums h vs _ rs⟩
end

/-- where a condition holds, both maps lay alike -/
def CoreOn (p : Nat → Prop) (φ ψ : Map) : Prop := ∀ id l, p id → φ id = some l → ∃ l', ψ id = some l' ∧ l.core l'

mutual
theorem VR.on {φ ψ : Map} {p : Nat → Prop} (h : CoreOn p φ ψ) : ∀ (v : V) (c : Value), Nums p v → VR φ v c → VR ψ v c
  | .bool _, _, _, r => r
  | .int _ _, _, _, r => r
  | .str _, _, _, r => r
  | .ptr none, _, _, r => r
  | .ptr (some _), _, hp, ⟨l, hl, e⟩ => let ⟨l', h1, h2⟩ := h _ _ hp hl; ⟨l', h1, by rw [h2.1, h2.2.1]; exact e⟩
  | .slice none _ _, _, _, r => r
  | .slice (some _) _ k, _, hp, ⟨l, hl, e⟩ => let ⟨l', h1, h2⟩ := h _ _ hp hl; ⟨l', h1, by rw [h2.1, h2.2.1, h2.conc]; exact e⟩
  | .esl, _, _, r => r
  | .map none, _, _, r => r
  | .map (some _), _, hp, ⟨l, hl, e⟩ => let ⟨l', h1, h2⟩ := h _ _ hp hl; ⟨l', h1, by rw [h2.1]; exact e⟩
  | .func _ a b, _, hp, ⟨a', b', e, ha, hb⟩ => ⟨a', b', e, VRL.on h a _ hp.1 ha, VRL.on h b _ hp.2 hb⟩
  | .yield _, _, hp, ⟨l, hl, e⟩ => let ⟨l', h1, h2⟩ := h _ _ hp hl; ⟨l', h1, by rw [h2.1]; exact e⟩
  | .nilFunc, _, _, r => r
  | .iface _ v, _, hp, ⟨c', e, r⟩ => ⟨c', e, VR.on h v _ hp r⟩
  | .nilIface, _, _, r => r
  | .agg vs, _, hp, ⟨a, e, r⟩ => ⟨a, e, VRL.on h vs _ hp r⟩
  | .tuple vs, _, hp, ⟨a, e, r⟩ => ⟨a, e, VRL.on h vs _ hp r⟩
  | .bad, _, _, r => r
theorem VRL.on {φ ψ : Map} {p : Nat → Prop} (h : CoreOn p φ ψ) : ∀ (vs : List V) (cs : List Value), NumsL p vs → VRL φ vs cs → VRL ψ vs cs
  | [], _, _, r => r
  | v :: vs, _, hp, ⟨c, cs, e, r, rs⟩ => ⟨c, cs, e, VR.on h v c hp.1 r, VRL.on h vs cs hp.2 rs⟩
end

/-! objects -/
def NumsE (p : Nat → Prop) : List (V × V × Nat) → Prop
  | [] => True
  | e :: es => Nums p e.1 ∧ Nums p e.2.1 ∧ NumsE p es

def NumsO (p : Nat → Prop) : Ob → Prop
  | .cells cs _ _ => ∀ (j : Nat) (c : V), cs[j]? = some c → Nums p c
  | .map es _ _ => NumsE p es
  | .mapIter (some m) _ _ _ => p m
  | .mapIter none _ _ _ => True
  | .loop _ _ _ tm _ _ _ _ df => p df ∧ ∀ i, Nums p (tmV tm i)
  | .defd => True
  | .cnt _ => True

theorem EntsR.nums {φ : Map} {p : Nat → Prop} (h : ∀ id l, φ id = some l → p id) : ∀ {es : List (V × V × Nat)} {cs : List MapEntry}, EntsR φ es cs → NumsE p es
  | [], _, _ => trivial
  | _ :: _, _, ⟨_, _, _, ⟨r1, r2⟩, rs⟩ => ⟨VR.nums h _ _ r1, VR.nums h _ _ r2, EntsR.nums h rs⟩

theorem EntsR.on {φ ψ : Map} {p : Nat → Prop} (h : CoreOn p φ ψ) : ∀ {es : List (V × V × Nat)} {cs : List MapEntry}, NumsE p es → EntsR φ es cs → EntsR ψ es cs
  | [], _, _, r => r
  | _ :: _, _, hp, ⟨c, cs, e, ⟨r1, r2⟩, rs⟩ => ⟨c, cs, e, ⟨VR.on h _ _ hp.1 r1, VR.on h _ _ hp.2.1 r2⟩, EntsR.on h hp.2.2 rs⟩

theorem ObB.nums {φ : Map} {p : Nat → Prop} (h : ∀ id l, φ id = some l → p id) {l : Loc} : ∀ {o : Ob} {ob : Option Obj}, ObB φ l o ob → NumsO p o
  | .cells _ _ _, _, ⟨arr, elem, fz, e, hc, _⟩ => fun j c hj => let ⟨x, _, hx⟩ := hc j c hj; VR.nums h _ _ hx
  | .map _ _ true, _, ⟨r, cs, e, he, hb⟩ => he.nums h
  | .map _ _ false, _, ⟨r, cs, ds, k, e, he, hp, hn⟩ => he.nums h
  | .mapIter none _ _ _, _, _ => trivial
  | .mapIter (some _) _ _ _, _, ⟨r, r', m', e, lm, hm, e'⟩ => h _ _ hm
  | .loop .., _, ⟨r, tms, ld, e, hd, ht⟩ => ⟨h _ _ hd, fun i => VR.nums h _ _ (ht.2 i)⟩
  | .defd, _, _ => trivial
  | .cnt _, _, _ => trivial

theorem ObB.on {φ ψ : Map} {p : Nat → Prop} (h : CoreOn p φ ψ) {l : Loc} : ∀ {o : Ob} {ob : Option Obj}, NumsO p o → ObB φ l o ob → ObB ψ l o ob
  | .cells _ _ _, _, hp, ⟨arr, elem, fz, e, hc, ho, hr⟩ => ⟨arr, elem, fz, e, fun j c hj => (hc j c hj).imp fun _ hx => ⟨hx.1, VR.on h _ _ (hp j c hj) hx.2⟩, ho, hr⟩
  | .map _ _ true, _, hp, ⟨r, cs, e, he, hb⟩ => ⟨r, cs, e, he.on h hp, hb⟩
  | .map _ _ false, _, hp, ⟨r, cs, ds, k, e, he, hq, hn⟩ => ⟨r, cs, ds, k, e, he.on h hp, hq, hn⟩
  | .mapIter none _ _ _, _, _, ⟨r, r', m', e, hm⟩ => ⟨r, r', m', e, hm⟩
  | .mapIter (some _) _ _ _, _, hp, ⟨r, r', m', e, lm, hm, e'⟩ => let ⟨l', h1, h2⟩ := h _ _ hp hm; ⟨r, r', m', e, l', h1, by rw [h2.1]; exact e'⟩
  | .loop .., _, hp, ⟨r, tms, ld, e, hd, ht⟩ => let ⟨l', h1, h2⟩ := h _ _ hp.1 hd; ⟨r, tms, l', by rw [h2.1]; exact e, h1, ht.1, fun i => VR.on h _ _ (hp.2 i) (ht.2 i)⟩
  | .defd, _, _, r => r
  | .cnt _, _, _, r => r

/-! contexts -/
abbrev Core (φ ψ : Map) : Prop := CoreOn (fun _ => True) φ ψ

mutual
theorem Nums.all {p : Nat → Prop} (h : ∀ i, p i) : ∀ v : V, Nums p v
  | .bool _ => trivial
  | .int _ _ => trivial
  | .str _ => trivial
  | .ptr none => trivial
  | .ptr (some _) => h _
  | .slice none _ _ => trivial
  | .slice (some _) _ _ => h _
  | .esl => trivial
  | .map none => trivial
  | .map (some _) => h _
  | .func _ a b => ⟨NumsL.all h a, NumsL.all h b⟩
  | .yield _ => h _
  | .nilFunc => trivial
  | .iface _ v => Nums.all h v
  | .nilIface => trivial
  | .agg vs => NumsL.all h vs
  | .tuple vs => NumsL.all h vs
  | .bad => trivial
theorem NumsL.all {p : Nat → Prop} (h : ∀ i, p i) : ∀ vs : List V, NumsL p vs
  | [] => trivial
  | v :: vs => ⟨Nums.all h v, NumsL.all h vs⟩
end

theorem NumsE.all {p : Nat → Prop} (h : ∀ i, p i) : ∀ es, NumsE p es
  | [] => trivial
  | e :: es => ⟨Nums.all h _, Nums.all h _, NumsE.all h es⟩

theorem NumsO.all {p : Nat → Prop} (h : ∀ i, p i) : ∀ o, NumsO p o
  | .cells _ _ _ => fun _ _ _ => Nums.all h _
  | .map _ _ _ => NumsE.all h _
  | .mapIter (some _) _ _ _ => h _
  | .mapIter none _ _ _ => trivial
  | .loop .. => ⟨h _, fun _ => Nums.all h _⟩
  | .defd => trivial
  | .cnt _ => trivial

theorem VR.core {φ ψ : Map} (h : Core φ ψ) {v : V} {c : Value} (r : VR φ v c) : VR ψ v c := VR.on h v c (Nums.all (fun _ => trivial) v) r
theorem VRL.core {φ ψ : Map} (h : Core φ ψ) {v : List V} {c : List Value} (r : VRL φ v c) : VRL ψ v c := VRL.on h v c (NumsL.all (fun _ => trivial) v) r
theorem ObB.core {φ ψ : Map} (h : Core φ ψ) {l : Loc} {o : Ob} {ob : Option Obj} (r : ObB φ l o ob) : ObB ψ l o ob := ObB.on h (NumsO.all (fun _ => trivial) o) r

theorem DR.core {φ ψ : Map} (h : Core φ ψ) : ∀ {d : D} {e : Deferred}, DR φ d e → DR ψ d e
  | .call _ _, _, ⟨cap, as, e, r⟩ => ⟨cap, as, e, r.core h⟩
  | .mark _, _, ⟨l, hl, e⟩ => let ⟨l', h1, h2⟩ := h _ _ trivial hl; ⟨l', h1, by rw [h2.1]; exact e⟩

theorem DsR.core {φ ψ : Map} (h : Core φ ψ) : ∀ {ds : List D} {es : List Deferred}, DsR φ ds es → DsR ψ ds es
  | [], _, r => r
  | _ :: _, _, ⟨e, es, he, r, rs⟩ => ⟨e, es, he, r.core h, DsR.core h rs⟩

theorem GlobOk.core {n : Nat} {φ ψ : Map} (h : Core φ ψ) (r : GlobOk n φ) : GlobOk n ψ := fun g hg =>
  let ⟨l, a, b, c⟩ := r g hg
  let ⟨l', h1, h2⟩ := h _ _ trivial a
  ⟨l', h1, h2.1.trans b, h2.2.1.trans c⟩

theorem optBlk.core {φ ψ : Map} (h : Core φ ψ) : ∀ {r c : Option Nat}, optBlk φ r c → optBlk ψ r c
  | none, _, e => e
  | some _, _, ⟨l, hl, e⟩ => let ⟨l', h1, h2⟩ := h _ _ trivial hl; ⟨l', h1, by rw [h2.1]; exact e⟩

theorem PkR.core {φ ψ : Map} (h : Core φ ψ) {kind : CallKind} {cs : List Frame} : ∀ {pk : Option V}, PkR φ pk kind cs → PkR ψ pk kind cs
  | none, r => r
  | some _, ⟨hk, caller, rest, c, e, hm, r⟩ => ⟨hk, caller, rest, c, e, hm, r.core h⟩

theorem CtxOk.core {φ ψ : Map} (h : Core φ ψ) {cx : Cx} {b : Frame} {cs : List Frame} (r : CtxOk φ cx b cs) : CtxOk ψ cx b cs :=
  ⟨r.fn, r.rd.core h, r.pk.core h, r.kind⟩

/-! a value that stands for what is not looked at -/
mutual
def absV : Value → V
  | .agg cs => .agg (absVA cs)
  | .tuple cs => .tuple (absVA cs)
  | _ => .bad
def absVA : Array Value → List V
  | ⟨l⟩ => absVL l
def absVL : List Value → List V
  | [] => []
  | v :: l => absV v :: absVL l
end

mutual
theorem VR_absV (φ : Map) : ∀ c : Value, VR φ (absV c) c
  | .agg cs => ⟨cs, rfl, VR_absVA φ cs⟩
  | .tuple cs => ⟨cs, rfl, VR_absVA φ cs⟩
  | .bool _ => rfl
  | .int _ _ => rfl
  | .float _ _ => rfl
  | .complex _ _ _ => rfl
  | .string _ => rfl
  | .pointer _ => rfl
  | .slice _ _ _ => rfl
  | .map _ => rfl
  | .chan _ => rfl
  | .func _ _ _ => rfl
  | .nilFunc => rfl
  | .iface _ _ => rfl
  | .nilIface => rfl
theorem VR_absVA (φ : Map) : ∀ cs : Array Value, VRL φ (absVA cs) cs.toList
  | ⟨l⟩ => VR_absVL φ l
theorem VR_absVL (φ : Map) : ∀ cs : List Value, VRL φ (absVL cs) cs
  | [] => rfl
  | c :: cs => ⟨c, cs, rfl, VR_absV φ c, VR_absVL φ cs⟩
end
end Go.AM

namespace Go.AM
open Go
set_option linter.unusedVariables false
set_option linter.unusedSimpArgs false

/-! ## which orders may be drawn -/
theorem below_spec {j : Nat} : ∀ {l : List Nat}, below j l = true → ∀ i ∈ l, i < j
  | [], _ => by simp
  | i :: l, h => by
    simp only [below] at h
    cases hb : Nat.ble (Nat.succ i) j with
    | false => rw [hb] at h; simp at h
    | true =>
      rw [hb] at h
      intro k hk
      rcases List.mem_cons.1 hk with rfl | hk
      · exact Nat.le_of_ble_eq_true hb
      · exact below_spec h k hk

/-- operations whose edges all point backwards -/
def Downward (ops : List Oper) : Prop := ∀ (j : Nat) (o : Oper), ops[j]? = some o → ∀ i ∈ edgesOf o, i < j

theorem opsOk_spec {ops : List Oper} {bf : List Nat} : ∀ {l : List Oper} {i : Nat}, opsOk ops bf l i = true → ∀ (j : Nat) (o : Oper), l[j]? = some o →
    plainOp o.op = true ∧ below (i + j) (edgesOf o) = true ∧ tempsAt ops bf (i + j) o ops 0 = true
  | [], _, _, j, o, ho => by simp at ho
  | o' :: l, i, h, j, o, ho => by
    simp only [opsOk] at h
    cases hb : and (plainOp o'.op) (and (below i (edgesOf o')) (tempsAt ops bf i o' ops 0)) with
    | false => rw [hb] at h; simp at h
    | true =>
      rw [hb] at h
      simp only [cond_true] at h
      cases j with
      | zero =>
        simp only [List.getElem?_cons_zero, Option.some.injEq] at ho
        subst ho
        simpa [and_assoc] using hb
      | succ j =>
        simp only [List.getElem?_cons_succ] at ho
        have := opsOk_spec h j o ho
        have e : Nat.succ i + j = i + (j + 1) := by omega
        rw [e] at this; exact this

theorem binds_iff (e : Edge) : Region.binds .any e = bindsAny e := by
  unfold Region.binds bindsAny
  cases e.ground <;> rfl

/-- what may come: each once, behind what it waits for -/
inductive Sched (ops : List Oper) : (Nat → Prop) → List Nat → Prop where
  | done {X : Nat → Prop} (h : ∀ i, i < ops.length → X i) : Sched ops X []
  | next {X : Nat → Prop} {j : Nat} {o : Oper} {l : List Nat} (ho : ops[j]? = some o) (hj : ¬ X j) (he : ∀ i ∈ edgesOf o, X i) (h : Sched ops (fun i => X i ∨ i = j) l) : Sched ops X (j :: l)

def todo (n : Nat) (listed : Array Bool) : Nat := ((List.range n).filter fun i => !listed.getD i true).length

theorem filter_lt {p q : Nat → Bool} {j : Nat} : ∀ {l : List Nat}, j ∈ l → p j = true → q j = false → (∀ i, q i = true → p i = true) → (l.filter q).length < (l.filter p).length
  | [], h, _, _, _ => by simp at h
  | a :: l, h, hp, hq, hi => by
    have hle : (l.filter q).length ≤ (l.filter p).length := by
      have : ∀ l : List Nat, (l.filter q).length ≤ (l.filter p).length := by
        intro l
        induction l with
        | nil => simp
        | cons b l ih =>
          simp only [List.filter_cons]
          cases hqb : q b with
          | true => simp [hi b hqb]; omega
          | false => cases p b <;> simp <;> omega
      exact this l
    simp only [List.filter_cons]
    rcases List.mem_cons.1 h with rfl | h
    · simp [hp, hq]; omega
    · have := filter_lt h hp hq hi
      cases hqa : q a with
      | true => simp [hi a hqa]; omega
      | false => cases p a <;> simp <;> omega

theorem sched_go (ops : Array Oper) (hd : Downward ops.toList) : ∀ (fuel t : Nat) (listed : Array Bool) (acc : List Nat), listed.size = ops.size → todo ops.size listed ≤ fuel →
    ∃ l, Region.linearise.go .any ops fuel t listed acc = acc.reverse ++ l ∧ Sched ops.toList (fun i => listed.getD i false = true) l := by
  intro fuel
  induction fuel with
  | zero =>
    intro t listed acc hsz ht
    refine ⟨[], by simp [Region.linearise.go], .done fun i hi => ?_⟩
    have hi' : i < ops.size := by simpa using hi
    have hnil : (List.range ops.size).filter (fun i => !listed.getD i true) = [] := List.length_eq_zero_iff.1 (Nat.le_zero.1 ht)
    have := List.filter_eq_nil_iff.1 hnil i (List.mem_range.2 hi')
    simp only [Array.getD, hsz, hi', dif_pos] at this ⊢
    simpa using this
  | succ fuel ih =>
    intro t listed acc hsz ht
    simp only [Region.linearise.go]
    generalize hrs : (List.range ops.size).filter (fun i => !listed.getD i true && ((ops[i]?).map (·.after.all fun e => !Region.binds .any e || listed.getD e.on false)).getD false) = rs
    have hmem : ∀ i, i ∈ rs ↔ i < ops.size ∧ listed.getD i false = false ∧ ∃ o, ops[i]? = some o ∧ ∀ k ∈ edgesOf o, listed.getD k false = true := by
      intro i
      rw [← hrs, List.mem_filter, List.mem_range]
      constructor
      · rintro ⟨hi, h⟩
        have hi' : i < listed.size := by omega
        have ho : ops[i]? = some ops[i] := by simp [hi]
        rw [ho] at h
        simp only [Option.map_some, Option.getD_some, Bool.and_eq_true, Bool.not_eq_true', Array.getD, hi', dif_pos] at h
        refine ⟨hi, by simp only [Array.getD, hi', dif_pos]; exact h.1, ops[i], ho, ?_⟩
        intro k hk
        simp only [edgesOf, List.mem_map, List.mem_filter] at hk
        obtain ⟨e, ⟨he, hb⟩, rfl⟩ := hk
        have := Array.all_eq_true'.1 h.2 e (by simpa using he)
        rw [binds_iff, hb] at this
        simpa [Array.getD] using this
      · rintro ⟨hi, hl, o, ho, h⟩
        have hi' : i < listed.size := by omega
        refine ⟨hi, ?_⟩
        rw [ho]
        simp only [Option.map_some, Option.getD_some, Bool.and_eq_true, Bool.not_eq_true']
        refine ⟨by simp only [Array.getD, hi', dif_pos] at hl ⊢; exact hl, ?_⟩
        rw [Array.all_eq_true']
        intro e he
        rw [binds_iff]
        cases hb : bindsAny e with
        | false => rfl
        | true =>
          have := h e.on (by simp only [edgesOf, List.mem_map, List.mem_filter]; exact ⟨e, ⟨by simpa using he, hb⟩, rfl⟩)
          simpa using this
    cases hr : rs[t % rs.length]? with
    | none =>
      have hlen : rs.length = 0 := by
        rcases Nat.eq_zero_or_pos rs.length with h | h
        · exact h
        · have := List.getElem?_eq_none_iff.1 hr
          have := Nat.mod_lt t h
          omega
      have hnil : rs = [] := List.length_eq_zero_iff.1 hlen
      refine ⟨[], by simp, .done ?_⟩
      intro i
      induction i using Nat.strongRecOn with
      | _ i ihi =>
        intro hi
        have hi' : i < ops.size := by simpa using hi
        cases hl : listed.getD i false with
        | true => rfl
        | false =>
          exfalso
          have : i ∈ rs := (hmem i).2 ⟨hi', hl, ops[i], by simp [hi'], fun k hk => by
            have hk' := hd i ops[i] (by simp [hi']) k hk
            exact ihi k hk' (by omega)⟩
          rw [hnil] at this; simp at this
    | some j =>
      have hj : j ∈ rs := List.mem_of_getElem? hr
      obtain ⟨hj1, hj2, o, ho, hj3⟩ := (hmem j).1 hj
      have hsz' : (listed.setIfInBounds j true).size = ops.size := by simp [hsz]
      have hget : ∀ i, (listed.setIfInBounds j true).getD i false = if i = j then true else listed.getD i false := by
        intro i
        rw [Array.getD_eq_getD_getElem?, Array.getElem?_setIfInBounds]
        by_cases e : j = i
        · subst e; simp [hsz, hj1]
        · rw [if_neg e, if_neg (fun h => e h.symm), Array.getD_eq_getD_getElem?]
      have hget' : ∀ i, (listed.setIfInBounds j true).getD i true = if i = j then true else listed.getD i true := by
        intro i
        rw [Array.getD_eq_getD_getElem?, Array.getElem?_setIfInBounds]
        by_cases e : j = i
        · subst e; simp [hsz, hj1]
        · rw [if_neg e, if_neg (fun h => e h.symm), Array.getD_eq_getD_getElem?]
      have hlt : todo ops.size (listed.setIfInBounds j true) < todo ops.size listed := by
        refine filter_lt (j := j) (List.mem_range.2 hj1) ?_ ?_ ?_
        · have : j < listed.size := by omega
          rw [Array.getD_eq_getD_getElem?, Array.getElem?_eq_getElem this, Option.getD_some] at hj2 ⊢
          simp [hj2]
        · simp [hget']
        · intro i hi
          rw [hget'] at hi
          split at hi
          · simp at hi
          · exact hi
      obtain ⟨l, h1, h2⟩ := ih (t / rs.length) (listed.setIfInBounds j true) (j :: acc) hsz' (by omega)
      refine ⟨j :: l, by simp only; rw [h1]; simp, .next (o := o) (by simpa using ho) (by rw [hj2]; simp) hj3 ?_⟩
      have e : (fun i => (listed.setIfInBounds j true).getD i false = true) = fun i => listed.getD i false = true ∨ i = j := by
        funext i
        rw [hget]
        by_cases h : i = j
        · simp [h]
        · simp [h]
      rw [← e]; exact h2

theorem sched_any (ops : Array Oper) (hd : Downward ops.toList) (t : Nat) : Sched ops.toList (fun _ => False) (Region.schedule true ops t) := by
  obtain ⟨l, h1, h2⟩ := sched_go ops hd ops.size t (Array.replicate ops.size false) [] (by simp) (by
    unfold todo
    exact Nat.le_trans (List.length_filter_le _ _) (by simp))
  have : Region.schedule true ops t = l := by
    simp only [Region.schedule, Bool.true_or, if_true, Region.linearise, h1]; rfl
  rw [this]
  have e : (fun i => (Array.replicate ops.size false).getD i false = true) = fun _ => False := by
    funext i
    rw [Array.getD_eq_getD_getElem?, Array.getElem?_replicate]
    split <;> simp
  rw [← e]; exact h2

/-! which ones come ahead of each -/
theorem befores_spec : ∀ (rest : List (List Nat)) (acc : List Nat), (∀ j, j < acc.length → (befores rest acc)[j]? = acc[j]?) ∧
    ∀ (j : Nat) (es : List Nat), rest[j]? = some es → ∀ i, Nat.testBit ((befores rest acc).getD (acc.length + j) 0) i = true →
      ∃ e ∈ es, i = e ∨ (Nat.testBit ((befores rest acc).getD e 0) i = true ∧ e < acc.length + j) := by
  intro rest
  induction rest with
  | nil => intro acc; exact ⟨fun _ _ => rfl, fun j es h => by simp at h⟩
  | cons es rest ih =>
    intro acc
    have hst : befores (es :: rest) acc = befores rest (acc ++ [es.foldl (fun s j => Nat.lor s (Nat.lor (Nat.pow 2 j) (acc.getD j 0))) 0]) := rfl
    rw [hst]
    generalize hx : es.foldl (fun s j => Nat.lor s (Nat.lor (Nat.pow 2 j) (acc.getD j 0))) 0 = x
    obtain ⟨h1, h2⟩ := ih (acc ++ [x])
    have hlow : ∀ j, j < acc.length → (befores rest (acc ++ [x]))[j]? = acc[j]? := fun j hj => by
      rw [h1 j (by simp; omega), List.getElem?_append_left hj]
    refine ⟨hlow, fun j es' hj i hi => ?_⟩
    cases j with
    | zero =>
      simp only [List.getElem?_cons_zero, Option.some.injEq] at hj
      subst hj
      have hxx : (befores rest (acc ++ [x])).getD (acc.length + 0) 0 = x := by
        rw [List.getD_eq_getElem?_getD, Nat.add_zero, h1 acc.length (by simp)]
        simp
      rw [hxx, ← hx] at hi
      have hf : ∀ (l : List Nat) (s : Nat), Nat.testBit (l.foldl (fun s j => Nat.lor s (Nat.lor (Nat.pow 2 j) (acc.getD j 0))) s) i = true → Nat.testBit s i = true ∨ ∃ e ∈ l, i = e ∨ Nat.testBit (acc.getD e 0) i = true := by
        intro l
        induction l with
        | nil => intro s h; exact .inl h
        | cons e l ihl =>
          intro s h
          simp only [List.foldl_cons] at h
          rcases ihl _ h with h | ⟨e', he', h⟩
          · have h : Nat.testBit (s ||| (2 ^ e ||| acc.getD e 0)) i = true := h
            rw [Nat.testBit_or, Nat.testBit_or, Bool.or_eq_true, Bool.or_eq_true] at h
            rcases h with h | h | h
            · exact .inl h
            · rw [Nat.testBit_two_pow] at h
              exact .inr ⟨e, by simp, .inl (by simpa [eq_comm] using h)⟩
            · exact .inr ⟨e, by simp, .inr h⟩
          · exact .inr ⟨e', List.mem_cons_of_mem _ he', h⟩
      rcases hf es 0 hi with h | ⟨e, he, h⟩
      · simp at h
      · refine ⟨e, he, h.imp id fun h => ?_⟩
        by_cases hlt : e < acc.length
        · refine ⟨?_, by omega⟩
          rw [List.getD_eq_getElem?_getD, hlow e hlt, ← List.getD_eq_getElem?_getD]; exact h
        · have : acc.getD e 0 = 0 := by rw [List.getD_eq_getElem?_getD, List.getElem?_eq_none (by omega)]; rfl
          rw [this] at h; simp at h
    | succ j =>
      simp only [List.getElem?_cons_succ] at hj
      have e1 : (acc ++ [x]).length + j = acc.length + (j + 1) := by simp; omega
      have := h2 j es' hj i
      rw [e1] at this
      exact this hi

theorem ordered_in {ops : List Oper} {X : Nat → Prop} {i : Nat} : ∀ {j : Nat} {o : Oper}, ops[j]? = some o → (∀ k ∈ edgesOf o, X k) → (∀ (k : Nat) (o : Oper), ops[k]? = some o → X k → ∀ e ∈ edgesOf o, X e) →
    (∀ k, X k → k < ops.length) → ordered (beforeOf ops) i j = true → X i := by
  intro j
  induction j using Nat.strongRecOn with
  | _ j ih =>
    intro o ho he hX hb hi
    have := (befores_spec (ops.map edgesOf) []).2 j (edgesOf o) (by simp [ho]) i (by simpa [ordered, beforeOf] using hi)
    obtain ⟨e, hem, rfl | ⟨h1, h2⟩⟩ := this
    · exact he _ hem
    · have hXe := he e hem
      have hlt := hb e hXe
      have hoe : ops[e]? = some ops[e] := by simp [hlt]
      exact ih e (by simpa using h2) hoe (hX e _ hoe hXe) hX hb (by simpa [ordered, beforeOf] using h1)
end Go.AM

namespace Go.AM
open Go
set_option linter.unusedVariables false
set_option linter.unusedSimpArgs false

section
variable {P : Program} {E : Env} {self : Self} {b : Frame} {a : Act} {k : List Item} {cs : List Frame} {w : World} {ops : Array Oper} {φ : Map} {s : S} {cx : Cx} {fr : Fr} {G : MC → MC → Prop}

/-! ## one operation: its value alone -/
def ValOk (E : Env) (G : MC → MC → Prop) (b : Frame) (a : Act) (k : List Item) (cs : List Frame) (cx : Cx) (φ : Map) (w : World) (m : MC) (ops : Array Oper) (rest : List Nat) (dst : Option Tmp) (fr : Fr) : O1 → Prop
  | .go fr' s' => ∃ φ' c w' v, fr' = setTm cx fr v dst ∧ Keep φ w φ' w' ∧ Rel φ' s' w' ∧ VR φ' v c ∧ G m (lone (Frame.put b (a.put dst c) (.inRegion ops rest :: k)) cs w', cnt E s')
  | _ => True

theorem ValOk.later {φ₁ : Map} {w₁ : World} {m : MC} {rest : List Nat} {dst : Option Tmp} (h : Keep φ w φ₁ w₁) : ∀ {o : O1}, ValOk E G b a k cs cx φ₁ w₁ m ops rest dst fr o → ValOk E G b a k cs cx φ w m ops rest dst fr o
  | .go _ _, ⟨φ', c, w', v, h1, h2, r⟩ => ⟨φ', c, w', v, h1, h.trans h2, r⟩
  | .pan _ _, _ => trivial
  | .fail _, _ => trivial

theorem after_val (hE : EnvOk E P) (hs : SelfOk E P G self)
    {i : Nat} {rest : List Nat} {o : Oper} {r : OR} {w' : World} {φ' : Map} {s' : S}
    (hg : GlobOk E.ng φ') (hrel : Rel φ' s' w') (ho : ops[i]? = some o) (hw : Region.wanted o (yielded ops a.tmps) = true)
    (hr : ORok P φ' w' ((execOp a.eval o).run P w) r) (hdef : ∀ c, o.op ≠ .defer c) (h1 : ∀ d, r ≠ .defer d) (h2 : r ≠ .recover)
    (hnp : ∀ cs, ¬ IsPick (lone (Frame.put b a (.inRegion ops (i :: rest) :: k)) cs w)) :
    ValOk E G b a k cs cx φ' w' (lone (Frame.put b a (.inRegion ops (i :: rest) :: k)) cs w, cnt E s') ops rest o.dst fr (after self cx fr o.dst r s') := by
  have hfin : ∀ v, (Frame.put b a (.inRegion ops (i :: rest) :: k)).finish v = Frame.put b (a.put o.dst v) (.inRegion ops rest :: k) := by
    intro v; rw [put_finish, ho]; rfl
  have hG := fun cs => stG_op (P := P) (b := b) (a := a) (k := k) (cs := cs) (w := w) (rest := rest) ho hw (.inr hdef)
  cases r with
  | val v =>
    rcases hr with ⟨c, hr, hv⟩ | ⟨hr, hv⟩
    · refine ⟨φ', c, w', v, rfl, Keep.refl _ _, hrel, hv, hs.rel.one (step_lone_go ?_) (hnp _)⟩
      rw [hG, ← hfin]; simp [stepG.apply, hr]
    · refine ⟨φ', undef, w', v, rfl, Keep.refl _ _, hrel, hv, hs.rel.one (step_lone_go ?_) (hnp _)⟩
      rw [hG, ← hfin]; simp [stepG.apply, hr]
  | pan v => trivial
  | defer d => exact absurd rfl (h1 d)
  | recover => exact absurd rfl h2
  | call f args =>
    obtain ⟨cargs, hr, hargs⟩ := hr
    simp only [after]
    cases hfi : E.fn f with
    | none =>
      have := hs.fn (args := args) (pk := none) (s := s') hfi
      cases ht : self (.call f args none) s' with
      | ret v rc s'' => exact absurd ht (this v rc s'').1
      | pan v rc s'' => exact absurd ht (this v rc s'').2
      | code r => trivial
      | fail w => trivial
    | some fi =>
      rw [callFunc_enter hE hfi] at hr
      have henter : step P (lone (Frame.put b a (.inRegion ops (i :: rest) :: k)) cs w) =
          .next (lone (Frame.enter P f cargs .normal) (Frame.put b a (.inRegion ops (i :: rest) :: k) :: cs) w') :=
        step_lone_go (by rw [hG]; simp [stepG.apply, hr, Frame.put])
      have hcall := hs.call (f := f) (pk := none) (kind := .normal) (cs := Frame.put b a (.inRegion ops (i :: rest) :: k) :: cs) hg hrel hargs (by intro fr hfr; simp [tryRecover, hfr]) (.inl rfl)
      cases ht : self (.call f args none) s' with
      | ret v rc s'' =>
        rw [ht] at hcall
        cases rc with
        | true => trivial
        | false =>
          obtain ⟨φ'', w'', fr', c, h1, h2, h3, h4, h5, h6, h7, h8, h9⟩ := hcall
          refine ⟨φ'', c, w'', v, rfl, h1, h2, h3, hs.rel.head henter (hnp _) (hs.rel.trans h4 (hs.rel.one ?_ (np_mode (by simp [h5]))))⟩
          rw [← hfin]
          exact step_leave_returned ⟨h5, h6, h7, by rw [h8]; exact h9⟩
      | pan v rc s'' => cases rc <;> trivial
      | code r => trivial
      | fail w => trivial
  | round l args =>
    obtain ⟨L, cargs, hL, hr, hargs⟩ := hr
    simp only [after]
    have hround := hs.round (c0 := Frame.put b a (.inRegion ops (i :: rest) :: k)) (cs := cs) hg hrel hL hargs
    have hstep : ∀ {f tmps asg body}, (Instr.yield L.blk cargs).run P w' = .ok (.round L.blk f tmps asg body) w' →
        step P (lone (Frame.put b a (.inRegion ops (i :: rest) :: k)) cs w) =
          .next (lone (Frame.round L.blk f tmps asg body .normal) (Frame.put b a (.inRegion ops (i :: rest) :: k) :: cs) w') := fun hy => by
      refine step_lone_go ?_
      rw [hG]; simp [stepG.apply, hr, hy]
    cases ht : self (.round l args) s' with
    | ret v rc s'' =>
      rw [ht] at hround
      cases rc with
      | true => trivial
      | false =>
        obtain ⟨f, tmps, asg, body, φ'', w'', c, hy, h1, h2, h3, h4⟩ := hround
        refine ⟨φ'', c, w'', v, rfl, h1, h2, h3, hs.rel.head (hstep hy) (hnp _) ?_⟩
        rw [← hfin]; exact h4
    | pan v rc s'' => cases rc <;> trivial
    | code r => trivial
    | fail w => trivial


/-- an operation of a drawn region -/
theorem exec1_draw {o : Oper} : ∀ {r : O1}, exec1 E self (drawCx cx) ops.toList o fr s = r → (∀ w, r ≠ .fail w) → exec1 E self cx ops.toList o fr s = r := by
  intro r h hr
  unfold exec1 at h ⊢
  cases hy : guardOk ops.toList fr o.guard with
  | true =>
    rw [hy] at h
    simp only [cond_true] at h ⊢
    rcases Q.run_cases O1.fail (after self (drawCx cx) fr o.dst) (exec o.op E fr) s with ⟨why, e⟩ | ⟨r', s', he, e⟩
    · rw [e] at h; exact absurd h.symm (hr why)
    · rw [e] at h
      rw [Q.run_some _ _ _ _ _ _ he]
      cases r' with
      | val v => rw [← h]; rfl
      | pan v => rw [← h]; rfl
      | defer d => exact absurd h.symm (hr _)
      | recover => exact absurd h.symm (hr _)
      | call f args => rw [← h]; rfl
      | round l args => rw [← h]; rfl
  | false =>
    rw [hy] at h
    simp only [cond_false] at h ⊢
    cases hn : guardNot ops.toList fr o.guard with
    | false => rw [hn] at h; exact absurd h.symm (hr _)
    | true => rw [hn] at h; rw [← h]; rfl

/-- the same operation in another frame that has the same where it looks -/
theorem exec1_other {o : Oper} {fr₁ fr' : Fr} {s₁ : S} (h : exec1 E self (drawCx cx) ops.toList o fr s = .go fr₁ s₁)
    (h1 : ∀ x ∈ opsOf o.op, opd x fr = opd x fr') (h2 : ∀ t ∈ guardTmp ops.toList o.guard, fr.tm.get t = fr'.tm.get t) :
    ∃ v, fr₁ = setTm cx fr v o.dst ∧ exec1 E self (drawCx cx) ops.toList o fr' s = .go (setTm cx fr' v o.dst) s₁ := by
  have hg1 : guardOk ops.toList fr o.guard = guardOk ops.toList fr' o.guard := by
    unfold guardOk
    cases hgd : o.guard with
    | none => rfl
    | some g =>
      obtain ⟨j, b⟩ := g
      simp only
      cases hj : ops.toList[j]? with
      | none => rfl
      | some o' =>
        simp only
        cases hd : o'.dst with
        | none => rfl
        | some d =>
          simp only
          rw [h2 d (by simp [guardTmp, hgd, hj, hd, optL])]
  have hg2 : guardNot ops.toList fr o.guard = guardNot ops.toList fr' o.guard := by
    unfold guardNot
    cases hgd : o.guard with
    | none => rfl
    | some g =>
      obtain ⟨j, b⟩ := g
      simp only
      cases hj : ops.toList[j]? with
      | none => rfl
      | some o' =>
        simp only
        cases hd : o'.dst with
        | none => rfl
        | some d =>
          simp only [tmV]
          rw [h2 d (by simp [guardTmp, hgd, hj, hd, optL])]
  have hx := exec_congr (E := E) o.op h1
  unfold exec1 at h ⊢
  rw [← hg1, ← hg2, ← hx]
  cases hy : guardOk ops.toList fr o.guard with
  | true =>
    rw [hy] at h
    simp only [cond_true] at h ⊢
    rcases Q.run_cases O1.fail (after self (drawCx cx) fr o.dst) (exec o.op E fr) s with ⟨why, e⟩ | ⟨r', s', he, e⟩
    · rw [e] at h; simp at h
    · rw [e] at h
      rw [Q.run_some _ _ _ _ _ _ he]
      have hset : ∀ (fr : Fr) v, setTm (drawCx cx) fr v o.dst = setTm cx fr v o.dst := fun fr v => rfl
      have hcall : ∀ t : TR, afterCall (drawCx cx) fr o.dst t = .go fr₁ s₁ → ∃ v, fr₁ = setTm cx fr v o.dst ∧ afterCall (drawCx cx) fr' o.dst t = .go (setTm cx fr' v o.dst) s₁ := by
        intro t ht
        cases t with
        | ret v rc s =>
          cases rc with
          | true => simp [afterCall] at ht
          | false =>
            simp only [afterCall, cond_false, O1.go.injEq] at ht ⊢
            obtain ⟨rfl, rfl⟩ := ht
            exact ⟨v, rfl, rfl, rfl⟩
        | pan v rc s => cases rc <;> simp [afterCall] at ht
        | code r => simp [afterCall] at ht
        | fail w => simp [afterCall] at ht
      cases r' with
      | val v =>
        simp only [after, O1.go.injEq] at h ⊢
        obtain ⟨rfl, rfl⟩ := h
        exact ⟨v, rfl, rfl, rfl⟩
      | pan v => simp [after] at h
      | defer d => simp [after, deferred, drawCx] at h
      | recover => simp [after, recovered, drawCx] at h
      | call f args => exact hcall _ h
      | round l args => exact hcall _ h
  | false =>
    rw [hy] at h
    simp only [cond_false] at h ⊢
    cases hn : guardNot ops.toList fr o.guard with
    | false => rw [hn] at h; simp at h
    | true =>
      rw [hn] at h
      simp only [cond_true, O1.go.injEq] at h ⊢
      obtain ⟨rfl, rfl⟩ := h
      exact ⟨undefV, rfl, rfl, rfl⟩

/-- one operation that gives a value -/
theorem exec1_val (hE : EnvOk E P) (hs : SelfOk E P G self) {i : Nat} {rest : List Nat} {o : Oper} {fr₁ : Fr} {s₁ : S}
    (hg : GlobOk E.ng φ) (hrel : Rel φ s w) (hf : FrR φ cx fr a) (ho : ops[i]? = some o) (hp : plainOp o.op = true) (h : exec1 E self (drawCx cx) ops.toList o fr s = .go fr₁ s₁) :
    ValOk E G b a k cs cx φ w (lone (Frame.put b a (.inRegion ops (i :: rest) :: k)) cs w, cnt E s) ops rest o.dst fr (.go fr₁ s₁) := by
  unfold exec1 at h
  cases hy : guardOk ops.toList fr o.guard with
  | true =>
    rw [hy] at h
    simp only [cond_true] at h
    rcases Q.run_cases O1.fail (after self (drawCx cx) fr o.dst) (exec o.op E fr) s with ⟨why, e⟩ | ⟨r, s', he, e⟩
    · rw [e] at h; simp at h
    · rw [e] at h
      by_cases hnx : ∃ it, o.op = .next it false
      · obtain ⟨it, hop⟩ := hnx
        have hwant := guard_yes hf hy
        rw [hop] at he
        have heq : execOp a.eval o = (do pure (.value (← Instr.next (a.eval it) false o.type)) : Sem Next) := by
          simp only [execOp, hop]
        rcases good_next (P := P) (ty := o.type) hrel (hf.opd it) he with ⟨hnm, hcnt, φ', w', hrel', hk, hr⟩ | ⟨_, hm, ix, hix, hcnt, w', v, cv, hrel', hk, rfl, hv, hrun⟩
        · rw [← heq] at hr
          have := after_val (b := b) (k := k) (cs := cs) (cx := drawCx cx) (fr := fr) (rest := rest) (w := w) hE hs (hg.mono hk.ext) hrel' ho hwant hr
            (fun c hc => by rw [hop] at hc; cases hc) (fun d hd => by rw [hd] at h; simp [after, deferred, drawCx] at h) (fun hd => by rw [hd] at h; simp [after, recovered, drawCx] at h)
            (fun cs => np_op ho fun it' e _ => by rw [hop] at e; cases e; exact fun h => hnm ⟨rfl, h⟩)
          rw [h, hcnt] at this
          exact ValOk.later hk this
        · rw [← heq] at hrun
          simp only [after, O1.go.injEq] at h
          obtain ⟨rfl, rfl⟩ := h
          refine ⟨φ, cv, w', v, rfl, hk, hrel', hv, ?_⟩
          rw [hcnt]
          refine hs.rel.pick (by rw [hix]; simp) ⟨b, a, ops, i, rest, k, _, w, o, it, rfl, ho, hop, hwant, hm⟩ (next_pick ho hop hwant hrun) ?_
          exact hk.tape
      · have hnx' : ∀ it, o.op ≠ .next it false := fun it h => hnx ⟨it, h⟩
        obtain ⟨φ', w', hrel', hk, hr⟩ := good_exec hE hrel o (fun x _ => hf.opd x) hnx' r s' he
        have hcnt := calm_exec (E := E) (s := s) o.op hnx' hrel.fresh0 r s' he
        have := after_val (b := b) (k := k) (cs := cs) (cx := drawCx cx) (fr := fr) (rest := rest) (w := w) hE hs (hg.mono hk.ext) hrel' ho (guard_yes hf hy) hr
          (fun c hc => by rw [hc] at hp; simp [plainOp] at hp) (fun d hd => by rw [hd] at h; simp [after, deferred, drawCx] at h) (fun hd => by rw [hd] at h; simp [after, recovered, drawCx] at h)
          (fun cs => np_op ho fun it e => absurd e (hnx' it))
        rw [h, hcnt] at this
        exact ValOk.later hk this
  | false =>
    rw [hy] at h
    simp only [cond_false] at h
    cases hn : guardNot ops.toList fr o.guard with
    | false => rw [hn] at h; simp at h
    | true =>
      rw [hn] at h
      simp only [cond_true, O1.go.injEq] at h
      obtain ⟨rfl, rfl⟩ := h
      have hw := guard_no hf hn
      refine ⟨φ, undef, w, undefV, rfl, Keep.refl _ _, hrel, ⟨#[], rfl, rfl⟩, hs.rel.one ?_ (np_op ho fun it _ h => by rw [hw] at h; cases h)⟩
      have := st_unwanted (P := P) (b := b) (a := a) (k := k) (cs := cs) (w := w) (ops := ops) (i := i) (rest := rest) (by simp [ho, hw])
      rw [this, ho]; rfl

end
end Go.AM

namespace Go.AM
open Go
set_option linter.unusedVariables false
set_option linter.unusedSimpArgs false

/-! ## what a drawn region's run in the text's order leaves written down -/
section
variable {E : Env} {self : Self} {cx : Cx}

def RecAt (E : Env) (self : Self) (cx : Cx) (ops : List Oper) (st : Nat → S) (frm : Nat → Fr) (lg : Nat → List (Nat × Bool)) (k : Nat) : Prop :=
  ∃ o, ops[k]? = some o ∧ exec1 E self (drawCx cx) ops o (frm k) ⟨(st k).h, (st k).n, []⟩ = .go (frm (k + 1)) ⟨(st (k + 1)).h, (st (k + 1)).n, lg k⟩ ∧ aliveOk (st k).h (st k).n (lg k) = true

def insAt (ops : List Oper) (lg : Nat → List (Nat × Bool)) (k : Nat) : Option Nat := match ops[k]? with
  | some o => insOf o (lg k)
  | none => none

def leAt (ops : List Oper) (frm : Nat → Fr) (lg : Nat → List (Nat × Bool)) (k : Nat) : Option (Bool × Nat × Nat × V) := match ops[k]? with
  | some o => leOf o (frm k) (lg k)
  | none => none

def segAt (ops : List Oper) (st : Nat → S) (frm : Nat → Fr) (lg : Nat → List (Nat × Bool)) (k : Nat) : Seg := ⟨k, (st k).n, (st (k + 1)).n, lg k, insAt ops lg k, leAt ops frm lg k⟩

def relS (bf : List Nat) (a b : Seg) : Prop := ordered bf a.i b.i = true ∨ apartOk a b = true

theorem segOk_spec {bf : List Nat} {b : Seg} : ∀ {l : List Seg}, segOk bf b l = true → ∀ a ∈ l, relS bf a b
  | [], _ => by simp
  | a :: l, h => by
    simp only [segOk] at h
    cases hb : or (ordered bf a.i b.i) (apartOk a b) with
    | false => rw [hb] at h; simp at h
    | true =>
      rw [hb] at h
      intro c hc
      rcases List.mem_cons.1 hc with rfl | hc
      · simpa [relS] using hb
      · exact segOk_spec h c hc

theorem within_nil (lo hi : Nat) : within lo hi [] = false := rfl
theorem within_self {lo : Nat} : ∀ l, within lo lo l = false
  | [] => rfl
  | (id, w) :: l => by
    simp only [within]
    have : and (Nat.ble lo id) (Nat.ble (Nat.succ id) lo) = false := by
      cases h1 : Nat.ble lo id with
      | false => rfl
      | true =>
        cases h2 : Nat.ble (Nat.succ id) lo with
        | false => rfl
        | true =>
          have := Nat.le_of_ble_eq_true h1
          have := Nat.le_of_ble_eq_true h2
          omega
    rw [this]; exact within_self l
theorem clash_nil : ∀ l, clash l [] = false
  | [] => rfl
  | (id, w) :: l => by simp only [clash, hits, Bool.and_false, cond_false]; exact clash_nil l

theorem evDraw_recs (ops : List Oper) (n0 : Nat) (lg0 : List (Nat × Bool)) : ∀ (l : List Oper) (i : Nat) (segs : List Seg) (fr : Fr) (s : S) (x : X) (frF : Fr) (sF : S), ops.drop i = l → i ≤ ops.length →
    evDraw E self cx ops n0 lg0 l i segs fr s = .ok x frF sF →
    ∃ (p : Nat) (st : Nat → S) (frm : Nat → Fr) (lg : Nat → List (Nat × Bool)), i ≤ p ∧ p ≤ ops.length ∧ st i = s ∧ frm i = fr ∧ (∀ k, i ≤ k → k < p → RecAt E self cx ops st frm lg k) ∧
      (segsOk (beforeOf ops) segs = true ∧ (∀ a ∈ segs, ∀ k, i ≤ k → k < p → relS (beforeOf ops) a (segAt ops st frm lg k)) ∧ ∀ k j, i ≤ k → k < j → j < p → relS (beforeOf ops) (segAt ops st frm lg k) (segAt ops st frm lg j)) ∧
      ((x = .normal ∧ p = ops.length ∧ frF = frm p ∧ sF.h = (st p).h ∧ sF.n = (st p).n) ∨
       ∃ v s' o, x = .panic v ∧ ops[p]? = some o ∧ exec1 E self (drawCx cx) ops o (frm p) ⟨(st p).h, (st p).n, []⟩ = .pan v s' ∧ fixedAt (beforeOf ops) p ops.length = true ∧ frF = frm p ∧ sF.h = s'.h ∧ sF.n = s'.n) := by
  intro l
  induction l with
  | nil =>
    intro i segs fr s x frF sF hl hi h
    have hlen : ops.length = i := by
      have := List.drop_eq_nil_iff.1 hl
      omega
    simp only [evDraw] at h
    cases hseg : segsOk (beforeOf ops) segs with
    | false => rw [hseg] at h; simp at h
    | true =>
      rw [hseg] at h
      simp only [cond_true, R.ok.injEq] at h
      obtain ⟨rfl, rfl, rfl⟩ := h
      exact ⟨i, fun _ => s, fun _ => fr, fun _ => [], Nat.le_refl _, hi, rfl, rfl, fun k h1 h2 => by omega, ⟨rfl, fun _ _ k h1 h2 => by omega, fun k j h1 h2 h3 => by omega⟩, .inl ⟨rfl, hlen.symm, rfl, rfl, rfl⟩⟩
  | cons o l ih =>
    intro i segs fr s x frF sF hl hi h
    have ho : ops[i]? = some o := by
      have : (ops.drop i)[0]? = some o := by rw [hl]; rfl
      simpa using this
    have hlt : i < ops.length := by
      rcases Nat.lt_or_ge i ops.length with h | h
      · exact h
      · rw [List.getElem?_eq_none h] at ho; simp at ho
    have hl' : ops.drop (i + 1) = l := by rw [← List.tail_drop, hl]; rfl
    simp only [evDraw] at h
    cases he : exec1 E self (drawCx cx) ops o fr ⟨s.h, s.n, []⟩ with
    | fail w => rw [he] at h; simp at h
    | go fr1 s1 =>
      rw [he] at h
      simp only at h
      cases hal : aliveOk s.h s.n s1.lg with
      | false => rw [hal] at h; simp at h
      | true =>
        rw [hal] at h
        simp only [cond_true] at h
        obtain ⟨p, st, frm, lg, h1, h2, h3, h4, h5, ⟨h6, h7, h8⟩, h9⟩ := ih (i + 1) _ _ _ _ _ _ hl' (by omega) h
        refine ⟨p, fun k => if k = i then s else st k, fun k => if k = i then fr else frm k, fun k => if k = i then s1.lg else lg k, by omega, h2, by simp, by simp, ?_, ?_, ?_⟩
        · intro k hk1 hk2
          by_cases e : k = i
          · subst e
            refine ⟨o, ho, ?_, ?_⟩
            · have e1 : ¬ (k + 1 = k) := by omega
              simp only [if_true, if_neg e1]
              rw [he, h3, h4]
            · simp only [if_true]; exact hal
          · obtain ⟨o', q1, q2, q3⟩ := h5 k (by omega) hk2
            refine ⟨o', q1, ?_, ?_⟩
            · simp only [if_neg e, if_neg (show ¬ k + 1 = i by omega)]; exact q2
            · simp only [if_neg e]; exact q3
        · have hsegk : ∀ k, i + 1 ≤ k → segAt ops (fun k => if k = i then s else st k) (fun k => if k = i then fr else frm k) (fun k => if k = i then s1.lg else lg k) k = segAt ops st frm lg k := by
            intro k hk
            have e1 : ¬ k = i := by omega
            have e2 : ¬ k + 1 = i := by omega
            simp only [segAt, insAt, leAt, if_neg e1, if_neg e2]
          have hsegi : segAt ops (fun k => if k = i then s else st k) (fun k => if k = i then fr else frm k) (fun k => if k = i then s1.lg else lg k) i = ⟨i, s.n, s1.n, s1.lg, insOf o s1.lg, leOf o fr s1.lg⟩ := by
            have e2 : ¬ i + 1 = i := by omega
            simp only [segAt, insAt, leAt, if_true, if_neg e2, h3, ho]
          have hmem : ∀ a ∈ segs, a ∈ consSeg i s.n s1.n s1.lg (insOf o s1.lg) (leOf o fr s1.lg) segs := by
            intro a ha
            unfold consSeg
            cases s1.lg with
            | nil => cases Nat.beq s.n s1.n <;> simp [ha]
            | cons e l => simp [ha]
          have hown : (s1.lg = [] ∧ s.n = s1.n) ∨ (⟨i, s.n, s1.n, s1.lg, insOf o s1.lg, leOf o fr s1.lg⟩ : Seg) ∈ consSeg i s.n s1.n s1.lg (insOf o s1.lg) (leOf o fr s1.lg) segs := by
            unfold consSeg
            cases hlg : s1.lg with
            | nil =>
              cases hb : Nat.beq s.n s1.n with
              | true => exact .inl ⟨rfl, by simpa using hb⟩
              | false => exact .inr (by simp)
            | cons e l => exact .inr (by simp)
          have hsplit : segsOk (beforeOf ops) segs = true ∧ ∀ a ∈ segs, relS (beforeOf ops) a ⟨i, s.n, s1.n, s1.lg, insOf o s1.lg, leOf o fr s1.lg⟩ := by
            rcases hown with ⟨e1, e2⟩ | hin
            · have : consSeg i s.n s1.n s1.lg (insOf o s1.lg) (leOf o fr s1.lg) segs = segs := by
                unfold consSeg; rw [e1, e2]; simp
              rw [this] at h6
              refine ⟨h6, fun a _ => .inr ?_⟩
              simp [apartOk, e1, e2, within_nil, within_self, clash_nil, clash]
            · have hc : consSeg i s.n s1.n s1.lg (insOf o s1.lg) (leOf o fr s1.lg) segs = ⟨i, s.n, s1.n, s1.lg, insOf o s1.lg, leOf o fr s1.lg⟩ :: segs ∨ (s1.lg = [] ∧ s.n = s1.n) := by
                unfold consSeg
                cases hlg : s1.lg with
                | nil =>
                  cases hb : Nat.beq s.n s1.n with
                  | true => exact .inr ⟨rfl, by simpa using hb⟩
                  | false => exact .inl (by simp)
                | cons e l => exact .inl (by simp)
              rcases hc with hc | ⟨e1, e2⟩
              · rw [hc] at h6
                simp only [segsOk] at h6
                cases hso : segOk (beforeOf ops) ⟨i, s.n, s1.n, s1.lg, insOf o s1.lg, leOf o fr s1.lg⟩ segs with
                | false => rw [hso] at h6; simp at h6
                | true => rw [hso] at h6; exact ⟨h6, segOk_spec hso⟩
              · have : consSeg i s.n s1.n s1.lg (insOf o s1.lg) (leOf o fr s1.lg) segs = segs := by
                  unfold consSeg; rw [e1, e2]; simp
                rw [this] at h6
                refine ⟨h6, fun a _ => .inr ?_⟩
                simp [apartOk, e1, e2, within_nil, within_self, clash_nil, clash]
          refine ⟨hsplit.1, ?_, ?_⟩
          · intro a ha k hk1 hk2
            by_cases e : k = i
            · subst e; rw [hsegi]; exact hsplit.2 a ha
            · rw [hsegk k (by omega)]; exact h7 a (hmem a ha) k (by omega) hk2
          · intro k j hk1 hk2 hk3
            rw [hsegk j (by omega)]
            by_cases e : k = i
            · subst e
              rw [hsegi]
              rcases hown with ⟨e1, e2⟩ | hin
              · refine .inr ?_
                simp [apartOk, e1, e2, within_nil, within_self, clash_nil, clash]
              · exact h7 _ hin j (by omega) hk3
            · rw [hsegk k (by omega)]; exact h8 k j (by omega) hk2 hk3
        · have hp : p ≠ i := by omega
          simp only [if_neg hp]
          exact h9
    | pan v s1 =>
      rw [he] at h
      simp only at h
      cases hc : and (fixedAt (beforeOf ops) i ops.length) (segsOk (beforeOf ops) segs) with
      | false => rw [hc] at h; simp at h
      | true =>
        rw [hc] at h
        simp only [cond_true, R.ok.injEq] at h
        obtain ⟨rfl, rfl, rfl⟩ := h
        rw [Bool.and_eq_true] at hc
        exact ⟨i, fun _ => s, fun _ => fr, fun _ => [], Nat.le_refl _, hi, rfl, rfl, fun k h1 h2 => by omega, ⟨hc.2, fun _ _ k h1 h2 => by omega, fun k j h1 h2 h3 => by omega⟩,
          .inr ⟨v, s1, o, rfl, ho, he, hc.1, rfl, rfl, rfl⟩⟩

/-! ## apartness, spelt out -/
theorem within_spec {lo hi : Nat} : ∀ {l : List (Nat × Bool)}, within lo hi l = false → ∀ q ∈ l, ¬ (lo ≤ q.1 ∧ q.1 < hi)
  | [], _ => by simp
  | (id, w) :: l, h => by
    simp only [within] at h
    cases hb : and (Nat.ble lo id) (Nat.ble (Nat.succ id) hi) with
    | true => rw [hb] at h; simp at h
    | false =>
      rw [hb] at h
      intro q hq
      rcases List.mem_cons.1 hq with rfl | hq
      · rintro ⟨h1, h2⟩
        have e1 : Nat.ble lo id = true := Nat.ble_eq_true_of_le h1
        have e2 : Nat.ble (Nat.succ id) hi = true := Nat.ble_eq_true_of_le h2
        rw [e1, e2] at hb; simp at hb
      · exact within_spec h q hq

theorem hits_spec {id : Nat} : ∀ {l : List (Nat × Bool)}, hits id l = false → ∀ q ∈ l, q.1 ≠ id
  | [], _ => by simp
  | (i, w) :: l, h => by
    simp only [hits] at h
    cases hb : Nat.beq i id with
    | true => rw [hb] at h; simp at h
    | false =>
      rw [hb] at h
      intro q hq
      rcases List.mem_cons.1 hq with rfl | hq
      · intro e; simp only at e; subst e; simp at hb
      · exact hits_spec h q hq

theorem clash_spec : ∀ {l m : List (Nat × Bool)}, clash l m = false → ∀ id, (id, true) ∈ l → ∀ q ∈ m, q.1 ≠ id
  | [], _, _ => by simp
  | (i, w) :: l, m, h => by
    simp only [clash] at h
    cases hb : and w (hits i m) with
    | true => rw [hb] at h; simp at h
    | false =>
      rw [hb] at h
      intro id hid
      rcases List.mem_cons.1 hid with e | hid
      · simp only [Prod.mk.injEq] at e
        obtain ⟨rfl, rfl⟩ := e
        exact hits_spec (by simpa using hb)
      · exact clash_spec h id hid

theorem apartOk_spec {a b : Seg} (h : apartOk a b = true) (hi : sameIns a.ins b.ins = false) (hle : lookEnt a.le b.le = false) : (∀ q ∈ b.lg, ¬ (a.lo ≤ q.1 ∧ q.1 < a.hi)) ∧ (∀ q ∈ a.lg, ¬ (b.lo ≤ q.1 ∧ q.1 < b.hi)) ∧
    (∀ id, (id, true) ∈ a.lg → ∀ q ∈ b.lg, q.1 ≠ id) ∧ (∀ id, (id, true) ∈ b.lg → ∀ q ∈ a.lg, q.1 ≠ id) := by
  unfold apartOk at h
  rw [hi, hle, Bool.false_or, Bool.false_or] at h
  simp only [Bool.not_eq_true', Bool.or_eq_false_iff] at h
  exact ⟨within_spec h.1, within_spec h.2.1, clash_spec h.2.2.1, clash_spec h.2.2.2⟩

theorem hasN_spec {n : Nat} : ∀ {l : List Nat}, hasN n l = false → n ∉ l
  | [], _ => by simp
  | m :: l, h => by
    simp only [hasN] at h
    cases hb : Nat.beq m n with
    | true => rw [hb] at h; simp at h
    | false =>
      rw [hb] at h
      intro hm
      rcases List.mem_cons.1 hm with rfl | hm
      · simp at hb
      · exact hasN_spec h hm

theorem notNamed_spec {d : Option Tmp} {l : List Tmp} (h : notNamed d l = true) : ∀ t, d = some t → t ∉ l := by
  intro t ht
  subst ht
  exact hasN_spec (by simpa [notNamed] using h)

theorem tempsAt_spec {ops : List Oper} {bf : List Nat} {j : Nat} {o : Oper} : ∀ {l : List Oper} {i : Nat}, tempsAt ops bf j o l i = true → ∀ (k : Nat) (a : Oper), l[k]? = some a → i + k < j →
    ordered bf (i + k) j = true ∨ apartT ops a o = true
  | [], _, _, k, a, ha, _ => by simp at ha
  | a' :: l, i, h, k, a, ha, hlt => by
    simp only [tempsAt] at h
    cases hb : or (Nat.ble j i) (or (ordered bf i j) (apartT ops a' o)) with
    | false => rw [hb] at h; simp at h
    | true =>
      rw [hb] at h
      simp only [cond_true] at h
      cases k with
      | zero =>
        simp only [List.getElem?_cons_zero, Option.some.injEq] at ha
        subst ha
        have : Nat.ble j i = false := by
          cases hh : Nat.ble j i with
          | false => rfl
          | true => have := Nat.le_of_ble_eq_true hh; omega
        rw [this] at hb
        simpa using hb
      | succ k =>
        simp only [List.getElem?_cons_succ] at ha
        have := tempsAt_spec h k a ha (by omega)
        have e : Nat.succ i + k = i + (k + 1) := by omega
        rw [e] at this; exact this

theorem fixedAt_spec {bf : List Nat} {i : Nat} : ∀ {n : Nat}, fixedAt bf i n = true → ∀ j, j < n → j = i ∨ ordered bf j i = true ∨ ordered bf i j = true
  | 0, _, j, hj => by omega
  | n + 1, h, j, hj => by
    simp only [fixedAt] at h
    cases hb : or (Nat.beq n i) (or (ordered bf n i) (ordered bf i n)) with
    | false => rw [hb] at h; simp at h
    | true =>
      rw [hb] at h
      rcases Nat.lt_or_ge j n with hlt | hge
      · exact fixedAt_spec h j hlt
      · have : j = n := by omega
        subst this
        simpa using hb
end
end Go.AM

namespace Go.AM
open Go
set_option linter.unusedVariables false
set_option linter.unusedSimpArgs false
open Classical

/-! ## a drawn region, any order -/
section
variable {st : Nat → S} {frm : Nat → Fr} {lg : Nat → List (Nat × Bool)} {ops : Array Oper}

def Wr (st : Nat → S) (lg : Nat → List (Nat × Bool)) (k id : Nat) : Prop := (id, true) ∈ lg k ∨ ((st k).n ≤ id ∧ id < (st (k + 1)).n)
def Tch (lg : Nat → List (Nat × Bool)) (k id : Nat) : Prop := ∃ b, (id, b) ∈ lg k
def DstAt (ops : Array Oper) (k : Nat) (t : Tmp) : Prop := ∃ o, ops.toList[k]? = some o ∧ o.dst = some t

theorem sameIns_none (a : Option Nat) : sameIns a none = false := by cases a <;> rfl

/-- the entry that an operation puts -/
def kvAt (ops : Array Oper) (frm : Nat → Fr) (k : Nat) : V × V := match ops.toList[k]? with
  | some o => (match o.op with
    | .insert _ _ kx vx => (opd kx (frm k), opd vx (frm k))
    | _ => (.bad, .bad))
  | none => (.bad, .bad)

def addEnt (e : V × V) : Option Ob → Option Ob
  | some (.map es c ord) => some (.map (es ++ [(e.1, e.2, c)]) (Nat.succ c) (and ord (noEntry es)))
  | o => o

noncomputable def hAt (ops : Array Oper) (st : Nat → S) (frm : Nat → Fr) (lg : Nat → List (Nat × Bool)) (X : Nat → Prop) (id : Nat) : Nat → Option Ob
  | 0 => (st 0).h.get id
  | k + 1 => if X k ∧ Wr st lg k id then (if insAt ops.toList lg k = some id then addEnt (kvAt ops frm k) (hAt ops st frm lg X id k) else (st (k + 1)).h.get id) else hAt ops st frm lg X id k

noncomputable def tAt (frm : Nat → Fr) (ops : Array Oper) (X : Nat → Prop) (t : Tmp) : Nat → V
  | 0 => tmV (frm 0).tm t
  | k + 1 => if X k ∧ DstAt ops k t then tmV (frm (k + 1)).tm t else tAt frm ops X t k

theorem hAt_skip {X : Nat → Prop} {id j : Nat} : ∀ {m : Nat}, j ≤ m → (∀ k, j ≤ k → k < m → X k → ¬ Wr st lg k id) → hAt ops st frm lg X id m = hAt ops st frm lg X id j
  | 0, h, _ => by have : j = 0 := by omega
                  rw [this]
  | m + 1, h, hk => by
    by_cases e : j = m + 1
    · rw [e]
    · rw [hAt, if_neg (fun ⟨h1, h2⟩ => hk m (by omega) (by omega) h1 h2)]
      exact hAt_skip (by omega) (fun k h1 h2 => hk k h1 (by omega))

theorem hAt_congr {X Y : Nat → Prop} {id : Nat} : ∀ {m : Nat}, (∀ k, k < m → Wr st lg k id → (X k ↔ Y k)) → hAt ops st frm lg X id m = hAt ops st frm lg Y id m
  | 0, _ => rfl
  | m + 1, h => by
    have ih := hAt_congr (m := m) (fun k hk => h k (by omega))
    simp only [hAt]
    by_cases hw : Wr st lg m id
    · have := h m (by omega) hw
      by_cases hx : X m
      · have h1 : X m ∧ Wr st lg m id := ⟨hx, hw⟩
        have h2 : Y m ∧ Wr st lg m id := ⟨this.1 hx, hw⟩
        rw [if_pos h1, if_pos h2, ih]
      · rw [if_neg (fun h => hx h.1), if_neg (fun h => hx (this.2 h.1)), ih]
    · rw [if_neg (fun h => hw h.2), if_neg (fun h => hw h.2), ih]

theorem tAt_skip {X : Nat → Prop} {t j : Nat} : ∀ {m : Nat}, j ≤ m → (∀ k, j ≤ k → k < m → X k → ¬ DstAt ops k t) → tAt frm ops X t m = tAt frm ops X t j
  | 0, h, _ => by have : j = 0 := by omega
                  rw [this]
  | m + 1, h, hk => by
    by_cases e : j = m + 1
    · rw [e]
    · rw [tAt, if_neg (fun ⟨h1, h2⟩ => hk m (by omega) (by omega) h1 h2)]
      exact tAt_skip (by omega) (fun k h1 h2 => hk k h1 (by omega))

theorem tAt_congr {X Y : Nat → Prop} {t : Nat} : ∀ {m : Nat}, (∀ k, k < m → DstAt ops k t → (X k ↔ Y k)) → tAt frm ops X t m = tAt frm ops Y t m
  | 0, _ => rfl
  | m + 1, h => by
    have ih := tAt_congr (m := m) (fun k hk => h k (by omega))
    simp only [tAt]
    by_cases hw : DstAt ops m t
    · have := h m (by omega) hw
      by_cases hx : X m
      · rw [if_pos ⟨hx, hw⟩, if_pos ⟨this.1 hx, hw⟩]
      · rw [if_neg (fun h => hx h.1), if_neg (fun h => hx (this.2 h.1)), ih]
    · rw [if_neg (fun h => hw h.2), if_neg (fun h => hw h.2), ih]

structure Lay (E : Env) (P : Program) (G : MC → MC → Prop) (sf : Self) (cx : Cx) (ops : Array Oper) (p : Nat) (st : Nat → S) (frm : Nat → Fr) (lg : Nat → List (Nat × Bool)) : Prop where
  hE : EnvOk E P
  hs : SelfOk E P G sf
  hl : LSelf sf
  ok : opsOk ops.toList (beforeOf ops.toList) ops.toList 0 = true
  le : p ≤ ops.toList.length
  recs : ∀ k, k < p → RecAt E sf cx ops.toList st frm lg k
  rel : ∀ k j, k < j → j < p → relS (beforeOf ops.toList) (segAt ops.toList st frm lg k) (segAt ops.toList st frm lg j)
  imag : ∀ k, k ≤ p → ∃ φ w a, Rel φ (st k) w ∧ FrR φ cx (frm k) a

section
variable {E : Env} {P : Program} {G : MC → MC → Prop} {self : Self} {cx : Cx} {p : Nat} (L : Lay E P G self cx ops p st frm lg)
include L

theorem Lay.bound {k id : Nat} (hk : k ≤ p) (h : (st k).n ≤ id) : (st k).h.get id = none := by
  obtain ⟨φ, w, a, hrel, _⟩ := L.imag k hk
  cases hg : (st k).h.get id with
  | none => rfl
  | some o =>
    obtain ⟨l, hl, _⟩ := hrel.obj id o hg
    rw [hrel.dom id h] at hl; simp at hl

theorem Lay.step {k : Nat} (hk : k < p) : ∃ o, ops.toList[k]? = some o ∧ exec1 E self (drawCx cx) ops.toList o (frm k) ⟨(st k).h, (st k).n, []⟩ = .go (frm (k + 1)) ⟨(st (k + 1)).h, (st (k + 1)).n, lg k⟩ ∧
    (∀ id, Tch lg k id → id < (st k).n → (st k).h.get id ≠ none) ∧ (st k).n ≤ (st (k + 1)).n ∧ (∀ id, id < (st k).n → ¬ (id, true) ∈ lg k → (st (k + 1)).h.get id = (st k).h.get id) ∧
    ∀ (D : Nat → Prop) (s' : S), Sim D ⟨(st k).h, (st k).n, []⟩ s' → (∀ id, Tch lg k id → D id) → (∀ id, (st k).n ≤ id → D id) → ∃ t', exec1 E self (drawCx cx) ops.toList o (frm k) s' = .go (frm (k + 1)) t' ∧ Sim D ⟨(st (k + 1)).h, (st (k + 1)).n, lg k⟩ t' ∧ ∀ id, id < s'.n → ¬ Tch lg k id → t'.h.get id = s'.h.get id := by
  obtain ⟨o, h1, h2, h3⟩ := L.recs k hk
  obtain ⟨new, _, g1, g2⟩ := lcl_exec1 (E := E) (cx := drawCx cx) (fr := frm k) L.hl ops.toList o ⟨(st k).h, (st k).n, []⟩ ⟨(st (k + 1)).h, (st (k + 1)).n, lg k⟩ (by rw [h2]; rfl)
  have hlg : lg k = new := by have := g1.lg; simpa using this
  refine ⟨o, h1, h2, ?_, g1.n, ?_, ?_⟩
  · rintro id ⟨b, hb⟩ hlt
    exact aliveOk_spec.1 h3 (id, b) hb hlt
  · intro id hlt hn
    refine g1.same id hlt (fun q hq e => ?_)
    cases hq2 : q.2 with
    | false => rfl
    | true =>
      exfalso; apply hn
      rw [hlg]
      have : q = (id, true) := by cases q; simp only at e hq2; rw [e, hq2]
      rw [← this]; exact hq
  · intro D s' hS hD hN
    obtain ⟨t', k1, k2, k3⟩ := g2 D s' hS (fun q hq => hD q.1 ⟨q.2, by rw [hlg]; exact hq⟩) hN
    rw [h2] at k1
    exact ⟨t', k1, k2, fun id hid hT => k3.same id hid (fun q hq e => absurd ⟨q.2, by rw [hlg, ← e]; exact hq⟩ hT)⟩

theorem Lay.mono {k j : Nat} (h : k ≤ j) (hj : j ≤ p) : (st k).n ≤ (st j).n := by
  induction j with
  | zero => have : k = 0 := by omega
            rw [this]; exact Nat.le_refl _
  | succ j ih =>
    by_cases e : k = j + 1
    · rw [e]; exact Nat.le_refl _
    · obtain ⟨_, _, _, _, h1, _⟩ := L.step (k := j) (by omega)
      exact Nat.le_trans (ih (by omega) (by omega)) h1

/-- what is not written stays -/
theorem Lay.same {k id : Nat} (hk : k < p) (hw : ¬ Wr st lg k id) : (st (k + 1)).h.get id = (st k).h.get id := by
  obtain ⟨_, _, _, _, h1, h2, _⟩ := L.step hk
  by_cases hlt : id < (st k).n
  · exact h2 id hlt (fun hin => hw (.inl hin))
  · have hge : (st (k + 1)).n ≤ id := by
      rcases Nat.lt_or_ge id (st (k + 1)).n with h' | h'
      · exact absurd (.inr ⟨by omega, h'⟩) hw
      · exact h'
    rw [L.bound (Nat.le_of_lt hk) (by omega), L.bound hk hge]

structure InsRec (E : Env) (ops : Array Oper) (st : Nat → S) (frm : Nat → Fr) (lg : Nat → List (Nat × Bool)) (cx : Cx) (k r : Nat) (o : Oper) (t : TypeId) (m kx vx : Operand) (kt et : TypeId) (es : List (V × V × Nat)) (c : Nat) (ord : Bool) : Prop where
  op : o.op = .insert t m kx vx
  dst : o.dst = none
  guard : guardOk ops.toList (frm k) o.guard = true
  map : opd m (frm k) = .map (some r)
  desc : E.desc t = some (.map kt et)
  key : and (plainKey (E.desc kt)) (keyOk E kt (opd kx (frm k))) = true
  was : (st k).h.get r = some (.map es c ord)
  room : and ord (not (atMost1 es)) = false
  find : findV (keyEq E kt (opd kx (frm k))) es = some none
  is : (st (k + 1)).h.get r = some (.map (es ++ [(opd kx (frm k), opd vx (frm k), c)]) (Nat.succ c) (and ord (noEntry es)))
  n : (st (k + 1)).n = (st k).n
  lg : lg k = [(r, true), (r, false)]
  fr : frm (k + 1) = frm k

omit L in
theorem InsRec.plain {k r : Nat} {o : Oper} {t : TypeId} {m kx vx : Operand} {kt et : TypeId} {es : List (V × V × Nat)} {c : Nat} {ord : Bool} (I : InsRec E ops st frm lg cx k r o t m kx vx kt et es c ord) : plainKey (E.desc kt) = true := by
  have := I.key
  rw [Bool.and_eq_true] at this; exact this.1

omit L in
theorem insertAt_eval {t : TypeId} {x k v : V} {s s' : S} {o : OR} (h : (insertAt E t x k v).eval s = some (o, s')) :
    ∃ r kt et es c ord, x = .map (some r) ∧ E.desc t = some (.map kt et) ∧ and (plainKey (E.desc kt)) (keyOk E kt k) = true ∧ s.h.get r = some (.map es c ord) ∧ and ord (not (atMost1 es)) = false ∧
      findV (keyEq E kt k) es = some none ∧ o = .val undefV ∧ s' = (s.rd r).wr r (some (.map (es ++ [(k, v, c)]) (Nat.succ c) (and ord (noEntry es)))) := by
  unfold insertAt at h
  split at h
  · rename_i r
    split at h
    · rename_i kt et hd
      cases hko : and (plainKey (E.desc kt)) (keyOk E kt k) with
      | false => rw [hko] at h; simp [Q.eval] at h
      | true =>
        rw [hko] at h
        simp only [cond_true, Q.eval] at h
        split at h
        · rename_i ob hob
          unfold insertIn at h
          split at h
          · rename_i es c ord
            cases hone : and ord (not (atMost1 es)) with
            | true => rw [hone] at h; simp [Q.eval] at h
            | false =>
              rw [hone] at h
              simp only [cond_false] at h
              split at h
              · rename_i hf
                simp only [Q.eval, retV, Option.some.injEq, Prod.mk.injEq] at h
                exact ⟨r, kt, et, es, c, ord, rfl, hd, hko, hob, hone, hf, h.1.symm, h.2.symm⟩
              · simp [Q.eval] at h
          · simp [Q.eval] at h
        · simp at h
    · simp [Q.eval] at h
  · simp [Q.eval] at h

omit L in
theorem insertAt_eval_of {t : TypeId} {k v : V} {s : S} {r kt et c : Nat} {es : List (V × V × Nat)} {ord : Bool} (h1 : E.desc t = some (.map kt et)) (h2 : and (plainKey (E.desc kt)) (keyOk E kt k) = true)
    (h3 : s.h.get r = some (.map es c ord)) (h4 : and ord (not (atMost1 es)) = false) (h5 : findV (keyEq E kt k) es = some none) :
    (insertAt E t (.map (some r)) k v).eval s = some (.val undefV, (s.rd r).wr r (some (.map (es ++ [(k, v, c)]) (Nat.succ c) (and ord (noEntry es))))) := by
  simp only [insertAt, h1, h2, cond_true, Q.eval, h3, insertIn, h4, cond_false, h5, retV]

omit L in
theorem insLg_spec {l : List (Nat × Bool)} {r : Nat} (h : insLg l = some r) : l = [(r, true), (r, false)] := by
  unfold insLg at h
  split at h
  · rename_i a b
    cases hb : Nat.beq a b with
    | false => rw [hb] at h; simp at h
    | true =>
      rw [hb] at h
      simp only [cond_true, Option.some.injEq] at h
      have : a = b := by simpa using hb
      subst this; subst h; rfl
  · simp at h

theorem Lay.ins {k r : Nat} (hk : k < p) (hr : insAt ops.toList lg k = some r) : ∃ o t m kx vx kt et es c ord, ops.toList[k]? = some o ∧ InsRec E ops st frm lg cx k r o t m kx vx kt et es c ord := by
  obtain ⟨o, h1, h2, _⟩ := L.step hk
  have hr' : insOf o (lg k) = some r := by simpa [insAt, h1] using hr
  unfold insOf at hr'
  cases hb : and (isInsert o.op) (noDst o.dst) with
  | false => rw [hb] at hr'; simp at hr'
  | true =>
    rw [hb] at hr'
    simp only [cond_true] at hr'
    rw [Bool.and_eq_true] at hb
    have hlg := insLg_spec hr'
    have hdst : o.dst = none := by
      cases hd : o.dst with
      | none => rfl
      | some d => rw [hd] at hb; simp [noDst] at hb
    cases hop : o.op <;> (try (rw [hop] at hb; simp [isInsert] at hb; done))
    rename_i t m kx vx
    unfold exec1 at h2
    cases hy : guardOk ops.toList (frm k) o.guard with
    | false =>
      rw [hy] at h2
      simp only [cond_false] at h2
      cases hn : guardNot ops.toList (frm k) o.guard with
      | false => rw [hn] at h2; simp at h2
      | true =>
        rw [hn] at h2
        simp only [cond_true, O1.go.injEq, S.mk.injEq] at h2
        rw [hlg] at h2
        simp at h2
    | true =>
      rw [hy] at h2
      simp only [cond_true] at h2
      rcases Q.run_cases O1.fail (after self (drawCx cx) (frm k) o.dst) (exec o.op E (frm k)) ⟨(st k).h, (st k).n, []⟩ with ⟨why, e⟩ | ⟨r', s', he, e⟩
      · rw [e] at h2; simp at h2
      · rw [e] at h2
        rw [hop] at he
        obtain ⟨r1, kt, et, es, c, ord, g1, g2, g3, g4, g5, g6, rfl, rfl⟩ := insertAt_eval (E := E) he
        simp only [after, O1.go.injEq, S.mk.injEq, S.wr, S.rd] at h2
        obtain ⟨e1, e2, e3, e4⟩ := h2
        rw [hlg] at e4
        simp only [List.cons.injEq, Prod.mk.injEq, and_true] at e4
        obtain rfl : r1 = r := e4.1
        refine ⟨o, t, m, kx, vx, kt, et, es, c, ord, h1, hop, hdst, hy, g1, g2, g3, g4, g5, g6, ?_, e3.symm, hlg, ?_⟩
        · rw [← e2, Tr.get_put, if_pos rfl]
        · rw [← e1, hdst]; rfl

theorem Lay.add {k r : Nat} (hk : k < p) (hr : insAt ops.toList lg k = some r) : (st (k + 1)).h.get r = addEnt (kvAt ops frm k) ((st k).h.get r) := by
  obtain ⟨o, t, m, kx, vx, kt, et, es, c, ord, h1, I⟩ := L.ins hk hr
  rw [I.is, I.was]
  simp [addEnt, kvAt, h1, I.op]

omit L in
theorem lookLg_spec {l : List (Nat × Bool)} {r : Nat} (h : lookLg l = some r) : l = [(r, false)] := by
  unfold lookLg at h
  split at h
  · cases h; rfl
  · cases h

omit L in
theorem leMk_spec {b b' : Bool} {t t' r : Nat} {k k' : V} {o : Option Nat} (h : leMk b t k o = some (b', t', r, k')) : b = b' ∧ t = t' ∧ k = k' ∧ o = some r := by
  cases o with
  | none => simp [leMk] at h
  | some r => simp only [leMk, Option.some.injEq, Prod.mk.injEq] at h; exact ⟨h.1, h.2.1, h.2.2.2, by rw [h.2.2.1]⟩

/-- what a look-up gives -/
def foundV (te : TI) : Option (V × Nat) → V
  | some p => p.1
  | none => zeroOf te

structure LookRec (E : Env) (ops : Array Oper) (st : Nat → S) (frm : Nat → Fr) (lg : Nat → List (Nat × Bool)) (cx : Cx) (k r : Nat) (o : Oper) (t : TypeId) (m kx : Operand) (kt et : TypeId) (te : TI) (es : List (V × V × Nat)) (c : Nat) (ord : Bool) (res : Option (V × Nat)) : Prop where
  op : o.op = .lookup t m kx false
  guard : guardOk ops.toList (frm k) o.guard = true
  map : opd m (frm k) = .map (some r)
  desc : E.desc t = some (.map kt et)
  elem : E.ty et = some te
  key : keyOk E kt (opd kx (frm k)) = true
  was : (st k).h.get r = some (.map es c ord)
  room : or ord (plainKey (E.desc kt)) = true
  find : findV (keyEq E kt (opd kx (frm k))) es = some res
  h : (st (k + 1)).h = (st k).h
  n : (st (k + 1)).n = (st k).n
  lg : lg k = [(r, false)]
  fr : frm (k + 1) = setTm cx (frm k) (foundV te res) o.dst

structure EntRec (E : Env) (ops : Array Oper) (st : Nat → S) (frm : Nat → Fr) (lg : Nat → List (Nat × Bool)) (k r : Nat) (o : Oper) (t : TypeId) (m kx : Operand) (kt et : TypeId) (te : TI) (es : List (V × V × Nat)) (c : Nat) : Prop where
  op : o.op = .mapEntry t m kx
  desc : E.desc t = some (.map kt et)
  elem : E.ty et = some te
  was : (st k).h.get r = some (.map es c true)
  is : (st (k + 1)).h.get r = some (.map (es ++ [(opd kx (frm k), zeroOf te, c)]) (Nat.succ c) true)
  n : (st (k + 1)).n = (st k).n
  lg : lg k = [(r, true), (r, false)]

omit L in
theorem lookupAt_eval {t : TypeId} {x k : V} {s s' : S} {o : OR} (h : (lookupAt E t x k false).eval s = some (o, s')) :
    (x = .map none ∧ s' = s ∧ ∃ v, o = .val v) ∨ ∃ r kt et te es c ord res, x = .map (some r) ∧ E.desc t = some (.map kt et) ∧ E.ty et = some te ∧ keyOk E kt k = true ∧ s.h.get r = some (.map es c ord) ∧ or ord (plainKey (E.desc kt)) = true ∧
      findV (keyEq E kt k) es = some res ∧ o = .val (foundV te res) ∧ s' = s.rd r := by
  unfold lookupAt at h
  split at h
  · rename_i kt et hd
    split at h
    · simp [Q.eval] at h
    · rename_i te hte
      cases hko : keyOk E kt k with
      | false => rw [hko] at h; simp [Q.eval] at h
      | true =>
        rw [hko, cond_true] at h
        split at h
        · simp only [Q.eval, retV, Option.some.injEq, Prod.mk.injEq] at h
          exact .inl ⟨rfl, h.2.symm, _, h.1.symm⟩
        · rename_i r
          simp only [Q.eval] at h
          split at h
          · rename_i ob hob
            unfold lookupIn at h
            split at h
            · rename_i es c ord
              cases hor : or ord (plainKey (E.desc kt)) with
              | false => rw [hor] at h; simp [Q.eval] at h
              | true =>
                rw [hor, cond_true] at h
                split at h
                · rename_i v b hf
                  simp only [Q.eval, retV, Option.some.injEq, Prod.mk.injEq] at h
                  exact .inr ⟨r, kt, et, te, es, c, ord, some (v, b), rfl, hd, hte, hko, hob, hor, hf, h.1.symm, h.2.symm⟩
                · rename_i hf
                  simp only [Q.eval, retV, Option.some.injEq, Prod.mk.injEq] at h
                  exact .inr ⟨r, kt, et, te, es, c, ord, none, rfl, hd, hte, hko, hob, hor, hf, h.1.symm, h.2.symm⟩
                · simp [Q.eval] at h
            · simp [Q.eval] at h
          · simp at h
        · simp [Q.eval] at h
  · simp [Q.eval] at h

omit L in
theorem lookupAt_eval_of {t : TypeId} {k : V} {s : S} {r kt et c : Nat} {te : TI} {es : List (V × V × Nat)} {ord : Bool} {res : Option (V × Nat)} (h1 : E.desc t = some (.map kt et)) (h2 : E.ty et = some te) (h3 : keyOk E kt k = true)
    (h4 : s.h.get r = some (.map es c ord)) (h5 : or ord (plainKey (E.desc kt)) = true) (h6 : findV (keyEq E kt k) es = some res) :
    (lookupAt E t (.map (some r)) k false).eval s = some (.val (foundV te res), s.rd r) := by
  simp only [lookupAt, h1, h2, h3, cond_true, Q.eval, h4, lookupIn, h5, h6]
  cases res <;> rfl

theorem Lay.look {k t r : Nat} {kv : V} (hk : k < p) (hr : leAt ops.toList frm lg k = some (true, t, r, kv)) :
    ∃ o m kx kt et te es c ord res, ops.toList[k]? = some o ∧ kv = opd kx (frm k) ∧ LookRec E ops st frm lg cx k r o t m kx kt et te es c ord res := by
  obtain ⟨o, h1, h2, _⟩ := L.step hk
  have hr' : leOf o (frm k) (lg k) = some (true, t, r, kv) := by simpa [leAt, h1] using hr
  unfold leOf at hr'
  split at hr'
  · rename_i t' m kx ok hop
    cases ok with
    | true => simp at hr'
    | false =>
      simp only [cond_false] at hr'
      obtain ⟨_, rfl, rfl, hlg⟩ := leMk_spec hr'
      have hlg := lookLg_spec hlg
      unfold exec1 at h2
      cases hy : guardOk ops.toList (frm k) o.guard with
      | false =>
        rw [hy] at h2
        simp only [cond_false] at h2
        cases hn : guardNot ops.toList (frm k) o.guard with
        | false => rw [hn] at h2; simp at h2
        | true =>
          rw [hn] at h2
          simp only [cond_true, O1.go.injEq, S.mk.injEq] at h2
          rw [hlg] at h2
          simp at h2
      | true =>
        rw [hy] at h2
        simp only [cond_true] at h2
        rcases Q.run_cases O1.fail (after self (drawCx cx) (frm k) o.dst) (exec o.op E (frm k)) ⟨(st k).h, (st k).n, []⟩ with ⟨why, e⟩ | ⟨r', s', he, e⟩
        · rw [e] at h2; simp at h2
        · rw [e] at h2
          rw [hop] at he
          rcases lookupAt_eval (E := E) he with ⟨_, rfl, v, rfl⟩ | ⟨r1, kt, et, te, es, c, ord, res, g1, g2, g3, g4, g5, g6, g7, rfl, rfl⟩
          · exfalso
            simp only [after, O1.go.injEq, S.mk.injEq] at h2
            rw [hlg] at h2
            simp at h2
          · simp only [after, O1.go.injEq, S.mk.injEq, S.rd] at h2
            obtain ⟨e1, e2, e3, e4⟩ := h2
            rw [hlg] at e4
            simp only [List.cons.injEq, Prod.mk.injEq, and_true] at e4
            obtain rfl : r1 = r := e4
            exact ⟨o, m, kx, kt, et, te, es, c, ord, res, h1, rfl, hop, hy, g1, g2, g3, g4, g5, g6, g7, e2.symm, e3.symm, hlg, e1.symm⟩
  · obtain ⟨e, _⟩ := leMk_spec hr'
    cases e
  · cases hr'

omit L in
theorem mapEntryAt_eval {t : TypeId} {x k : V} {s s' : S} {o : OR} (h : (mapEntryAt E t x k).eval s = some (o, s')) :
    (∃ r v, s' = s.rd r ∧ o = .val v) ∨ ∃ r kt et te es c v, x = .map (some r) ∧ E.desc t = some (.map kt et) ∧ E.ty et = some te ∧ s.h.get r = some (.map es c true) ∧ o = .val v ∧
      s' = (s.rd r).wr r (some (.map (es ++ [(k, zeroOf te, c)]) (Nat.succ c) true)) := by
  unfold mapEntryAt at h
  split at h
  · rename_i r
    split at h
    · rename_i kt et hd
      split at h
      · rename_i te hte
        cases hko : keyOk E kt k with
        | false => rw [hko] at h; simp [Q.eval] at h
        | true =>
          rw [hko] at h
          simp only [cond_true, Q.eval] at h
          split at h
          · rename_i ob hob
            unfold mapEntryIn at h
            split at h
            · rename_i es c
              split at h
              · simp only [Q.eval, retV, Option.some.injEq, Prod.mk.injEq] at h
                exact .inl ⟨r, _, h.2.symm, h.1.symm⟩
              · simp only [Q.eval, retV, Option.some.injEq, Prod.mk.injEq] at h
                exact .inr ⟨r, kt, et, te, es, c, _, rfl, hd, hte, hob, h.1.symm, h.2.symm⟩
              · simp [Q.eval] at h
            · simp [Q.eval] at h
          · simp at h
      · simp [Q.eval] at h
    · simp [Q.eval] at h
  · simp [Q.eval] at h

theorem Lay.ent {k t r : Nat} {kv : V} (hk : k < p) (hr : leAt ops.toList frm lg k = some (false, t, r, kv)) :
    ∃ o m kx kt et te es c, ops.toList[k]? = some o ∧ kv = opd kx (frm k) ∧ EntRec E ops st frm lg k r o t m kx kt et te es c := by
  obtain ⟨o, h1, h2, _⟩ := L.step hk
  have hr' : leOf o (frm k) (lg k) = some (false, t, r, kv) := by simpa [leAt, h1] using hr
  unfold leOf at hr'
  split at hr'
  · rename_i t' m kx ok hop
    cases ok with
    | true => simp at hr'
    | false => obtain ⟨e, _⟩ := leMk_spec hr'; cases e
  · rename_i t' m kx hop
    obtain ⟨_, rfl, rfl, hlg⟩ := leMk_spec hr'
    have hlg := insLg_spec hlg
    unfold exec1 at h2
    cases hy : guardOk ops.toList (frm k) o.guard with
    | false =>
      rw [hy] at h2
      simp only [cond_false] at h2
      cases hn : guardNot ops.toList (frm k) o.guard with
      | false => rw [hn] at h2; simp at h2
      | true =>
        rw [hn] at h2
        simp only [cond_true, O1.go.injEq, S.mk.injEq] at h2
        rw [hlg] at h2
        simp at h2
    | true =>
      rw [hy] at h2
      simp only [cond_true] at h2
      rcases Q.run_cases O1.fail (after self (drawCx cx) (frm k) o.dst) (exec o.op E (frm k)) ⟨(st k).h, (st k).n, []⟩ with ⟨why, e⟩ | ⟨r', s', he, e⟩
      · rw [e] at h2; simp at h2
      · rw [e] at h2
        rw [hop] at he
        rcases mapEntryAt_eval (E := E) he with ⟨r1, v, rfl, rfl⟩ | ⟨r1, kt, et, te, es, c, v, g1, g2, g3, g4, rfl, rfl⟩
        · exfalso
          simp only [after, O1.go.injEq, S.mk.injEq, S.rd] at h2
          rw [hlg] at h2
          simp at h2
        · simp only [after, O1.go.injEq, S.mk.injEq, S.rd, S.wr] at h2
          obtain ⟨e1, e2, e3, e4⟩ := h2
          rw [hlg] at e4
          simp only [List.cons.injEq, Prod.mk.injEq, and_true] at e4
          obtain rfl : r1 = r := e4.1
          refine ⟨o, m, kx, kt, et, te, es, c, h1, rfl, hop, g2, g3, g4, ?_, e3.symm, hlg⟩
          rw [← e2, Tr.get_put, if_pos rfl]
  · cases hr'

theorem Lay.hAt_eq {X : Nat → Prop} {id : Nat} : ∀ {j : Nat}, j ≤ p → (∀ k, k < j → Wr st lg k id → X k) → hAt ops st frm lg X id j = (st j).h.get id
  | 0, _, _ => rfl
  | j + 1, hj, h => by
    simp only [hAt]
    by_cases hw : Wr st lg j id
    · rw [if_pos ⟨h j (by omega) hw, hw⟩]
      by_cases hi : insAt ops.toList lg j = some id
      · rw [if_pos hi, Lay.hAt_eq (j := j) (by omega) (fun k hk => h k (by omega))]
        exact (L.add (by omega) hi).symm
      · rw [if_neg hi]
    · rw [if_neg (fun h => hw h.2), Lay.hAt_eq (j := j) (by omega) (fun k hk => h k (by omega))]
      exact (L.same (by omega) hw).symm

theorem Lay.put {k : Nat} (hk : k < p) {o : Oper} (ho : ops.toList[k]? = some o) : ∃ v, frm (k + 1) = setTm cx (frm k) v o.dst := by
  obtain ⟨o', h1, h2, _⟩ := L.step hk
  rw [ho] at h1; cases h1
  obtain ⟨v, h, _⟩ := exec1_other (fr' := frm k) h2 (fun _ _ => rfl) (fun _ _ => rfl)
  exact ⟨v, h⟩

theorem Lay.tAt_eq {X : Nat → Prop} {t : Tmp} : ∀ {j : Nat}, j ≤ p → (∀ k, k < j → DstAt ops k t → X k) → tAt frm ops X t j = tmV (frm j).tm t
  | 0, _, _ => rfl
  | j + 1, hj, h => by
    simp only [tAt]
    by_cases hw : DstAt ops j t
    · rw [if_pos ⟨h j (by omega) hw, hw⟩]
    · rw [if_neg (fun h => hw h.2), Lay.tAt_eq (j := j) (by omega) (fun k hk => h k (by omega))]
      obtain ⟨o, h1, _⟩ := L.step (k := j) (by omega)
      obtain ⟨v, hv⟩ := L.put (by omega) h1
      rw [hv]
      cases hd : o.dst with
      | none => rfl
      | some d =>
        have hne : ¬ t = d := fun e => hw ⟨o, h1, by rw [hd, e]⟩
        simp only [setTm, putTm]
        cases Nat.ble (Nat.succ d) cx.nt with
        | false => rfl
        | true => simp only [cond_true, tmV, Tr.get_put, if_neg hne]

theorem Lay.const {k : Nat} (hk : k ≤ p) : (frm k).ds = (frm 0).ds ∧ (frm k).rc = (frm 0).rc ∧ (frm k).ng = (frm 0).ng := by
  induction k with
  | zero => exact ⟨rfl, rfl, rfl⟩
  | succ k ih =>
    obtain ⟨o, h1, _⟩ := L.step (k := k) (by omega)
    obtain ⟨v, hv⟩ := L.put (by omega) h1
    obtain ⟨i1, i2, i3⟩ := ih (by omega)
    rw [hv]
    cases o.dst <;> exact ⟨i1, i2, i3⟩

theorem Lay.opOk {j : Nat} {o : Oper} (ho : ops.toList[j]? = some o) : plainOp o.op = true ∧ (∀ i ∈ edgesOf o, i < j) ∧ ∀ (k : Nat) (a : Oper), ops.toList[k]? = some a → k < j → ordered (beforeOf ops.toList) k j = true ∨ apartT ops.toList a o = true := by
  obtain ⟨h1, h2, h3⟩ := opsOk_spec L.ok j o ho
  rw [Nat.zero_add] at h2 h3
  refine ⟨h1, below_spec h2, fun k a ha hlt => ?_⟩
  have := tempsAt_spec h3 k a ha (by omega)
  rw [Nat.zero_add] at this; exact this

/-- some operations are done; all that come ahead of them too -/
structure Cut (ops : Array Oper) (p : Nat) (X : Nat → Prop) : Prop where
  sub : ∀ k, X k → k < p
  closed : ∀ (k : Nat) (o : Oper), ops.toList[k]? = some o → X k → ∀ e ∈ edgesOf o, X e

omit L in
theorem Cut.add {X : Nat → Prop} {j : Nat} {o : Oper} (h : Cut ops p X) (hj : j < p) (ho : ops.toList[j]? = some o) (he : ∀ i ∈ edgesOf o, X i) : Cut ops p (fun i => X i ∨ i = j) where
  sub k hk := hk.elim (h.sub k) (fun e => e ▸ hj)
  closed k o' ho' hk e hin := by
    rcases hk with hk | rfl
    · exact .inl (h.closed k o' ho' hk e hin)
    · rw [ho] at ho'; cases ho'; exact .inl (he e hin)

theorem Lay.before {X : Nat → Prop} (h : Cut ops p X) {i j : Nat} {o : Oper} (ho : ops.toList[j]? = some o) (he : ∀ k ∈ edgesOf o, X k) (hb : ordered (beforeOf ops.toList) i j = true) : X i :=
  ordered_in ho he h.closed (fun k hk => Nat.lt_of_lt_of_le (h.sub k hk) L.le) hb

theorem Lay.before' {X : Nat → Prop} (h : Cut ops p X) {i j : Nat} (hj : X j) (hb : ordered (beforeOf ops.toList) i j = true) : X i := by
  have hlt : j < ops.toList.length := Nat.lt_of_lt_of_le (h.sub j hj) L.le
  have ho : ops.toList[j]? = some ops.toList[j] := by simp [hlt]
  exact L.before h ho (h.closed j _ ho hj) hb

variable {X : Nat → Prop} (hX : Cut ops p X) {j : Nat} {o : Oper} (hj : j < p) (hn : ¬ X j) (ho : ops.toList[j]? = some o) (he : ∀ k ∈ edgesOf o, X k)
include hX hj hn ho he

theorem Lay.apart1 {k : Nat} (hk : k < j) (hx : ¬ X k) : apartOk (segAt ops.toList st frm lg k) (segAt ops.toList st frm lg j) = true :=
  (L.rel k j hk hj).resolve_left (fun h => hx (L.before hX ho he h))

theorem Lay.apart2 {k : Nat} (hk : j < k) (hx : X k) : apartOk (segAt ops.toList st frm lg j) (segAt ops.toList st frm lg k) = true :=
  (L.rel j k hk (hX.sub k hx)).resolve_left (fun h => hn (L.before' hX hx h))

omit hX hj hn ho he in
/-- a look-up writes nothing -/
theorem Lay.look_wr {k : Nat} (hk : k < p) {a : Option (Bool × Nat × Nat × V)} (h : lookEnt (leAt ops.toList frm lg k) a = true) {id : Nat} (hw : Wr st lg k id) : False := by
  cases hle : leAt ops.toList frm lg k with
  | none => rw [hle] at h; simp [lookEnt] at h
  | some x =>
    obtain ⟨b, t, r, kv⟩ := x
    cases b with
    | false => rw [hle] at h; simp [lookEnt] at h
    | true =>
    obtain ⟨o, m, kx, kt, et, te, es, c, ord, res, _, _, I⟩ := L.look hk hle
    rcases hw with hw | hw
    · rw [I.lg] at hw; simp at hw
    · have := I.n; omega

/-- neither a look-up nor none -/
def NoLook (o : Option (Bool × Nat × Nat × V)) : Prop := ∀ t r k, o ≠ some (true, t, r, k)

omit L hX hj hn ho he in
theorem lookEnt_no {a b : Option (Bool × Nat × Nat × V)} (h : NoLook a) : lookEnt a b = false := by
  cases a with
  | none => rfl
  | some x =>
    obtain ⟨b', t, r, k⟩ := x
    cases b' with
    | true => exact absurd rfl (h t r k)
    | false => rfl

theorem Lay.old (hni : insAt ops.toList lg j = none) (hnl : NoLook (leAt ops.toList frm lg j)) {id : Nat} (ht : Tch lg j id) (hlt : id < (st j).n) : hAt ops st frm lg X id p = (st j).h.get id := by
  obtain ⟨b, hb⟩ := ht
  rw [hAt_skip (j := j) (Nat.le_of_lt hj) ?_, L.hAt_eq (Nat.le_of_lt hj) ?_]
  · intro k hk hw
    refine Classical.byContradiction fun hx => ?_
    cases hle : lookEnt (segAt ops.toList st frm lg k).le (segAt ops.toList st frm lg j).le with
    | true => exact L.look_wr (by omega) hle hw
    | false =>
    obtain ⟨a1, _, a3, _⟩ := apartOk_spec (L.apart1 hX hj hn ho he hk hx) (by show sameIns _ (insAt _ _ j) = false; rw [hni]; exact sameIns_none _) hle
    rcases hw with hw | hw
    · exact a3 id hw _ hb rfl
    · exact a1 _ hb hw
  · intro k h1 h2 hx hw
    have hne : k ≠ j := fun e => hn (e ▸ hx)
    have hlt' : j < k := by omega
    obtain ⟨_, _, _, a4⟩ := apartOk_spec (L.apart2 hX hj hn ho he hlt' hx) (by show sameIns (insAt _ _ j) _ = false; rw [hni]; rfl) (lookEnt_no hnl)
    rcases hw with hw | hw
    · exact a4 id hw _ hb rfl
    · have := L.mono (k := j) (j := k) (by omega) (by omega)
      omega

theorem Lay.new (hni : insAt ops.toList lg j = none) (hnl : NoLook (leAt ops.toList frm lg j)) {id : Nat} (hw : Wr st lg j id) : hAt ops st frm lg (fun i => X i ∨ i = j) id p = (st (j + 1)).h.get id := by
  rw [hAt_skip (j := j + 1) hj ?_, hAt, if_pos ⟨.inr rfl, hw⟩, if_neg (by rw [hni]; simp)]
  intro k h1 h2 hx hw'
  have hx : X k := hx.resolve_right (by omega)
  obtain ⟨a1, a2, a3, a4⟩ := apartOk_spec (L.apart2 hX hj hn ho he (by omega) hx) (by show sameIns (insAt _ _ j) _ = false; rw [hni]; rfl) (lookEnt_no hnl)
  rcases hw with hw | hw
  · rcases hw' with hw' | hw'
    · exact a3 id hw _ hw' rfl
    · exact a2 _ hw hw'
  · rcases hw' with hw' | hw'
    · exact a1 _ hw' hw
    · have := L.mono (k := j + 1) (j := k) (by omega) (by omega)
      omega

omit L ho he hX hj hn in
theorem Lay.other {id : Nat} (hw : ¬ Wr st lg j id) : hAt ops st frm lg (fun i => X i ∨ i = j) id p = hAt ops st frm lg X id p :=
  hAt_congr fun k hk hwk => ⟨fun h => h.resolve_right (fun e => hw (e ▸ hwk)), .inl⟩

theorem Lay.tmOld {t : Tmp} (ht : t ∈ namesOf ops.toList o) : tAt frm ops X t p = tmV (frm j).tm t := by
  rw [tAt_skip (j := j) (Nat.le_of_lt hj) ?_, L.tAt_eq (Nat.le_of_lt hj) ?_]
  · rintro k hk ⟨o', ho', hd⟩
    refine Classical.byContradiction fun hx => ?_
    rcases (L.opOk ho).2.2 k o' ho' hk with h | h
    · exact hx (L.before hX ho he h)
    · simp only [apartT, Bool.and_eq_true] at h
      exact notNamed_spec h.1 t hd ht
  · rintro k h1 h2 hx ⟨o', ho', hd⟩
    have hne : k ≠ j := fun e => hn (e ▸ hx)
    rcases (L.opOk ho').2.2 j o ho (by omega) with h | h
    · exact hn (L.before' hX hx h)
    · simp only [apartT, Bool.and_eq_true] at h
      exact notNamed_spec h.2 t hd ht

theorem Lay.tmNew {t : Tmp} (ht : o.dst = some t) : tAt frm ops (fun i => X i ∨ i = j) t p = tmV (frm (j + 1)).tm t := by
  rw [tAt_skip (j := j + 1) hj ?_, tAt, if_pos ⟨.inr rfl, o, ho, ht⟩]
  rintro k h1 h2 hx ⟨o', ho', hd⟩
  have hx : X k := hx.resolve_right (by omega)
  rcases (L.opOk ho').2.2 j o ho (by omega) with h | h
  · exact hn (L.before' hX hx h)
  · simp only [apartT, Bool.and_eq_true] at h
    exact notNamed_spec h.2 t hd (by simp [namesOf, ht, optL])

omit L he hX hj hn in
theorem Lay.tmOther {t : Tmp} (ht : o.dst ≠ some t) : tAt frm ops (fun i => X i ∨ i = j) t p = tAt frm ops X t p :=
  tAt_congr fun k hk ⟨o', ho', hd⟩ => ⟨fun h => h.resolve_right (fun e => by subst e; rw [ho] at ho'; cases ho'; exact ht hd), .inl⟩

end
end
end Go.AM

namespace Go.AM
open Go
set_option linter.unusedVariables false
set_option linter.unusedSimpArgs false
open Classical

section
variable {st : Nat → S} {frm : Nat → Fr} {lg : Nat → List (Nat × Bool)} {ops : Array Oper} {E : Env} {P : Program} {G : MC → MC → Prop} {self : Self} {cx : Cx} {p : Nat} {φ₀ : Map} {w₀ : World}

structure Inv (ops : Array Oper) (cx : Cx) (p : Nat) (st : Nat → S) (frm : Nat → Fr) (lg : Nat → List (Nat × Bool)) (φ₀ : Map) (w₀ : World) (X : Nat → Prop) (φ : Map) (a : Act) (w : World) : Prop where
  rel : Rel φ ⟨trOf (st p).n (fun id => hAt ops st frm lg X id p), (st p).n, []⟩ w
  gap : ∀ k, k < p → ¬ X k → ∀ id, (st k).n ≤ id → id < (st (k + 1)).n → φ id = none
  size : a.tmps.size = cx.nt
  tm : ∀ t, VR φ (tAt frm ops X t p) (a.tmps.getD t undef)
  ds : DsR φ (frm 0).ds a.defers
  keep : Keep φ₀ w₀ φ w

/-- how the map is cut to what an operation may know -/
noncomputable def cutMap (φ : Map) (lo : Nat) (T : Nat → Prop) : Map :=
  ⟨fun id => if id < lo then (match φ id with
    | some l => some (if T id then l else ⟨l.blk, l.base, l.ccap, l.esz, true⟩)
    | none => none) else none, fun id => id < lo ∧ φ id = none⟩

theorem cutMap_some {φ : Map} {lo : Nat} {T : Nat → Prop} {id : Nat} {l' : Loc} (h : cutMap φ lo T id = some l') :
    id < lo ∧ ∃ l, φ id = some l ∧ l.core l' ∧ (T id → l' = l) ∧ (l'.ro = false → T id ∧ l' = l) := by
  by_cases hlt : id < lo
  · have h : (if id < lo then (match φ id with
      | some l => some (if T id then l else ⟨l.blk, l.base, l.ccap, l.esz, true⟩)
      | none => none) else none) = some l' := h
    rw [if_pos hlt] at h
    cases hp : φ id with
    | none => rw [hp] at h; simp at h
    | some l =>
      rw [hp] at h
      simp only [Option.some.injEq] at h
      refine ⟨hlt, l, rfl, ?_⟩
      by_cases ht : T id
      · rw [if_pos ht] at h; subst h
        exact ⟨.refl _, fun _ => rfl, fun _ => ⟨ht, rfl⟩⟩
      · rw [if_neg ht] at h; subst h
        exact ⟨⟨rfl, rfl, rfl, rfl⟩, fun h => absurd h ht, fun h => by simp at h⟩
  · have h : (if id < lo then (match φ id with
      | some l => some (if T id then l else ⟨l.blk, l.base, l.ccap, l.esz, true⟩)
      | none => none) else none) = some l' := h
    rw [if_neg hlt] at h; simp at h

theorem cutMap_of {φ : Map} {lo : Nat} {T : Nat → Prop} {id : Nat} {l : Loc} (hlt : id < lo) (h : φ id = some l) : ∃ l', cutMap φ lo T id = some l' ∧ l.core l' ∧ (T id → l' = l) := by
  refine ⟨if T id then l else ⟨l.blk, l.base, l.ccap, l.esz, true⟩, ?_, ?_, ?_⟩
  · show (if id < lo then (match φ id with
      | some l => some (if T id then l else ⟨l.blk, l.base, l.ccap, l.esz, true⟩)
      | none => none) else none) = _
    rw [if_pos hlt, h]
  · split
    · exact .refl _
    · exact ⟨rfl, rfl, rfl, rfl⟩
  · intro ht; rw [if_pos ht]

/-- the state as some operations have left it -/
noncomputable def atS (ops : Array Oper) (p : Nat) (st : Nat → S) (frm : Nat → Fr) (lg : Nat → List (Nat × Bool)) (X : Nat → Prop) : S := ⟨trOf (st p).n (fun id => hAt ops st frm lg X id p), (st p).n, []⟩

/-- what stays the same for the counter -/
theorem cnt_eq {s t : S} (h : ∀ i, E.oid = some i → cntAt (s.h.get i) = cntAt (t.h.get i)) : cnt E s = cnt E t := by
  unfold cnt
  cases hi : E.oid with
  | none => rfl
  | some i => exact h i hi

theorem draw_step {L : Lay E P G self cx ops p st frm lg} {X : Nat → Prop} {φ : Map} {a : Act} {w : World} {b : Frame} {k : List Item} {cs : List Frame} {rest : List Nat} {j : Nat} {o : Oper}
    (hg : GlobOk E.ng φ₀) (hgf : GlobOk (frm 0).ng φ₀) (hrel₀ : Rel φ₀ (st 0) w₀) (hI : Inv ops cx p st frm lg φ₀ w₀ X φ a w) (hX : Cut ops p X) (hj : j < p) (hn : ¬ X j) (ho : ops.toList[j]? = some o) (he : ∀ i ∈ edgesOf o, X i) (hni : insAt ops.toList lg j = none) (hnl : NoLook (leAt ops.toList frm lg j)) (hoid : oidOk E.oid (st 0).n = true) :
    ∃ φ' a' w', Inv ops cx p st frm lg φ₀ w₀ (fun i => X i ∨ i = j) φ' a' w' ∧ G (lone (Frame.put b a (.inRegion ops (j :: rest) :: k)) cs w, cnt E (atS ops p st frm lg X)) (lone (Frame.put b a' (.inRegion ops rest :: k)) cs w', cnt E (atS ops p st frm lg (fun i => X i ∨ i = j))) := by
  obtain ⟨o', ho', hx, halive, hmono, hsame, hloc⟩ := L.step hj
  rw [ho] at ho'; cases ho'
  have hbd := fun id (h : (st j).n ≤ id) => L.bound (k := j) (Nat.le_of_lt hj) h
  have hlo0 : (st 0).n ≤ (st j).n := L.mono (Nat.zero_le _) (Nat.le_of_lt hj)
  have hloN : (st j).n ≤ (st p).n := L.mono (Nat.le_of_lt hj) (Nat.le_refl _)
  have hhiN : (st (j + 1)).n ≤ (st p).n := L.mono hj (Nat.le_refl _)
  generalize hlo : (st j).n = lo at *
  generalize hhi : (st (j + 1)).n = hi at *
  have hun : ∀ id, φ.un id → id < lo ∧ φ id = none := fun id h => by
    have h0 : φ₀.un id := by rw [← hI.keep.un]; exact h
    exact ⟨Nat.lt_of_lt_of_le (hrel₀.un id h0).1 hlo0, (hI.rel.un id h).2⟩
  -- the heap as it stands
  have hget : ∀ id, (⟨trOf (st p).n (fun id => hAt ops st frm lg X id p), (st p).n, []⟩ : S).h.get id = if id < (st p).n then hAt ops st frm lg X id p else none := fun id => get_trOf _ _ _
  have hold : ∀ id, Tch lg j id → id < lo → hAt ops st frm lg X id p = (st j).h.get id := fun id ht hlt => L.old hX hj hn ho he hni hnl ht (by rw [hlo]; exact hlt)
  have hgold : ∀ id, Tch lg j id → id < lo → (⟨trOf (st p).n (fun id => hAt ops st frm lg X id p), (st p).n, []⟩ : S).h.get id = (st j).h.get id := fun id ht hlt => by
    rw [hget, if_pos (by omega), hold id ht hlt]
  obtain ⟨φi, wi, ai, hreli, hfi⟩ := L.imag j (Nat.le_of_lt hj)
  have hdomi : ∀ id l, φi id = some l → id < lo := fun id l h => by
    rcases Nat.lt_or_ge id lo with h' | h'
    · exact h'
    · rw [hreli.dom id (by rw [hlo]; exact h')] at h; simp at h
  -- the cut map
  generalize hρ : cutMap φ lo (Tch lg j) = ρ
  have hρ1 : ∀ {id : Nat} {l' : Loc}, ρ id = some l' → id < lo ∧ ∃ l, φ id = some l ∧ l.core l' ∧ (Tch lg j id → l' = l) ∧ (l'.ro = false → Tch lg j id ∧ l' = l) := fun h => by rw [← hρ] at h; exact cutMap_some h
  have hρ2 : ∀ {id : Nat} {l : Loc}, id < lo → φ id = some l → ∃ l', ρ id = some l' ∧ l.core l' ∧ (Tch lg j id → l' = l) := fun h1 h2 => by rw [← hρ]; exact cutMap_of h1 h2
  have hon : CoreOn (fun id => id < lo) φ ρ := fun id l hp hl => let ⟨l', h1, h2, _⟩ := hρ2 hp hl; ⟨l', h1, h2⟩
  have hon0 : Core φ₀ ρ := fun id l _ hl => by
    have hlt : id < lo := by
      rcases Nat.lt_or_ge id (st 0).n with h | h
      · omega
      · rw [hrel₀.dom id h] at hl; simp at hl
    obtain ⟨l', h1, h2, _⟩ := hρ2 hlt (hI.keep.ext id l hl)
    exact ⟨l', h1, h2⟩
  -- the state as the operation sees it
  let Dm : Nat → Prop := fun id => Tch lg j id ∨ lo ≤ id
  let s' : S := ⟨trOf lo (fun id => if Tch lg j id then (st j).h.get id else none), lo, []⟩
  have hs' : ∀ id, s'.h.get id = if id < lo then (if Tch lg j id then (st j).h.get id else none) else none := fun id => get_trOf _ _ _
  have hsim : Sim Dm ⟨(st j).h, lo, []⟩ s' := by
    refine ⟨rfl, fun id hD => ?_⟩
    rw [hs']
    rcases hD with ht | hge
    · by_cases hlt : id < lo
      · rw [if_pos hlt, if_pos ht]
      · rw [if_neg hlt]; exact (hbd id (by omega)).symm
    · rw [if_neg (by omega)]; exact (hbd id hge).symm
  obtain ⟨t', hx', hsim', hunt⟩ := hloc Dm s' hsim (fun id h => .inl h) (fun id h => .inr h)
  have hrelρ : Rel ρ s' w := by
    refine ⟨?_, ?_, ?_, ?_, ?_⟩
    · intro id ob hob
      rw [hs'] at hob
      by_cases hlt : id < lo
      · rw [if_pos hlt] at hob
        by_cases ht : Tch lg j id
        · rw [if_pos ht] at hob
          obtain ⟨l, h1, h2⟩ := hI.rel.obj id ob (by rw [hgold id ht hlt]; exact hob)
          obtain ⟨l', h3, _, h4⟩ := hρ2 hlt h1
          have := h4 ht; subst this
          refine ⟨_, h3, ?_⟩
          obtain ⟨li, _, hoi⟩ := hreli.obj id ob hob
          exact h2.on hon (hoi.nums hdomi)
        · rw [if_neg ht] at hob; simp at hob
      · rw [if_neg hlt] at hob; simp at hob
    · intro id id' l l' hl hl' ha ha' e
      have hT : ∀ id, s'.h.get id ≠ none → id < lo ∧ Tch lg j id := fun id h => by
        rw [hs'] at h
        by_cases hlt : id < lo
        · rw [if_pos hlt] at h
          by_cases ht : Tch lg j id
          · exact ⟨hlt, ht⟩
          · rw [if_neg ht] at h; exact absurd rfl h
        · rw [if_neg hlt] at h; exact absurd rfl h
      obtain ⟨h1, h2⟩ := hT id ha
      obtain ⟨h3, h4⟩ := hT id' ha'
      obtain ⟨_, m, hm, hc, _⟩ := hρ1 hl
      obtain ⟨_, m', hm', hc', _⟩ := hρ1 hl'
      obtain ⟨_, m1, hm1, _, ht1, _⟩ := hρ1 hl
      obtain ⟨_, m2, hm2, _, ht2, _⟩ := hρ1 hl'
      rw [hm] at hm1; cases hm1
      rw [hm'] at hm2; cases hm2
      rw [ht1 h2, ht2 h4]
      refine hI.rel.inj id id' m m' hm hm' ?_ ?_ ?_
      · rw [hgold id h2 h1]; exact halive id h2 h1
      · rw [hgold id' h4 h3]; exact halive id' h4 h3
      · rw [← hc.1, ← hc'.1]; exact e
    · intro id hid
      cases h : ρ id with
      | none => rfl
      | some l => have := (hρ1 h).1; simp only [s'] at hid; omega
    · intro id l hl
      obtain ⟨_, m, hm, hc, _⟩ := hρ1 hl
      rw [hc.1]; exact hI.rel.bnd id m hm
    · intro id hid
      rw [← hρ] at hid ⊢
      refine ⟨hid.1, ?_⟩
      show (if id < lo then (match φ id with
        | some l => some (if Tch lg j id then l else ⟨l.blk, l.base, l.ccap, l.esz, true⟩)
        | none => none) else none) = none
      rw [if_pos hid.1, hid.2]
  -- the frame as the operation sees it
  let M := cx.nt + (namesOf ops.toList o).foldl (fun x y => x + y + 1) 0 + 1
  have hM : ∀ t ∈ namesOf ops.toList o, t < M := by
    have : ∀ (l : List Nat) (x : Nat), x ≤ l.foldl (fun x y => x + y + 1) x ∧ ∀ t ∈ l, t < l.foldl (fun x y => x + y + 1) x := by
      intro l
      induction l with
      | nil => intro x; exact ⟨Nat.le_refl _, by simp⟩
      | cons y l ih =>
        intro x
        obtain ⟨h1, h2⟩ := ih (x + y + 1)
        simp only [List.foldl_cons]
        refine ⟨by omega, fun t ht => ?_⟩
        rcases List.mem_cons.1 ht with rfl | ht
        · omega
        · exact h2 t ht
    intro t ht
    have := (this _ 0).2 t ht
    exact Nat.lt_of_lt_of_le this (Nat.le_trans (Nat.le_add_left _ _) (Nat.le_succ _))
  let tm' : Tr V := trOf M (fun t => if t ∈ namesOf ops.toList o then (frm j).tm.get t else if t < cx.nt then some (absV (a.tmps.getD t undef)) else none)
  have htm' : ∀ t, tm'.get t = if t < M then (if t ∈ namesOf ops.toList o then (frm j).tm.get t else if t < cx.nt then some (absV (a.tmps.getD t undef)) else none) else none := fun t => get_trOf _ _ _
  have hnam : ∀ t ∈ namesOf ops.toList o, tm'.get t = (frm j).tm.get t := fun t ht => by rw [htm', if_pos (hM t ht), if_pos ht]
  obtain ⟨hc1, hc2, hc3⟩ := L.const (k := j) (Nat.le_of_lt hj)
  let fr' : Fr := ⟨tm', (frm j).ds, (frm j).rc, (frm j).ng⟩
  have hfr' : FrR ρ cx fr' a := by
    refine ⟨⟨hI.size, fun t => ?_⟩, ?_, ?_⟩
    · show VR ρ (tmV tm' t) _
      by_cases ht : t ∈ namesOf ops.toList o
      · have e : tmV tm' t = tmV (frm j).tm t := by simp only [tmV, hnam t ht]
        rw [e]
        have h1 := hI.tm t
        rw [L.tmOld hX hj hn ho he ht] at h1
        exact VR.on hon _ _ (VR.nums hdomi _ _ (hfi.tm.2 t)) h1
      · simp only [tmV, htm', if_neg ht]
        by_cases hM' : t < M
        · rw [if_pos hM']
          by_cases hnt : t < cx.nt
          · rw [if_pos hnt]; exact VR_absV ρ _
          · rw [if_neg hnt]
            have : a.tmps.getD t undef = undef := by
              rw [Array.getD_eq_getD_getElem?, Array.getElem?_eq_none (by rw [hI.size]; omega)]; rfl
            rw [this]; exact ⟨#[], rfl, rfl⟩
        · rw [if_neg hM']
          have : a.tmps.getD t undef = undef := by
            rw [Array.getD_eq_getD_getElem?, Array.getElem?_eq_none (by rw [hI.size]; exact Nat.le_trans (Nat.le_trans (Nat.le_add_right _ _) (Nat.le_succ _)) (Nat.not_lt.1 hM'))]; rfl
          rw [this]; exact ⟨#[], rfl, rfl⟩
    · show DsR ρ (frm j).ds _
      rw [hc1]
      -- marks are old
      obtain ⟨φi0, wi0, ai0, hreli0, hfi0⟩ := L.imag 0 (Nat.zero_le _)
      have hds : ∀ (ds : List D) (es es0 : List Deferred), DsR φi0 ds es0 → DsR φ ds es → DsR ρ ds es := by
        intro ds
        induction ds with
        | nil => intro es es0 _ r; exact r
        | cons d ds ih =>
          rintro es es0 ⟨e0, es0', _, r0, rs0⟩ ⟨e, es', rfl, r, rs⟩
          refine ⟨e, es', rfl, ?_, ih es' es0' rs0 rs⟩
          have hdom0 : ∀ id l, φi0 id = some l → id < lo := fun id l h => by
            rcases Nat.lt_or_ge id (st 0).n with h' | h'
            · omega
            · rw [hreli0.dom id h'] at h; simp at h
          cases d with
          | call f args =>
            obtain ⟨cap, as, h1, h2⟩ := r
            obtain ⟨cap0, as0, _, h3⟩ := r0
            exact ⟨cap, as, h1, VRL.on hon _ _ (VRL.nums hdom0 _ _ h3) h2⟩
          | mark id =>
            obtain ⟨l, h1, h2⟩ := r
            obtain ⟨l0, h3, _⟩ := r0
            obtain ⟨l', h4, h5, _⟩ := hρ2 (hdom0 _ _ h3) h1
            exact ⟨l', h4, by rw [h5.1]; exact h2⟩
      exact hds _ _ _ hfi0.ds hI.ds
    · show GlobOk (frm j).ng ρ
      rw [hc3]; exact hgf.core hon0
  -- the operation
  have hops : ∀ x ∈ opsOf o.op, opd x (frm j) = opd x fr' := fun x hx => by
    cases x with
    | tmp t =>
      have ht : t ∈ namesOf ops.toList o := by
        simp only [namesOf, List.mem_append]
        refine .inr (.inr ?_)
        have : ∀ l : List Operand, Operand.tmp t ∈ l → t ∈ tmpsOf l := by
          intro l
          induction l with
          | nil => simp
          | cons y l ih =>
            intro h
            rcases List.mem_cons.1 h with e | h2
            · subst e; simp [tmpsOf]
            · have := ih h2
              clear h
              cases y with
              | tmp u => exact List.mem_cons_of_mem _ this
              | const _ => exact this
              | global _ => exact this
              | func _ => exact this
        exact this _ hx
      have e : tmV tm' t = tmV (frm j).tm t := by simp only [tmV, hnam t ht]
      exact e.symm
    | const v => rfl
    | global g => rfl
    | func f => rfl
  have hgd : ∀ t ∈ guardTmp ops.toList o.guard, (frm j).tm.get t = fr'.tm.get t := fun t ht =>
    (hnam t (by simp only [namesOf, List.mem_append]; exact .inr (.inl ht))).symm
  obtain ⟨v, hv, hxf⟩ := exec1_other hx' hops hgd
  obtain ⟨φ', c, w', v', hv', hk, hrel', hvr, hst⟩ := exec1_val (b := b) (k := k) (cs := cs) (rest := rest) L.hE L.hs (hg.core hon0) hrelρ hfr' (by simpa using ho) (L.opOk ho).1 hxf
  -- the new map
  have hn' : t'.n = hi := hsim'.1
  have hdom' : ∀ id l, φ' id = some l → id < hi := fun id l h => by
    rcases Nat.lt_or_ge id hi with h' | h'
    · exact h'
    · rw [hrel'.dom id (by rw [hn']; exact h')] at h; simp at h
  have hρun : φ'.un = ρ.un := hk.un
  have hφ'lo : ∀ {id : Nat} {l : Loc}, id < lo → φ' id = some l → ρ id = some l := fun {id l} hlt h => by
    cases hp : φ id with
    | none =>
      have : φ'.un id := by rw [hρun, ← hρ]; exact ⟨hlt, hp⟩
      rw [(hrel'.un id this).2] at h; simp at h
    | some m =>
      obtain ⟨m', h1, _⟩ := hρ2 hlt hp
      rw [hk.ext id m' h1] at h
      rw [h1]; exact h
  let ψ : Map := ⟨fun id => if lo ≤ id ∧ id < hi then φ' id else φ id, φ.un⟩
  have hψin : ∀ {id : Nat}, lo ≤ id → id < hi → ψ id = φ' id := fun {id} h1 h2 => if_pos ⟨h1, h2⟩
  have hψout : ∀ {id : Nat}, ¬ (lo ≤ id ∧ id < hi) → ψ id = φ id := fun {id} h => if_neg h
  have hgap : ∀ id, lo ≤ id → id < hi → φ id = none := fun id h1 h2 => hI.gap j hj hn id (by rw [hlo]; exact h1) (by rw [hhi]; exact h2)
  have hext : ∀ id l, φ id = some l → ψ id = some l := fun id l h => by
    rw [hψout]
    · exact h
    · rintro ⟨h1, h2⟩
      rw [hgap id h1 h2] at h; simp at h
  have hcore : Core φ' ψ := fun id l _ h => by
    by_cases hlt : id < lo
    · obtain ⟨_, m, hm, hc, _⟩ := hρ1 (hφ'lo hlt h)
      exact ⟨m, hext id m hm, hc.1.symm, hc.2.1.symm, hc.2.2.1.symm, hc.2.2.2.symm⟩
    · exact ⟨l, by rw [hψin (by omega) (hdom' id l h)]; exact h, .refl _⟩
  -- what the new heap holds
  have htn : ∀ id, Wr st lg j id → hAt ops st frm lg (fun i => X i ∨ i = j) id p = t'.h.get id := fun id hw => by
    rw [L.new hX hj hn ho he hni hnl hw]
    refine (hsim'.2 id ?_).symm
    rcases hw with hw | hw
    · exact .inl ⟨true, hw⟩
    · exact .inr (by rw [← hlo]; exact hw.1)
  have hread : ∀ id, id < lo → ¬ Wr st lg j id → Tch lg j id → t'.h.get id = (st j).h.get id := fun id hlt hw ht => by
    rw [hsim'.2 id (.inl ht)]
    exact hsame id hlt (fun h => hw (.inl h))
  have hnew : ∀ id, (⟨trOf (st p).n (fun id => hAt ops st frm lg (fun i => X i ∨ i = j) id p), (st p).n, []⟩ : S).h.get id = if id < (st p).n then hAt ops st frm lg (fun i => X i ∨ i = j) id p else none := fun id => get_trOf _ _ _
  -- three kinds of numbers
  have hkind : ∀ id, (lo ≤ id ∧ id < hi) ∨ (id < lo ∧ Tch lg j id) ∨ (¬ (lo ≤ id ∧ id < hi) ∧ ¬ (id < lo ∧ Tch lg j id)) := fun id => by
    by_cases h1 : lo ≤ id ∧ id < hi
    · exact .inl h1
    · by_cases h2 : id < lo ∧ Tch lg j id
      · exact .inr (.inl h2)
      · exact .inr (.inr ⟨h1, h2⟩)
  have hnewIn : ∀ id, lo ≤ id → id < hi → (⟨trOf (st p).n (fun id => hAt ops st frm lg (fun i => X i ∨ i = j) id p), (st p).n, []⟩ : S).h.get id = t'.h.get id := fun id h1 h2 => by
    rw [hnew, if_pos (by omega), htn id (.inr ⟨by rw [hlo]; exact h1, by rw [hhi]; exact h2⟩)]
  have hnewT : ∀ id, id < lo → Tch lg j id → (⟨trOf (st p).n (fun id => hAt ops st frm lg (fun i => X i ∨ i = j) id p), (st p).n, []⟩ : S).h.get id = t'.h.get id := fun id h1 h2 => by
    rw [hnew, if_pos (by omega)]
    by_cases hw : Wr st lg j id
    · exact htn id hw
    · rw [Lay.other (p := p) (X := X) hw, hold id h2 h1, hread id h1 hw h2]
  have hTchOut : ∀ id, Wr st lg j id → (lo ≤ id ∧ id < hi) ∨ (Tch lg j id ∧ id < lo) ∨ hi ≤ id := fun id hw => by
    rcases hw with hw | hw
    · by_cases h1 : id < lo
      · exact .inr (.inl ⟨⟨true, hw⟩, h1⟩)
      · by_cases h2 : id < hi
        · exact .inl ⟨by omega, h2⟩
        · exact .inr (.inr (by omega))
    · exact .inl ⟨by rw [← hlo]; exact hw.1, by rw [← hhi]; exact hw.2⟩
  have hthi : ∀ id, hi ≤ id → t'.h.get id = none := fun id hid => by
    cases hg : t'.h.get id with
    | none => rfl
    | some ob =>
      obtain ⟨l, hl, _⟩ := hrel'.obj id ob hg
      have := hdom' id l hl; omega
  have hnewO : ∀ id, ¬ (lo ≤ id ∧ id < hi) → ¬ (id < lo ∧ Tch lg j id) → (⟨trOf (st p).n (fun id => hAt ops st frm lg (fun i => X i ∨ i = j) id p), (st p).n, []⟩ : S).h.get id ≠ none →
      (⟨trOf (st p).n (fun id => hAt ops st frm lg (fun i => X i ∨ i = j) id p), (st p).n, []⟩ : S).h.get id = (⟨trOf (st p).n (fun id => hAt ops st frm lg X id p), (st p).n, []⟩ : S).h.get id := fun id h1 h2 hne => by
    rw [hnew, hget]
    rw [hnew] at hne
    by_cases hN : id < (st p).n
    · rw [if_pos hN] at hne ⊢
      rw [if_pos hN]
      by_cases hw : Wr st lg j id
      · rcases hTchOut id hw with h | h | h
        · exact absurd h h1
        · exact absurd ⟨h.2, h.1⟩ h2
        · rw [htn id hw, hthi id h] at hne; exact absurd rfl hne
      · exact Lay.other hw
    · rw [if_neg hN, if_neg hN]
  -- blocks that the operation leaves alone
  have hleft : ∀ id l, φ id = some l → ¬ (id < lo ∧ Tch lg j id) → (⟨trOf (st p).n (fun id => hAt ops st frm lg X id p), (st p).n, []⟩ : S).h.get id ≠ none → w'.heap[l.blk]? = w.heap[l.blk]? := fun id l hl hT hal => by
    refine hk.same l.blk (hI.rel.bnd id l hl) (fun id' l' hl' e => ?_)
    cases hro : l'.ro with
    | true => rfl
    | false =>
      exfalso
      obtain ⟨hlt, m, hm, _, _, h5⟩ := hρ1 hl'
      obtain ⟨ht, rfl⟩ := h5 hro
      rcases hI.rel.inj id' id l' l hm hl (by rw [hgold id' ht hlt]; exact halive id' ht hlt) hal e with this | ⟨this, _⟩
      · subst this
        exact hT ⟨hlt, ht⟩
      · rw [hro] at this; cases this
  have hfromNew : ∀ id l, lo ≤ id → φ' id = some l → (∃ id' l', Tch lg j id' ∧ id' < lo ∧ φ id' = some l' ∧ l'.blk = l.blk ∧ l'.ro = false) ∨ w.heap.size ≤ l.blk := fun id l hge hl => by
    have hro : l.ro = false := by
      rcases hk.newro id l hl with h | h
      · have := (hρ1 h).1; omega
      · exact h
    rcases hk.from_ id l hl with ⟨id', l', h1, h2, h3⟩ | h
    · obtain ⟨hlt, m, hm, _, _, h5⟩ := hρ1 h1
      obtain ⟨ht, rfl⟩ := h5 (h3 hro)
      exact .inl ⟨id', l', ht, hlt, hm, h2, h3 hro⟩
    · exact .inr h
  have hcount : G (lone (Frame.put b a (.inRegion ops (j :: rest) :: k)) cs w, cnt E (atS ops p st frm lg X)) (lone (Frame.put b (a.put o.dst c) (.inRegion ops rest :: k)) cs w', cnt E (atS ops p st frm lg (fun i => X i ∨ i = j))) := by
    by_cases htc : ∀ i, E.oid = some i → Tch lg j i
    · have e1 : cnt E (atS ops p st frm lg X) = cnt E s' := cnt_eq fun i hi => by
        have hlt : i < lo := by
          rw [hi] at hoid
          exact Nat.lt_of_lt_of_le (Nat.le_of_ble_eq_true hoid) hlo0
        show cntAt ((⟨trOf (st p).n (fun id => hAt ops st frm lg X id p), (st p).n, []⟩ : S).h.get i) = _
        rw [hgold i (htc i hi) hlt, hs', if_pos hlt, if_pos (htc i hi)]
      have e2 : cnt E (atS ops p st frm lg (fun i => X i ∨ i = j)) = cnt E t' := cnt_eq fun i hi => by
        have hlt : i < lo := by
          rw [hi] at hoid
          exact Nat.lt_of_lt_of_le (Nat.le_of_ble_eq_true hoid) hlo0
        show cntAt ((⟨trOf (st p).n (fun id => hAt ops st frm lg (fun i => X i ∨ i = j) id p), (st p).n, []⟩ : S).h.get i) = _
        rw [hnewT i hlt (htc i hi)]
      rw [e1, e2]; exact hst
    · have ⟨i, hi, hnt⟩ : ∃ i, E.oid = some i ∧ ¬ Tch lg j i := by
        refine Classical.byContradiction fun h => htc fun i hi => Classical.byContradiction fun h' => h ⟨i, hi, h'⟩
      have hlt : i < lo := by
        rw [hi] at hoid
        exact Nat.lt_of_lt_of_le (Nat.le_of_ble_eq_true hoid) hlo0
      have hnw : ¬ Wr st lg j i := fun hw => by
        rcases hw with hw | hw
        · exact hnt ⟨true, hw⟩
        · rw [hlo] at hw; omega
      have hs0 : s'.h.get i = none := by rw [hs', if_pos hlt, if_neg hnt]
      have e1 : cnt E s' = 0 := by unfold cnt; rw [hi]; simp only [hs0, cntAt]
      have e2 : cnt E t' = 0 := by unfold cnt; rw [hi]; simp only [hunt i hlt hnt, hs0, cntAt]
      have e3 : cnt E (atS ops p st frm lg (fun i => X i ∨ i = j)) = cnt E (atS ops p st frm lg X) := cnt_eq fun i' hi' => by
        rw [hi] at hi'; cases hi'
        show cntAt ((⟨trOf (st p).n (fun id => hAt ops st frm lg (fun i => X i ∨ i = j) id p), (st p).n, []⟩ : S).h.get i) = cntAt ((⟨trOf (st p).n (fun id => hAt ops st frm lg X id p), (st p).n, []⟩ : S).h.get i)
        rw [hnew, hget, Lay.other hnw]
      rw [e1, e2] at hst
      rw [e3]
      exact L.hs.rel.shift hst _
  refine ⟨ψ, a.put o.dst c, w', ⟨⟨?_, ?_, ?_, ?_, ?_⟩, ?_, ?_, ?_, ?_, ?_⟩, hcount⟩
  · -- obj
    intro id ob hob
    rcases hkind id with ⟨h1, h2⟩ | ⟨h1, h2⟩ | ⟨h1, h2⟩
    · rw [hnewIn id h1 h2] at hob
      obtain ⟨l, hl, hoo⟩ := hrel'.obj id ob hob
      exact ⟨l, by rw [hψin h1 h2]; exact hl, hoo.core hcore⟩
    · rw [hnewT id h1 h2] at hob
      obtain ⟨l, hl, hoo⟩ := hrel'.obj id ob hob
      obtain ⟨_, m, hm, _, h4, _⟩ := hρ1 (hφ'lo h1 hl)
      have := h4 h2; subst this
      exact ⟨l, hext id l hm, hoo.core hcore⟩
    · have hne : (⟨trOf (st p).n (fun id => hAt ops st frm lg (fun i => X i ∨ i = j) id p), (st p).n, []⟩ : S).h.get id ≠ none := by rw [hob]; simp
      rw [hnewO id h1 h2 hne] at hob
      obtain ⟨l, hl, hoo⟩ := hI.rel.obj id ob hob
      refine ⟨l, hext id l hl, ?_⟩
      rw [hleft id l hl h2 (by rw [hob]; simp)]
      exact hoo.mono hext
  · -- inj
    intro id id' l l' hl hl' ha ha' e
    have key : ∀ id id' l l', ψ id = some l → ψ id' = some l' → (⟨trOf (st p).n (fun id => hAt ops st frm lg (fun i => X i ∨ i = j) id p), (st p).n, []⟩ : S).h.get id ≠ none →
        (⟨trOf (st p).n (fun id => hAt ops st frm lg (fun i => X i ∨ i = j) id p), (st p).n, []⟩ : S).h.get id' ≠ none → l.blk = l'.blk →
        ¬ (lo ≤ id ∧ id < hi) → ¬ (id < lo ∧ Tch lg j id) → ((lo ≤ id' ∧ id' < hi) ∨ (id' < lo ∧ Tch lg j id')) → l.ro = true ∧ l'.ro = true := by
      intro id id' l l' hl hl' ha ha' e h1 h2 h3
      have hal : (⟨trOf (st p).n (fun id => hAt ops st frm lg X id p), (st p).n, []⟩ : S).h.get id ≠ none := by rw [← hnewO id h1 h2 ha]; exact ha
      rw [hψout h1] at hl
      rcases h3 with ⟨h3, h4⟩ | ⟨h3, h4⟩
      · rw [hψin h3 h4] at hl'
        rcases hfromNew id' l' h3 hl' with ⟨id2, l2, q1, q2, q3, q4, q5⟩ | q
        · rcases hI.rel.inj id2 id l2 l q3 hl (by rw [hgold id2 q1 q2]; exact halive id2 q1 q2) hal (by rw [q4, e]) with this | ⟨this, _⟩
          · subst this
            exact (h2 ⟨q2, q1⟩).elim
          · rw [q5] at this; cases this
        · have := hI.rel.bnd id l hl; omega
      · rw [hψout (by omega)] at hl'
        rcases hI.rel.inj id' id l' l hl' hl (by rw [hgold id' h4 h3]; exact halive id' h4 h3) hal e.symm with this | this
        · subst this
          exact (h2 ⟨h3, h4⟩).elim
        · exact ⟨this.2, this.1⟩
    have in' : ∀ id l, ψ id = some l → (⟨trOf (st p).n (fun id => hAt ops st frm lg (fun i => X i ∨ i = j) id p), (st p).n, []⟩ : S).h.get id ≠ none →
        ((lo ≤ id ∧ id < hi) ∨ (id < lo ∧ Tch lg j id)) → t'.h.get id ≠ none ∧ φ' id = some l := by
      intro id l hl ha h
      rcases h with ⟨h1, h2⟩ | ⟨h1, h2⟩
      · rw [hnewIn id h1 h2] at ha
        rw [hψin h1 h2] at hl
        exact ⟨ha, hl⟩
      · rw [hnewT id h1 h2] at ha
        rw [hψout (by omega)] at hl
        obtain ⟨m, q1, q2, q3⟩ := hρ2 h1 hl
        have := q3 h2; subst this
        exact ⟨ha, hk.ext id m q1⟩
    rcases hkind id with h | h | ⟨h, h'⟩
    · rcases hkind id' with g | g | ⟨g, g'⟩
      · obtain ⟨a1, b1⟩ := in' id l hl ha (.inl h)
        obtain ⟨a2, b2⟩ := in' id' l' hl' ha' (.inl g)
        exact hrel'.inj id id' l l' b1 b2 a1 a2 e
      · obtain ⟨a1, b1⟩ := in' id l hl ha (.inl h)
        obtain ⟨a2, b2⟩ := in' id' l' hl' ha' (.inr g)
        exact hrel'.inj id id' l l' b1 b2 a1 a2 e
      · exact .inr (key id' id l' l hl' hl ha' ha e.symm g g' (.inl h)).symm
    · rcases hkind id' with g | g | ⟨g, g'⟩
      · obtain ⟨a1, b1⟩ := in' id l hl ha (.inr h)
        obtain ⟨a2, b2⟩ := in' id' l' hl' ha' (.inl g)
        exact hrel'.inj id id' l l' b1 b2 a1 a2 e
      · obtain ⟨a1, b1⟩ := in' id l hl ha (.inr h)
        obtain ⟨a2, b2⟩ := in' id' l' hl' ha' (.inr g)
        exact hrel'.inj id id' l l' b1 b2 a1 a2 e
      · exact .inr (key id' id l' l hl' hl ha' ha e.symm g g' (.inr h)).symm
    · rcases hkind id' with g | g | ⟨g, g'⟩
      · exact .inr (key id id' l l' hl hl' ha ha' e h h' (.inl g))
      · exact .inr (key id id' l l' hl hl' ha ha' e h h' (.inr g))
      · rw [hψout h] at hl
        rw [hψout g] at hl'
        exact hI.rel.inj id id' l l' hl hl' (by rw [← hnewO id h h' ha]; exact ha) (by rw [← hnewO id' g g' ha']; exact ha') e
  · -- dom
    intro id hid
    have hid : (st p).n ≤ id := hid
    rw [hψout (by omega)]
    exact hI.rel.dom id hid
  · -- bnd
    intro id l hl
    by_cases h : lo ≤ id ∧ id < hi
    · rw [hψin h.1 h.2] at hl; exact hrel'.bnd id l hl
    · rw [hψout h] at hl; exact Nat.lt_of_lt_of_le (hI.rel.bnd id l hl) hk.size
  · -- un
    intro id hid
    obtain ⟨h1, h2⟩ := hun id hid
    exact ⟨by show id < (st p).n; omega, by rw [hψout (by omega)]; exact h2⟩
  · -- gap
    intro k hkp hkn id h1 h2
    have hkX : ¬ X k := fun h => hkn (.inl h)
    have hkj : k ≠ j := fun h => hkn (.inr h)
    rw [hψout ?_]
    · exact hI.gap k hkp hkX id h1 h2
    · rintro ⟨h3, h4⟩
      rcases Nat.lt_or_ge k j with h | h
      · have := L.mono (k := k + 1) (j := j) (by omega) (by omega)
        omega
      · have := L.mono (k := j + 1) (j := k) (by omega) (by omega)
        omega
  · -- size
    cases o.dst <;> simp [Act.put, hI.size]
  · -- temporaries
    intro t
    by_cases ht : o.dst = some t
    · rw [L.tmNew hX hj hn ho he ht, hv, ht]
      simp only [setTm, Act.put]
      have h1 := hfr'.tm.put (φ := ρ) t (v := v) (c := c)
      have hvv : setTm cx fr' v o.dst = setTm cx fr' v' o.dst := hv'
      by_cases hnt : t < cx.nt
      · have hb : Nat.ble (Nat.succ t) cx.nt = true := Nat.ble_eq_true_of_le hnt
        have e : v = v' := by
          rw [ht] at hvv
          simp only [setTm, putTm, hb, cond_true, Fr.mk.injEq] at hvv
          have := congrArg (fun x : Tr V => x.get t) hvv.1
          simpa [Tr.get_put] using this
        subst e
        have : tmV (putTm cx.nt (frm j).tm t v) t = v := by simp [putTm, hb, tmV, Tr.get_put]
        rw [this]
        have : (a.tmps.setIfInBounds t c).getD t undef = c := by
          have : t < a.tmps.size := by rw [hI.size]; exact hnt
          simp [Array.getD, this]
        rw [this]
        exact hvr.core hcore
      · have hb : Nat.ble (Nat.succ t) cx.nt = false := by
          cases hh : Nat.ble (Nat.succ t) cx.nt with
          | false => rfl
          | true => exact absurd (Nat.le_of_ble_eq_true hh) hnt
        have hu : (a.tmps.setIfInBounds t c).getD t undef = undef := by
          rw [Array.getD_eq_getD_getElem?, Array.getElem?_eq_none (by rw [Array.size_setIfInBounds, hI.size]; exact Nat.not_lt.1 hnt)]; rfl
        rw [hu]
        simp only [putTm, hb, cond_false]
        have h2 := hI.tm t
        have : a.tmps.getD t undef = undef := by
          rw [Array.getD_eq_getD_getElem?, Array.getElem?_eq_none (by rw [hI.size]; exact Nat.not_lt.1 hnt)]; rfl
        rw [this, L.tmOld hX hj hn ho he (by simp [namesOf, ht, optL])] at h2
        exact VR.mono hext _ _ h2
    · rw [Lay.tmOther ho ht]
      have : (a.put o.dst c).tmps.getD t undef = a.tmps.getD t undef := by
        cases hd : o.dst with
        | none => rfl
        | some d =>
          simp only [Act.put, Array.getD_eq_getD_getElem?, Array.getElem?_setIfInBounds]
          rw [if_neg (fun h => ht (by rw [hd, h]))]
      rw [this]
      exact VR.mono hext _ _ (hI.tm t)
  · -- what is deferred
    have : (a.put o.dst c).defers = a.defers := by cases o.dst <;> rfl
    rw [this]
    exact hI.ds.mono hext
  · -- what is kept
    refine ⟨fun id l h => hext id l (hI.keep.ext id l h), Nat.le_trans hI.keep.size hk.size, ?_, ?_, hk.os.trans hI.keep.os, hk.output.trans hI.keep.output, hk.tape.trans hI.keep.tape, hI.keep.un, ?_⟩
    · intro bl hb hr
      rw [hk.same bl (Nat.lt_of_lt_of_le hb hI.keep.size) ?_, hI.keep.same bl hb hr]
      intro id l hl e
      cases hro : l.ro with
      | true => rfl
      | false =>
        exfalso
        obtain ⟨_, m, hm, _, _, h5⟩ := hρ1 hl
        obtain ⟨_, rfl⟩ := h5 hro
        rcases hI.keep.from_ id l hm with ⟨id', l', q1, q2, q3⟩ | q
        · have := hr id' l' q1 (q2.trans e)
          rw [q3 hro] at this; simp at this
        · omega
    · intro id l hl
      by_cases h : lo ≤ id ∧ id < hi
      · rw [hψin h.1 h.2] at hl
        rcases hk.from_ id l hl with ⟨id', l', q1, q2, q3⟩ | q
        · obtain ⟨_, m, hm, hc, _, h5⟩ := hρ1 q1
          rcases hI.keep.from_ id' m hm with ⟨id2, l2, r1, r2, r3⟩ | r
          · refine .inl ⟨id2, l2, r1, by rw [r2, ← hc.1, q2], fun hro => r3 ?_⟩
            obtain ⟨_, e⟩ := h5 (q3 hro)
            rw [← e]; exact q3 hro
          · exact .inr (by rw [← q2, hc.1]; exact r)
        · exact .inr (Nat.le_trans hI.keep.size q)
      · rw [hψout h] at hl
        exact hI.keep.from_ id l hl
    · intro id l hl
      by_cases h : lo ≤ id ∧ id < hi
      · rw [hψin h.1 h.2] at hl
        rcases hk.newro id l hl with q | q
        · have := (hρ1 q).1; omega
        · exact .inr q
      · rw [hψout h] at hl
        exact hI.keep.newro id l hl
end
end Go.AM

namespace Go.AM
open Go
set_option linter.unusedVariables false
set_option linter.unusedSimpArgs false
open Classical

/-! ## entries of one literal, in any order -/
section
variable {E : Env}

theorem eqInt_symm {a b : V} {c : Bool} (h : eqInt a b = some c) : eqInt b a = some c := by
  cases a <;> try (simp [eqInt] at h; done)
  cases b <;> try (simp [eqInt] at h; done)
  rename_i k x k' y
  simp only [eqInt] at h ⊢
  cases hk : kindEq k k' with
  | false => rw [hk] at h; simp at h
  | true =>
    have hk' : kindEq k' k = true := by cases k <;> cases k' <;> simp_all [kindEq]
    rw [hk] at h; rw [hk']
    simp only [cond_true, Option.some.injEq] at h ⊢
    rw [← h]
    cases x <;> cases y <;> simp only [eqI]
    · rename_i p q; exact Bool.eq_iff_iff.2 ⟨fun h => by simp at h ⊢; omega, fun h => by simp at h ⊢; omega⟩
    · rename_i p q; exact Bool.eq_iff_iff.2 ⟨fun h => by simp at h ⊢; omega, fun h => by simp at h ⊢; omega⟩

theorem eqBool_symm {a b : V} {c : Bool} (h : eqBool a b = some c) : eqBool b a = some c := by
  cases a <;> try (simp [eqBool] at h; done)
  cases b <;> try (simp [eqBool] at h; done)
  rename_i x y
  cases x <;> cases y <;> exact h

theorem eqB_symm : ∀ a b : List UInt8, eqB a b = eqB b a
  | [], [] => rfl
  | [], _ :: _ => rfl
  | _ :: _, [] => rfl
  | a :: x, b :: y => by
    simp only [eqB]
    have : Nat.beq a.toNat b.toNat = Nat.beq b.toNat a.toNat := Bool.eq_iff_iff.2 ⟨fun h => by simp at h ⊢; exact h.symm, fun h => by simp at h ⊢; exact h.symm⟩
    rw [this, eqB_symm x y]

theorem eqStr_symm {a b : V} {c : Bool} (h : eqStr a b = some c) : eqStr b a = some c := by
  cases a <;> try (simp [eqStr] at h; done)
  cases b <;> try (simp [eqStr] at h; done)
  rename_i x y
  simp only [eqStr] at h ⊢
  rw [eqB_symm]; exact h

theorem flatNe_symm {a b : V} (h : flatNe a b) : flatNe b a :=
  h.imp eqInt_symm (·.imp eqBool_symm eqStr_symm)

theorem keyEq_cases (kt : TypeId) (hp : plainKey (E.desc kt) = true) : keyEq E kt = eqInt ∨ keyEq E kt = eqStr ∨ keyEq E kt = eqBool ∨ keyEq E kt = fun _ _ => none := by
  unfold keyEq
  cases hd : E.desc kt with
  | none => exact .inr (.inr (.inr rfl))
  | some d =>
    rw [hd] at hp
    cases d <;> first
    | exact .inl rfl
    | exact .inr (.inl rfl)
    | exact .inr (.inr (.inl rfl))
    | (simp [plainKey] at hp; done)
    | exact .inr (.inr (.inr rfl))

theorem keyEq_flat {kt : TypeId} {a b : V} (hp : plainKey (E.desc kt) = true) (h : keyEq E kt a b = some false) : flatNe a b := by
  rcases keyEq_cases (E := E) kt hp with e | e | e | e <;> rw [e] at h
  · exact .inl h
  · exact .inr (.inr h)
  · exact .inr (.inl h)
  · cases h

/-- a key that is not another one's, by whichever type -/
theorem keyEq_other {kt' : TypeId} {a b : V} (hp : plainKey (E.desc kt') = true) (h : flatNe a b) (hb : keyOk E kt' b = true) : keyEq E kt' b a = some false := by
  unfold keyOk at hb
  cases he : keyEq E kt' b b with
  | none => rw [he] at hb; cases hb
  | some c =>
    rcases keyEq_cases (E := E) kt' hp with e | e | e | e <;> rw [e] at he ⊢
    · rcases h with h | h | h
      · exact eqInt_symm h
      · cases b <;> simp [eqInt] at he
        cases a <;> simp [eqBool] at h
      · cases b <;> simp [eqInt] at he
        cases a <;> simp [eqStr] at h
    · rcases h with h | h | h
      · cases b <;> simp [eqStr] at he
        cases a <;> simp [eqInt] at h
      · cases b <;> simp [eqStr] at he
        cases a <;> simp [eqBool] at h
      · exact eqStr_symm h
    · rcases h with h | h | h
      · cases b <;> simp [eqBool] at he
        cases a <;> simp [eqInt] at h
      · exact eqBool_symm h
      · cases b <;> simp [eqBool] at he
        cases a <;> simp [eqStr] at h
    · cases he

theorem findV_of_false {kt : TypeId} {k : V} : ∀ {es : List (V × V × Nat)}, (∀ x ∈ es, keyEq E kt k x.1 = some false) → findV (keyEq E kt k) es = some none
  | [], _ => rfl
  | (k', v, b) :: es, h => by
    have h1 := h (k', v, b) List.mem_cons_self
    simp only at h1
    simp only [findV, h1]
    exact findV_of_false (fun x hx => h x (List.mem_cons_of_mem _ hx))

/-- the entries' keys and values -/
def kvOf (es : List (V × V × Nat)) : List (V × V) := es.map fun e => (e.1, e.2.1)

theorem EntsR.kv {φ : Map} : ∀ {es es' : List (V × V × Nat)} {ds : List MapEntry}, kvOf es = kvOf es' → EntsR φ es ds → EntsR φ es' ds
  | [], [], _, _, h => h
  | [], _ :: _, _, h, _ => by simp [kvOf] at h
  | _ :: _, [], _, h, _ => by simp [kvOf] at h
  | e :: es, e' :: es', _, h, ⟨c, cs, hc, r, rs⟩ => by
    simp only [kvOf, List.map_cons, List.cons.injEq, Prod.mk.injEq] at h
    exact ⟨c, cs, hc, ⟨h.1.1 ▸ r.1, h.1.2 ▸ r.2⟩, EntsR.kv h.2 rs⟩

theorem EntsR.split {φ : Map} : ∀ {es fs : List (V × V × Nat)} {ds : List MapEntry}, EntsR φ (es ++ fs) ds → ∃ a b, ds = a ++ b ∧ EntsR φ es a ∧ EntsR φ fs b
  | [], _, _, h => ⟨[], _, rfl, rfl, h⟩
  | e :: es, fs, _, ⟨c, cs, hc, r, rs⟩ => by
    obtain ⟨a, b, rfl, h1, h2⟩ := EntsR.split (es := es) (fs := fs) rs
    exact ⟨c :: a, b, hc, ⟨c, a, rfl, r, h1⟩, h2⟩

/-- one entry among the others, elsewhere -/
theorem ObB.moved {φ : Map} {l : Loc} {A B es : List (V × V × Nat)} {e : V × V × Nat} {c c' : Nat} {ob : Option Obj} (hkv : kvOf es = kvOf (A ++ [e] ++ B)) (h : ObB φ l (.map (A ++ B ++ [e]) c false) ob) : ObB φ l (.map es c' false) ob := by
  obtain ⟨hro, cs, ds, clock, h1, h2, h3, h4⟩ := h
  obtain ⟨ab, d, rfl, g1, g2⟩ := h2.split
  obtain ⟨a, b, rfl, g3, g4⟩ := g1.split
  refine ⟨hro, cs, a ++ d ++ b, clock, h1, ?_, ?_, ?_⟩
  · exact EntsR.kv hkv.symm ((g3.append g2).append g4)
  · refine List.Perm.trans ?_ h3
    rw [List.append_assoc, List.append_assoc]
    exact List.Perm.append_left a List.perm_append_comm
  · have hk : es.map (·.1) = (A ++ [e] ++ B).map (·.1) := by
      have := congrArg (List.map Prod.fst) hkv
      simpa [kvOf, Function.comp_def] using this
    have h5 : ((A ++ B ++ [e]).map (·.1)).Pairwise flatNe := by rw [List.pairwise_map]; exact h4
    have h6 : ((A ++ [e] ++ B).map (·.1)).Pairwise flatNe := by
      refine (List.Perm.pairwise_iff (fun {x y} h => flatNe_symm h) ?_).1 h5
      refine List.Perm.map _ ?_
      rw [List.append_assoc, List.append_assoc]
      exact List.Perm.append_left A List.perm_append_comm
    rw [← hk, List.pairwise_map] at h6
    exact h6
end

section
variable {st : Nat → S} {frm : Nat → Fr} {lg : Nat → List (Nat × Bool)} {ops : Array Oper} {E : Env} {P : Program} {G : MC → MC → Prop} {self : Self} {cx : Cx} {p : Nat} (L : Lay E P G self cx ops p st frm lg)
variable {X : Nat → Prop} (hX : Cut ops p X) {j : Nat} {o : Oper} (hj : j < p) (hn : ¬ X j) (ho : ops.toList[j]? = some o) (he : ∀ k ∈ edgesOf o, X k) {r : Nat} (hr : insAt ops.toList lg j = some r)
include L hX hj hn ho he hr

omit hX hn ho he hr hj in
theorem Lay.leNone {k r : Nat} (hk : k < p) (h : insAt ops.toList lg k = some r) : leAt ops.toList frm lg k = none := by
  obtain ⟨o1, t, m, kx, vx, kt, et, es, c, q, g1, I⟩ := L.ins hk h
  simp only [leAt, g1, leOf, I.op]

omit hX hn ho he hr hj in
theorem Lay.noLook {k r : Nat} (hk : k < p) (h : insAt ops.toList lg k = some r) : NoLook (leAt ops.toList frm lg k) := fun t r k' e => by rw [L.leNone hk h] at e; cases e

omit hX hn ho he hr hj in
theorem Lay.noEnt {k r : Nat} (hk : k < p) (h : insAt ops.toList lg k = some r) {a : Option (Bool × Nat × Nat × V)} : lookEnt a (leAt ops.toList frm lg k) = false := by
  rw [L.leNone hk h]
  cases a with
  | none => rfl
  | some x =>
    obtain ⟨b', t, r, k⟩ := x
    cases b' <;> rfl

theorem Lay.insWr : (r, true) ∈ lg j := by
  obtain ⟨_, _, _, _, _, _, _, _, _, _, _, I⟩ := L.ins hj hr
  rw [I.lg]; simp

theorem Lay.insR : r < (st j).n := by
  obtain ⟨_, _, _, _, _, _, _, _, _, _, _, I⟩ := L.ins hj hr
  rcases Nat.lt_or_ge r (st j).n with h | h
  · exact h
  · have := L.bound (Nat.le_of_lt hj) h
    rw [I.was] at this; simp at this

omit hX hn ho he hr hj in
/-- who else writes the map puts an entry too, or stands in order -/
theorem Lay.insOther {k : Nat} (hk : k < p) (hw : Wr st lg k r) : insAt ops.toList lg k = some r ∨ (∀ r', insAt ops.toList lg k = some r' → False) := by
  cases h : insAt ops.toList lg k with
  | none => exact .inr (fun _ h => by cases h)
  | some r' =>
    obtain ⟨_, _, _, _, _, _, _, _, _, _, _, I⟩ := L.ins hk h
    rcases hw with hw | hw
    · rw [I.lg] at hw
      simp only [List.mem_cons, Prod.mk.injEq, and_true, List.not_mem_nil, or_false, Bool.true_eq_false, and_false] at hw
      exact .inl (by rw [hw])
    · have := I.n; omega

/-- a writer of the map that is no entry is ahead of this one if it stands ahead of it -/
theorem Lay.insAhead {k : Nat} (hk : k < j) (hw : Wr st lg k r) (hi : insAt ops.toList lg k = none) : X k := by
  refine Classical.byContradiction fun hx => ?_
  obtain ⟨a1, _, a3, _⟩ := apartOk_spec (L.apart1 hX hj hn ho he hk hx) (by show sameIns (insAt _ _ k) _ = false; rw [hi]; rfl) (L.noEnt hj hr)
  have hm := L.insWr hX hj hn ho he hr
  rcases hw with hw | hw
  · exact a3 r hw _ hm rfl
  · exact a1 _ hm hw

theorem Lay.insBehind {k : Nat} (hk : j < k) (hx : X k) (hw : Wr st lg k r) : insAt ops.toList lg k = some r := by
  rcases L.insOther (hX.sub k hx) hw with h | h
  · exact h
  · exfalso
    have hi : insAt ops.toList lg k = none := by
      cases hh : insAt ops.toList lg k with
      | none => rfl
      | some r' => exact (h r' hh).elim
    obtain ⟨a1, a2, a3, a4⟩ := apartOk_spec (L.apart2 hX hj hn ho he hk hx) (by show sameIns _ (insAt _ _ k) = false; rw [hi]; exact sameIns_none _) (lookEnt_no (L.noLook hj hr))
    have hm := L.insWr hX hj hn ho he hr
    rcases hw with hw | hw
    · exact a4 r hw _ hm rfl
    · exact a2 _ hm hw

/-- what the map has now, against what it had in the text's order -/
def InsRel (a b : Option Ob) : Prop :=
  a = b ∨ ∃ es c o es' c' o', a = some (.map es c o) ∧ b = some (.map es' c' o') ∧ (∀ e ∈ es, ∃ e' ∈ es', e'.1 = e.1) ∧ (o = true → atMost1 es = true ∨ (o' = true ∧ es' = es))

theorem Lay.insBefore : ∀ k, k ≤ j → InsRel (hAt ops st frm lg X r k) ((st k).h.get r)
  | 0, _ => .inl rfl
  | k + 1, hk => by
    have ih := Lay.insBefore k (by omega)
    have hkp : k < p := by omega
    by_cases hw : Wr st lg k r
    · rcases L.insOther hkp hw with hi | hi
      · obtain ⟨o1, t, m, kx, vx, kt, et, es', c', o', h1, I⟩ := L.ins hkp hi
        have hadd := L.add hkp hi
        by_cases hx : X k
        · rw [hAt, if_pos ⟨hx, hw⟩, if_pos hi, hadd]
          rcases ih with e | ⟨es, c, o, es1, c1, o1', e1, e2, e3, e4⟩
          · rw [e]; exact .inl rfl
          · rw [e1, e2]
            refine .inr ⟨_, _, _, _, _, _, rfl, rfl, fun e he => ?_, fun h => ?_⟩
            · rcases List.mem_append.1 he with he | he
              · obtain ⟨e', h1, h2⟩ := e3 e he
                exact ⟨e', List.mem_append_left _ h1, h2⟩
              · exact ⟨(kvAt ops frm k |>.1, kvAt ops frm k |>.2, c1), List.mem_append_right _ List.mem_cons_self, by rw [List.mem_singleton.1 he]⟩
            · rw [Bool.and_eq_true] at h
              have : es = [] := by cases es with
                | nil => rfl
                | cons a l => simp [noEntry] at h
              subst this
              exact .inl rfl
        · rw [hAt, if_neg (fun h => hx h.1), hadd, I.was]
          have hroom : ∀ {b : Bool}, b = o' → b = true → atMost1 es' = true := fun {b} hb ht => by
            have := I.room
            rw [← hb, ht] at this
            simpa using this
          rcases ih with e | ⟨es, c, o, es1, c1, o1', e1, e2, e3, e4⟩
          · rw [e, I.was]
            exact .inr ⟨_, _, _, _, _, _, rfl, rfl, fun e he => ⟨e, List.mem_append_left _ he, rfl⟩, fun h => .inl (hroom rfl h)⟩
          · rw [e1]
            rw [I.was] at e2
            simp only [Option.some.injEq, Ob.map.injEq] at e2
            obtain ⟨rfl, rfl, rfl⟩ := e2
            refine .inr ⟨_, _, _, _, _, _, rfl, rfl, fun e he => ?_, fun h => .inl ?_⟩
            · obtain ⟨e', h1, h2⟩ := e3 e he
              exact ⟨e', List.mem_append_left _ h1, h2⟩
            · rcases e4 h with h | ⟨h1, h2⟩
              · exact h
              · rw [← h2]; exact hroom rfl h1
      · have hi' : insAt ops.toList lg k = none := by
          cases hh : insAt ops.toList lg k with
          | none => rfl
          | some r' => exact (hi r' hh).elim
        have hx := L.insAhead hX hj hn ho he hr (by omega) hw hi'
        rw [hAt, if_pos ⟨hx, hw⟩, if_neg (by rw [hi']; simp)]
        exact .inl rfl
    · rw [hAt, if_neg (fun h => hw h.2), L.same hkp hw]
      exact ih

/-- the key of this entry is there when a later one of those done came, in the text's order -/
theorem Lay.insThere {k : Nat} (hk : j < k) (hx : X k) (hi : insAt ops.toList lg k = some r) : ∀ m, j < m → m ≤ k → ∃ es c q, (st m).h.get r = some (.map es c q) ∧ ∃ e ∈ es, e.1 = (kvAt ops frm j).1 := by
  have hkp := hX.sub k hx
  intro m
  induction m with
  | zero => intro h; omega
  | succ m ih =>
    intro h1 h2
    by_cases hmj : m = j
    · subst hmj
      obtain ⟨o1, t, mm, kx, vx, kt, et, es, c, q, g1, I⟩ := L.ins hj hr
      refine ⟨_, _, _, I.is, _, List.mem_append_right _ List.mem_cons_self, ?_⟩
      simp [kvAt, g1, I.op]
    · obtain ⟨es, c, q, g1, e, g2, g3⟩ := ih (by omega) (by omega)
      by_cases hw : Wr st lg m r
      · rcases L.insOther (k := m) (by omega) hw with hm | hm
        · rw [L.add (by omega) hm, g1]
          exact ⟨_, _, _, rfl, e, List.mem_append_left _ g2, g3⟩
        · exfalso
          have hm' : insAt ops.toList lg m = none := by
            cases hh : insAt ops.toList lg m with
            | none => rfl
            | some r' => exact (hm r' hh).elim
          have hjm : ordered (beforeOf ops.toList) j m = true := by
            rcases L.rel j m (by omega) (by omega) with h | h
            · exact h
            · exfalso
              obtain ⟨a1, a2, a3, a4⟩ := apartOk_spec h (by show sameIns _ (insAt _ _ m) = false; rw [hm']; exact sameIns_none _) (lookEnt_no (L.noLook hj hr))
              have hmm := L.insWr hX hj hn ho he hr
              rcases hw with hw | hw
              · exact a4 r hw _ hmm rfl
              · exact a2 _ hmm hw
          have hmk : ordered (beforeOf ops.toList) m k = true := by
            rcases L.rel m k (by omega) hkp with h | h
            · exact h
            · exfalso
              obtain ⟨a1, a2, a3, a4⟩ := apartOk_spec h (by show sameIns (insAt _ _ m) _ = false; rw [hm']; rfl) (L.noEnt hkp hi)
              have hkk : (r, true) ∈ lg k := by
                obtain ⟨_, _, _, _, _, _, _, _, _, _, _, I⟩ := L.ins hkp hi
                rw [I.lg]; simp
              rcases hw with hw | hw
              · exact a3 r hw _ hkk rfl
              · exact a1 _ hkk hw
          exact hn (L.before' hX (L.before' hX hx hmk) hjm)
      · rw [L.same (by omega) hw]
        exact ⟨es, c, q, g1, e, g2, g3⟩

def adds (l : List (V × V)) (o : Option Ob) : Option Ob := l.foldl (fun o e => addEnt e o) o

theorem Lay.insAfter : ∀ m, j ≤ m → m ≤ p → ∃ l : List (V × V), (∀ e ∈ l, flatNe e.1 (kvAt ops frm j).1) ∧ hAt ops st frm lg X r m = adds l (hAt ops st frm lg X r j) ∧
    (j < m → hAt ops st frm lg (fun i => X i ∨ i = j) r m = adds l (addEnt (kvAt ops frm j) (hAt ops st frm lg X r j)))
  | 0, h1, h2 => by
    have : j = 0 := by omega
    subst this
    exact ⟨[], by simp, rfl, fun h => by omega⟩
  | m + 1, h1, h2 => by
    by_cases hmj : j = m + 1
    · rw [← hmj]; exact ⟨[], by simp, rfl, fun h => by omega⟩
    · obtain ⟨l, g1, g2, g3⟩ := Lay.insAfter m (by omega) (by omega)
      have hsame : hAt ops st frm lg (fun i => X i ∨ i = j) r j = hAt ops st frm lg X r j := hAt_congr fun k hk _ => ⟨fun h => h.resolve_right (by omega), .inl⟩
      by_cases hm : m = j
      · subst hm
        have hl : l = [] ∨ True := .inr trivial
        refine ⟨[], by simp, ?_, fun _ => ?_⟩
        · rw [hAt, if_neg (fun h => hn h.1)]; rfl
        · rw [hAt, if_pos ⟨.inr rfl, .inl (L.insWr hX hj hn ho he hr)⟩, if_pos hr, hsame]; rfl
      · have hjm : j < m := by omega
        by_cases hw : X m ∧ Wr st lg m r
        · have hi := L.insBehind hX hj hn ho he hr hjm hw.1 hw.2
          have hw' : (fun i => X i ∨ i = j) m ∧ Wr st lg m r := ⟨.inl hw.1, hw.2⟩
          refine ⟨l ++ [kvAt ops frm m], ?_, ?_, fun _ => ?_⟩
          · intro e hem
            rcases List.mem_append.1 hem with hem | hem
            · exact g1 e hem
            · rw [List.mem_singleton.1 hem]
              obtain ⟨es, c, q, q1, e', q2, q3⟩ := L.insThere hX hj hn ho he hr hjm hw.1 hi m hjm (Nat.le_refl _)
              obtain ⟨o1, t, mm, kx, vx, kt, et, es1, c1, o1', w1, I⟩ := L.ins (hX.sub m hw.1) hi
              rw [I.was] at q1
              simp only [Option.some.injEq, Ob.map.injEq] at q1
              obtain ⟨rfl, rfl, rfl⟩ := q1
              have := findV_none I.find e' q2
              have := keyEq_flat I.plain this
              rw [q3] at this
              have hkv : (kvAt ops frm m).1 = opd kx (frm m) := by simp [kvAt, w1, I.op]
              rw [hkv]; exact this
          · rw [hAt, if_pos hw, if_pos hi, g2]
            simp [adds, List.foldl_append]
          · rw [hAt, if_pos hw', if_pos hi, g3 hjm]
            simp [adds, List.foldl_append]
        · refine ⟨l, g1, ?_, fun _ => ?_⟩
          · rw [hAt, if_neg hw]; exact g2
          · rw [hAt, if_neg (fun h => hw ⟨h.1.resolve_right hm, h.2⟩)]; exact g3 hjm
end
end Go.AM

namespace Go.AM
open Go
set_option linter.unusedVariables false
set_option linter.unusedSimpArgs false
open Classical

theorem adds_spec : ∀ (l : List (V × V)) (es : List (V × V × Nat)) (c : Nat) (q : Bool), ∃ es2 c2 q2, adds l (some (.map es c q)) = some (.map es2 c2 q2) ∧ kvOf es2 = kvOf es ++ l ∧
    ((l = [] ∧ es2 = es ∧ c2 = c ∧ q2 = q) ∨ (l ≠ [] ∧ (q2 = true → es = [] ∧ l.length = 1)))
  | [], es, c, q => ⟨es, c, q, rfl, by simp, .inl ⟨rfl, rfl, rfl, rfl⟩⟩
  | e :: l, es, c, q => by
    obtain ⟨es2, c2, q2, h1, h2, h3⟩ := adds_spec l (es ++ [(e.1, e.2, c)]) (Nat.succ c) (and q (noEntry es))
    refine ⟨es2, c2, q2, h1, ?_, .inr ⟨by simp, fun hq => ?_⟩⟩
    · rw [h2]; simp [kvOf]
    · rcases h3 with ⟨rfl, _, _, rfl⟩ | ⟨_, h⟩
      · rw [Bool.and_eq_true] at hq
        refine ⟨?_, rfl⟩
        cases es with
        | nil => rfl
        | cons a l => simp [noEntry] at hq
      · have := (h hq).1
        simp at this

theorem guardOk_like {ops : List Oper} {fr fr' : Fr} {g : Option (Nat × Bool)} (h : ∀ t ∈ guardTmp ops g, fr.tm.get t = fr'.tm.get t) : guardOk ops fr g = guardOk ops fr' g := by
  unfold guardOk
  cases g with
  | none => rfl
  | some g =>
    obtain ⟨j, b⟩ := g
    simp only
    cases hj : ops[j]? with
    | none => rfl
    | some o' =>
      simp only
      cases hd : o'.dst with
      | none => rfl
      | some d =>
        simp only
        rw [h d (by simp [guardTmp, hj, hd, optL])]

section
variable {st : Nat → S} {frm : Nat → Fr} {lg : Nat → List (Nat × Bool)} {ops : Array Oper} {E : Env} {P : Program} {G : MC → MC → Prop} {self : Self} {cx : Cx} {p : Nat} {φ₀ : Map} {w₀ : World}

theorem ins_step {L : Lay E P G self cx ops p st frm lg} {X : Nat → Prop} {φ : Map} {a : Act} {w : World} {b : Frame} {k : List Item} {cs : List Frame} {rest : List Nat} {j r : Nat} {o : Oper}
    (hg : GlobOk E.ng φ₀) (hgf : GlobOk (frm 0).ng φ₀) (hrel₀ : Rel φ₀ (st 0) w₀) (hI : Inv ops cx p st frm lg φ₀ w₀ X φ a w) (hX : Cut ops p X) (hj : j < p) (hn : ¬ X j) (ho : ops.toList[j]? = some o) (he : ∀ i ∈ edgesOf o, X i) (hr : insAt ops.toList lg j = some r) :
    ∃ φ' a' w', Inv ops cx p st frm lg φ₀ w₀ (fun i => X i ∨ i = j) φ' a' w' ∧ G (lone (Frame.put b a (.inRegion ops (j :: rest) :: k)) cs w, cnt E (atS ops p st frm lg X)) (lone (Frame.put b a' (.inRegion ops rest :: k)) cs w', cnt E (atS ops p st frm lg (fun i => X i ∨ i = j))) := by
  obtain ⟨o', t, m, kx, vx, kt, et, es0, c0, q0, ho', I⟩ := L.ins hj hr
  rw [ho] at ho'; cases ho'
  have hrN : r < (st p).n := Nat.lt_of_lt_of_le (L.insR hX hj hn ho he hr) (L.mono (Nat.le_of_lt hj) (Nat.le_refl _))
  have hkv : kvAt ops frm j = (opd kx (frm j), opd vx (frm j)) := by simp [kvAt, ho, I.op]
  have hkok : keyOk E kt (opd kx (frm j)) = true := by
    have := I.key
    rw [Bool.and_eq_true] at this; exact this.2
  -- what the map has now
  obtain ⟨l, hl1, hl2, hl3⟩ := L.insAfter hX hj hn ho he hr p (Nat.le_of_lt hj) (Nat.le_refl _)
  have hl3 := hl3 hj
  obtain ⟨esX, cX, qX, hXj, hXk, hXroom⟩ : ∃ es c q, hAt ops st frm lg X r j = some (.map es c q) ∧ (∀ e ∈ es, flatNe e.1 (kvAt ops frm j).1) ∧ and q (not (atMost1 es)) = false := by
    have hf := fun e he => flatNe_symm (keyEq_flat I.plain (findV_none I.find e he))
    rcases L.insBefore hX hj hn ho he hr j (Nat.le_refl _) with e | ⟨es, c, q, es1, c1, q1, e1, e2, e3, e4⟩
    · rw [I.was] at e
      exact ⟨es0, c0, q0, e, by rw [hkv]; exact hf, I.room⟩
    · rw [I.was] at e2
      simp only [Option.some.injEq, Ob.map.injEq] at e2
      obtain ⟨rfl, rfl, rfl⟩ := e2
      refine ⟨es, c, q, e1, fun e he => ?_, ?_⟩
      · obtain ⟨e', h1, h2⟩ := e3 e he
        rw [hkv, ← h2]; exact hf e' h1
      · cases hq : q with
        | false => rfl
        | true =>
          rcases e4 hq with h | ⟨h1, h2⟩
          · rw [h]; rfl
          · have := I.room
            rw [h1] at this
            rw [← h2]; exact this
  rw [hXj] at hl2 hl3
  obtain ⟨esp, cp, qp, hp1, hp2, hp3⟩ := adds_spec l esX cX qX
  rw [hp1] at hl2
  have hkeys : ∀ e ∈ esp, flatNe e.1 (kvAt ops frm j).1 := fun e hem => by
    have hm : (e.1, e.2.1) ∈ kvOf esp := List.mem_map.2 ⟨e, hem, rfl⟩
    rw [hp2] at hm
    rcases List.mem_append.1 hm with hm | hm
    · obtain ⟨e', h1, h2⟩ := List.mem_map.1 hm
      have : e'.1 = e.1 := (Prod.mk.inj h2).1
      rw [← this]; exact hXk e' h1
    · exact hl1 _ hm
  have hfind : findV (keyEq E kt (opd kx (frm j))) esp = some none := findV_of_false fun e hem => keyEq_other (kt' := kt) (a := e.1) (b := opd kx (frm j)) I.plain (by have := hkeys e hem; rw [hkv] at this; exact this) hkok
  have hroom : and qp (not (atMost1 esp)) = false := by
    rcases hp3 with ⟨_, h1, _, h2⟩ | ⟨hne, h⟩
    · rw [h1, h2]; exact hXroom
    · cases hq : qp with
      | false => rfl
      | true =>
        obtain ⟨h1, h2⟩ := h hq
        have : (kvOf esp).length = 1 := by rw [hp2, h1]; simp [kvOf, h2]
        have : esp.length = 1 := by simpa [kvOf] using this
        cases esp with
        | nil => simp at this
        | cons e l => cases l with
          | nil => rfl
          | cons _ _ => simp at this
  -- the operation's state and frame
  let sc : S := ⟨trOf (st p).n (fun id => hAt ops st frm lg X id p), (st p).n, []⟩
  have hsc : ∀ id, sc.h.get id = if id < (st p).n then hAt ops st frm lg X id p else none := fun id => get_trOf _ _ _
  have hscr : sc.h.get r = some (.map esp cp qp) := by rw [hsc, if_pos hrN]; exact hl2
  let φu : Map := ⟨φ.f, fun id => id < (st p).n ∧ φ id = none⟩
  have hrelu : Rel φu sc w := ⟨fun id ob h => let ⟨l, h1, h2⟩ := hI.rel.obj id ob h; ⟨l, h1, ObB.core (φ := φ) (ψ := φu) (fun id l _ h => ⟨l, h, .refl _⟩) h2⟩, hI.rel.inj, hI.rel.dom, hI.rel.bnd, fun id h => h⟩
  have hcu : Core φ₀ φu := fun id l _ h => ⟨l, hI.keep.ext id l h, .refl _⟩
  have hcφ : Core φ φu := fun id l _ h => ⟨l, h, .refl _⟩
  let M := cx.nt + (namesOf ops.toList o).foldl (fun x y => x + y + 1) 0 + 1
  have hM : ∀ t ∈ namesOf ops.toList o, t < M := by
    have : ∀ (l : List Nat) (x : Nat), x ≤ l.foldl (fun x y => x + y + 1) x ∧ ∀ t ∈ l, t < l.foldl (fun x y => x + y + 1) x := by
      intro l
      induction l with
      | nil => intro x; exact ⟨Nat.le_refl _, by simp⟩
      | cons y l ih =>
        intro x
        obtain ⟨h1, h2⟩ := ih (x + y + 1)
        simp only [List.foldl_cons]
        refine ⟨by omega, fun t ht => ?_⟩
        rcases List.mem_cons.1 ht with rfl | ht
        · omega
        · exact h2 t ht
    intro t ht
    have := (this _ 0).2 t ht
    exact Nat.lt_of_lt_of_le this (Nat.le_trans (Nat.le_add_left _ _) (Nat.le_succ _))
  let tm' : Tr V := trOf M (fun t => if t ∈ namesOf ops.toList o then (frm j).tm.get t else if t < cx.nt then some (absV (a.tmps.getD t undef)) else none)
  have htm' : ∀ t, tm'.get t = if t < M then (if t ∈ namesOf ops.toList o then (frm j).tm.get t else if t < cx.nt then some (absV (a.tmps.getD t undef)) else none) else none := fun t => get_trOf _ _ _
  have hnam : ∀ t ∈ namesOf ops.toList o, tm'.get t = (frm j).tm.get t := fun t ht => by rw [htm', if_pos (hM t ht), if_pos ht]
  obtain ⟨hc1, hc2, hc3⟩ := L.const (k := j) (Nat.le_of_lt hj)
  let fr' : Fr := ⟨tm', (frm j).ds, (frm j).rc, (frm j).ng⟩
  have hfr' : FrR φu cx fr' a := by
    refine ⟨⟨hI.size, fun t => ?_⟩, ?_, ?_⟩
    · show VR φu (tmV tm' t) _
      by_cases ht : t ∈ namesOf ops.toList o
      · have e : tmV tm' t = tmV (frm j).tm t := by simp only [tmV, hnam t ht]
        rw [e]
        have h1 := hI.tm t
        rw [L.tmOld hX hj hn ho he ht] at h1
        exact h1.core hcφ
      · simp only [tmV, htm', if_neg ht]
        by_cases hM' : t < M
        · rw [if_pos hM']
          by_cases hnt : t < cx.nt
          · rw [if_pos hnt]; exact VR_absV φu _
          · rw [if_neg hnt]
            have : a.tmps.getD t undef = undef := by
              rw [Array.getD_eq_getD_getElem?, Array.getElem?_eq_none (by rw [hI.size]; omega)]; rfl
            rw [this]; exact ⟨#[], rfl, rfl⟩
        · rw [if_neg hM']
          have : a.tmps.getD t undef = undef := by
            rw [Array.getD_eq_getD_getElem?, Array.getElem?_eq_none (by rw [hI.size]; exact Nat.le_trans (Nat.le_trans (Nat.le_add_right _ _) (Nat.le_succ _)) (Nat.not_lt.1 hM'))]; rfl
          rw [this]; exact ⟨#[], rfl, rfl⟩
    · show DsR φu (frm j).ds _
      rw [hc1]; exact hI.ds.core hcφ
    · show GlobOk (frm j).ng φu
      rw [hc3]; exact hgf.core hcu
  have hopd : ∀ x ∈ opsOf o.op, opd x (frm j) = opd x fr' := fun x hx => by
    cases x with
    | tmp t =>
      have ht : t ∈ namesOf ops.toList o := by
        simp only [namesOf, List.mem_append]
        refine .inr (.inr ?_)
        have : ∀ l : List Operand, Operand.tmp t ∈ l → t ∈ tmpsOf l := by
          intro l
          induction l with
          | nil => simp
          | cons y l ih =>
            intro h
            rcases List.mem_cons.1 h with e | h2
            · subst e; simp [tmpsOf]
            · have := ih h2
              clear h
              cases y with
              | tmp u => exact List.mem_cons_of_mem _ this
              | const _ => exact this
              | global _ => exact this
              | func _ => exact this
        exact this _ hx
      have e : tmV tm' t = tmV (frm j).tm t := by simp only [tmV, hnam t ht]
      exact e.symm
    | const v => rfl
    | global g => rfl
    | func f => rfl
  have e1 : opd m fr' = .map (some r) := by rw [← hopd m (by rw [I.op]; simp [opsOf])]; exact I.map
  have e2 : opd kx fr' = opd kx (frm j) := (hopd kx (by rw [I.op]; simp [opsOf])).symm
  have e3 : opd vx fr' = opd vx (frm j) := (hopd vx (by rw [I.op]; simp [opsOf])).symm
  have hgd : guardOk ops.toList fr' o.guard = true := by
    rw [← I.guard]
    exact (guardOk_like fun t ht => (hnam t (by simp only [namesOf, List.mem_append]; exact .inr (.inl ht))).symm).symm
  let t' : S := (sc.rd r).wr r (some (.map (esp ++ [(opd kx (frm j), opd vx (frm j), cp)]) (Nat.succ cp) (and qp (noEntry esp))))
  have hexec : exec1 E self (drawCx cx) ops.toList o fr' sc = .go fr' t' := by
    unfold exec1
    rw [hgd]
    simp only [cond_true]
    have hev : (exec o.op E fr').eval sc = some (.val undefV, t') := by
      rw [I.op]
      show (insertAt E t (opd m fr') (opd kx fr') (opd vx fr')).eval sc = _
      rw [e1, e2, e3]
      exact insertAt_eval_of I.desc I.key hscr hroom hfind
    rw [Q.run_some _ _ _ _ _ _ hev, I.dst]
    rfl
  obtain ⟨φ', c, w', v', _, hk, hrel', _, hst⟩ := exec1_val (b := b) (k := k) (cs := cs) (rest := rest) L.hE L.hs (hg.core hcu) hrelu hfr' (by simpa using ho) (L.opOk ho).1 hexec
  have hφ : ∀ id, φ' id = φ id := fun id => by
    by_cases hlt : id < (st p).n
    · cases hp : φ id with
      | none => exact (hrel'.un id (by rw [hk.un]; exact ⟨hlt, hp⟩)).2
      | some l => exact hk.ext id l hp
    · rw [hrel'.dom id (Nat.not_lt.1 hlt)]
      exact (hI.rel.dom id (Nat.not_lt.1 hlt)).symm
  have hcb : Core φ' φ := fun id l _ h => ⟨l, by rw [← hφ]; exact h, .refl _⟩
  have ht' : ∀ id, id ≠ r → t'.h.get id = sc.h.get id := fun id h => by
    show ((sc.rd r).h.put r _).get id = _
    rw [Tr.get_put, if_neg h]; rfl
  have ht'r : t'.h.get r = some (.map (esp ++ [(opd kx (frm j), opd vx (frm j), cp)]) (Nat.succ cp) (and qp (noEntry esp))) := by
    show ((sc.rd r).h.put r _).get r = _
    rw [Tr.get_put, if_pos rfl]
  have hnew : ∀ id, (⟨trOf (st p).n (fun id => hAt ops st frm lg (fun i => X i ∨ i = j) id p), (st p).n, []⟩ : S).h.get id = if id < (st p).n then hAt ops st frm lg (fun i => X i ∨ i = j) id p else none := fun id => get_trOf _ _ _
  have hoth : ∀ id, id ≠ r → (⟨trOf (st p).n (fun id => hAt ops st frm lg (fun i => X i ∨ i = j) id p), (st p).n, []⟩ : S).h.get id = t'.h.get id := fun id h => by
    rw [hnew, ht' id h, hsc]
    split
    · refine Lay.other (p := p) (X := X) ?_
      rintro (hw | hw)
      · rw [I.lg] at hw
        simp only [List.mem_cons, Prod.mk.injEq, and_true, List.not_mem_nil, or_false, Bool.true_eq_false, and_false] at hw
        exact h hw
      · have := I.n; omega
    · rfl
  -- the map itself
  obtain ⟨es2, c2, q2, g1, g2, g3⟩ := adds_spec l (esX ++ [(opd kx (frm j), opd vx (frm j), cX)]) (Nat.succ cX) (and qX (noEntry esX))
  have hnewr : (⟨trOf (st p).n (fun id => hAt ops st frm lg (fun i => X i ∨ i = j) id p), (st p).n, []⟩ : S).h.get r = some (.map es2 c2 q2) := by
    rw [hnew, if_pos hrN, hl3, hkv]
    exact g1
  have hmoved : ∀ {ψ : Map} {lo : Loc} {ob : Option Obj}, ObB ψ lo (.map (esp ++ [(opd kx (frm j), opd vx (frm j), cp)]) (Nat.succ cp) (and qp (noEntry esp))) ob → ObB ψ lo (.map es2 c2 q2) ob := by
    intro ψ lo ob h
    rcases g3 with ⟨hnil, r1, r2, r3⟩ | ⟨hne, hq⟩
    · rcases hp3 with ⟨_, s1, s2, s3⟩ | ⟨hne, _⟩
      · rw [r1, r2, r3, ← s1, ← s2, ← s3]; exact h
      · exact absurd hnil hne
    · have hq2 : q2 = false := by
        cases hh : q2 with
        | false => rfl
        | true =>
          have := (hq hh).1
          simp at this
      have hne' : noEntry esp = false := by
        cases esp with
        | nil =>
          simp only [kvOf, List.map_nil] at hp2
          have := congrArg List.length hp2
          simp only [List.length_nil, List.length_append] at this
          exact absurd (List.length_eq_zero_iff.1 (by omega)) hne
        | cons _ _ => rfl
      rw [hne', Bool.and_false] at h
      rw [hq2]
      refine ObB.moved (A := esp.take esX.length) (B := esp.drop esX.length) (e := (opd kx (frm j), opd vx (frm j), cp)) ?_ (by rw [List.take_append_drop]; exact h)
      have h1 : kvOf (esp.take esX.length) = kvOf esX := by
        have : kvOf (esp.take esX.length) = (kvOf esp).take esX.length := by simp [kvOf, List.map_take]
        rw [this, hp2]
        have : (kvOf esX).length = esX.length := by simp [kvOf]
        rw [← this, List.take_left']
        rfl
      have h2 : kvOf (esp.drop esX.length) = l := by
        have : kvOf (esp.drop esX.length) = (kvOf esp).drop esX.length := by simp [kvOf, List.map_drop]
        rw [this, hp2]
        have : (kvOf esX).length = esX.length := by simp [kvOf]
        rw [← this, List.drop_left']
        rfl
      have h3 : ∀ x y : List (V × V × Nat), kvOf (x ++ y) = kvOf x ++ kvOf y := fun x y => by simp [kvOf]
      rw [g2, h3, h3, h3, h1, h2]
      rfl
  refine ⟨φ, a, w', ⟨⟨?_, ?_, ?_, ?_, ?_⟩, ?_, hI.size, ?_, hI.ds, ?_⟩, ?_⟩
  · intro id ob hob
    by_cases hid : id = r
    · subst hid
      rw [hnewr] at hob
      simp only [Option.some.injEq] at hob
      subst hob
      obtain ⟨lo, h1, h2⟩ := hrel'.obj _ _ ht'r
      exact ⟨lo, by rw [← hφ]; exact h1, (hmoved h2).core hcb⟩
    · rw [hoth id hid] at hob
      obtain ⟨lo, h1, h2⟩ := hrel'.obj _ _ hob
      exact ⟨lo, by rw [← hφ]; exact h1, h2.core hcb⟩
  · intro id id' lo lo' h1 h2 h3 h4 h5
    have hal : ∀ id, (⟨trOf (st p).n (fun id => hAt ops st frm lg (fun i => X i ∨ i = j) id p), (st p).n, []⟩ : S).h.get id ≠ none → t'.h.get id ≠ none := fun id h => by
      by_cases hid : id = r
      · subst hid; rw [ht'r]; simp
      · rw [← hoth id hid]; exact h
    exact hrel'.inj id id' lo lo' (by rw [hφ]; exact h1) (by rw [hφ]; exact h2) (hal id h3) (hal id' h4) h5
  · exact hI.rel.dom
  · intro id lo h
    exact hrel'.bnd id lo (by rw [hφ]; exact h)
  · exact hI.rel.un
  · intro k hkp hkn id h1 h2
    exact hI.gap k hkp (fun h => hkn (.inl h)) id h1 h2
  · intro t
    rw [Lay.tmOther ho (by rw [I.dst]; simp)]
    exact hI.tm t
  · refine ⟨hI.keep.ext, Nat.le_trans hI.keep.size hk.size, fun bl hb hro => ?_, hI.keep.from_, hk.os.trans hI.keep.os, hk.output.trans hI.keep.output, hk.tape.trans hI.keep.tape, hI.keep.un, hI.keep.newro⟩
    rw [hk.same bl (Nat.lt_of_lt_of_le hb hI.keep.size) ?_, hI.keep.same bl hb hro]
    intro id lo hlo e
    have hlo : φ id = some lo := hlo
    rcases hI.keep.from_ id lo hlo with ⟨id', lo', q1, q2, q3⟩ | q
    · have := hro id' lo' q1 (q2.trans e)
      cases hh : lo.ro with
      | true => rfl
      | false => rw [q3 hh] at this; cases this
    · omega
  · rw [I.dst] at hst
    have e : cnt E (atS ops p st frm lg (fun i => X i ∨ i = j)) = cnt E t' := cnt_eq fun i hi => by
      show cntAt ((⟨trOf (st p).n (fun id => hAt ops st frm lg (fun i => X i ∨ i = j) id p), (st p).n, []⟩ : S).h.get i) = _
      by_cases hir : i = r
      · subst hir; rw [hnewr, ht'r]; rfl
      · rw [hoth i hir]
    rw [e]
    exact hst
end
end Go.AM

namespace Go.AM
open Go
set_option linter.unusedVariables false
set_option linter.unusedSimpArgs false
open Classical

/-! ## a look-up, and the same entry made, in either order -/
theorem sameFlat_eq {a b : V} (h : sameFlat a b = true) : a = b := by
  cases a <;> try (simp [sameFlat] at h; done)
  · cases b <;> simp [sameFlat] at h
    subst h; rfl
  · rename_i k n
    cases b <;> simp [sameFlat] at h
    rename_i k' m
    have hkk : k = k' := by cases k <;> cases k' <;> simp_all [kindEq]
    have hn : n = m := by cases n <;> cases m <;> simp_all [eqI]
    subst hkk; subst hn; rfl
  · cases b <;> simp [sameFlat, eqB_eq] at h
    subst h; rfl
  · rename_i xs
    cases b <;> simp [sameFlat] at h
    rename_i ys
    obtain ⟨h1, h2⟩ := h
    cases hf : eqFlat xs ys with
    | none => rw [hf] at h2; cases h2
    | some b =>
      rw [hf] at h2
      simp only at h2
      subst h2
      rw [eqFlat_int h1 hf]

theorem findV_zeros {E : Env} {kt : TypeId} {k z : V} {zs : List (V × V × Nat)} (hk : keyEq E kt k k = some true) (hz : ∀ e ∈ zs, e.1 = k ∧ e.2.1 = z) : ∀ {es : List (V × V × Nat)} {res : Option (V × Nat)}, findV (keyEq E kt k) es = some res →
    ∃ res', findV (keyEq E kt k) (es ++ zs) = some res' ∧ ((∃ p, res = some p ∧ res' = some p) ∨ (res = none ∧ (res' = none ∨ ∃ b, res' = some (z, b))))
  | [], res, h => by
    simp only [findV, Option.some.injEq] at h
    subst h
    cases zs with
    | nil => exact ⟨none, rfl, .inr ⟨rfl, .inl rfl⟩⟩
    | cons e zs =>
      obtain ⟨h1, h2⟩ := hz e List.mem_cons_self
      obtain ⟨a, v, b⟩ := e
      simp only at h1 h2
      subst h1; subst h2
      exact ⟨some (v, b), by simp [findV, hk], .inr ⟨rfl, .inr ⟨b, rfl⟩⟩⟩
  | (a, v, b) :: es, res, h => by
    simp only [findV] at h
    split at h
    · rename_i hkk
      cases h
      exact ⟨some (v, b), by simp [findV, hkk], .inl ⟨_, rfl, rfl⟩⟩
    · rename_i hkk
      obtain ⟨res', h1, h2⟩ := findV_zeros hk hz h
      exact ⟨res', by simp [findV, hkk, h1], h2⟩
    · cases h

theorem keyOk_eq {E : Env} {kt : TypeId} {k : V} (h : keyOk E kt k = true) : keyEq E kt k k = some true := by
  unfold keyOk at h
  split at h
  · rename_i b hb; rw [hb, h]
  · cases h

section
variable {st : Nat → S} {frm : Nat → Fr} {lg : Nat → List (Nat × Bool)} {ops : Array Oper} {E : Env} {P : Program} {G : MC → MC → Prop} {self : Self} {cx : Cx} {p : Nat} (L : Lay E P G self cx ops p st frm lg)
variable {X : Nat → Prop} (hX : Cut ops p X) {j : Nat} {o : Oper} (hj : j < p) (hn : ¬ X j) (ho : ops.toList[j]? = some o) (he : ∀ k ∈ edgesOf o, X k) {t r : Nat} {kv : V} (hr : leAt ops.toList frm lg j = some (true, t, r, kv))
include L hX hj hn ho he hr

omit hX hj hn he L in
theorem look_ins : insAt ops.toList lg j = none := by
  simp only [leAt, ho] at hr
  simp only [insAt, ho, insOf]
  unfold leOf at hr
  cases hop : o.op <;> rw [hop] at hr <;> first
    | (simp [isInsert]; done)
    | (simp at hr; done)

theorem Lay.lookWr (k : Nat) (hk : k < j) (hw : Wr st lg k r) : X k := by
  refine Classical.byContradiction fun hx => ?_
  obtain ⟨o', m, kx, kt, et, te, es, c, ord, res, _, _, I⟩ := L.look hj hr
  have hle : lookEnt (segAt ops.toList st frm lg k).le (segAt ops.toList st frm lg j).le = false := by
    show lookEnt (leAt ops.toList frm lg k) (leAt ops.toList frm lg j) = false
    rw [hr]
    cases leAt ops.toList frm lg k with
    | none => rfl
    | some x => obtain ⟨b, t', r', k'⟩ := x; cases b <;> rfl
  obtain ⟨a1, _, a3, _⟩ := apartOk_spec (L.apart1 hX hj hn ho he hk hx) (by show sameIns _ (insAt _ _ j) = false; rw [look_ins ho hr]; exact sameIns_none _) hle
  have hm : (r, false) ∈ lg j := by rw [I.lg]; simp
  rcases hw with hw | hw
  · exact a3 r hw _ hm rfl
  · exact a1 _ hm hw

theorem Lay.lookAfter {o' : Oper} {m0 kx : Operand} {kt et : TypeId} {te : TI} {es : List (V × V × Nat)} {c : Nat} {ord : Bool} {res : Option (V × Nat)} (hkv : kv = opd kx (frm j)) (I : LookRec E ops st frm lg cx j r o' t m0 kx kt et te es c ord res) :
    ∀ m, j < m → m ≤ p → ∃ zs c', hAt ops st frm lg X r m = some (.map (es ++ zs) c' ord) ∧ ∀ z ∈ zs, z.1 = kv ∧ z.2.1 = zeroOf te := by
  have hnw : ¬ Wr st lg j r := fun hw => by
    rcases hw with hw | hw
    · rw [I.lg] at hw; simp at hw
    · have := I.n; omega
  intro m
  induction m with
  | zero => intro h; omega
  | succ m ih =>
    intro h1 h2
    by_cases hmj : m = j
    · subst hmj
      refine ⟨[], c, ?_, by simp⟩
      rw [hAt, if_neg (fun h => hn h.1), L.hAt_eq (Nat.le_of_lt hj) (fun k hk hw => L.lookWr hX hj hn ho he hr k hk hw), I.was, List.append_nil]
    · obtain ⟨zs, c', g1, g2⟩ := ih (by omega) (by omega)
      by_cases hw : X m ∧ Wr st lg m r
      · have hap := L.apart2 hX hj hn ho he (show j < m by omega) hw.1
        have hij : sameIns (segAt ops.toList st frm lg j).ins (segAt ops.toList st frm lg m).ins = false := by
          show sameIns (insAt _ _ j) _ = false; rw [look_ins ho hr]; rfl
        have hlm : (r, false) ∈ lg j := by rw [I.lg]; simp
        cases hle : lookEnt (segAt ops.toList st frm lg j).le (segAt ops.toList st frm lg m).le with
        | false =>
          exfalso
          obtain ⟨a1, a2, a3, a4⟩ := apartOk_spec hap hij hle
          rcases hw.2 with hw | hw
          · exact a4 r hw _ hlm rfl
          · exact a2 _ hlm hw
        | true =>
          have hle : lookEnt (leAt ops.toList frm lg j) (leAt ops.toList frm lg m) = true := hle
          rw [hr] at hle
          cases hm : leAt ops.toList frm lg m with
          | none => rw [hm] at hle; simp [lookEnt] at hle
          | some x =>
            obtain ⟨b, t', r', k'⟩ := x
            rw [hm] at hle
            cases b with
            | true => simp [lookEnt] at hle
            | false =>
              simp only [lookEnt, Bool.and_eq_true] at hle
              obtain ⟨q1, q2, q3⟩ := hle
              have q1 : t = t' := by simpa using q1
              have q2 : r = r' := by simpa using q2
              have q3 := sameFlat_eq q3
              subst q1; subst q2; subst q3
              obtain ⟨o2, m2, kx2, kt2, et2, te2, es2, c2, u1, u2, J⟩ := L.ent (by omega) hm
              have hd := I.desc.symm.trans J.desc
              simp only [Option.some.injEq, TypeDesc.map.injEq] at hd
              obtain ⟨rfl, rfl⟩ := hd
              have ht := I.elem.symm.trans J.elem
              simp only [Option.some.injEq] at ht
              subst ht
              have hcur : hAt ops st frm lg X r m = (st m).h.get r := L.hAt_eq (by omega) fun k hk hwk => by
                rcases Nat.lt_trichotomy k j with hkj | hkj | hkj
                · exact L.lookWr hX hj hn ho he hr k hkj hwk
                · subst hkj; exact absurd hwk hnw
                · rcases L.rel k m hk (by omega) with h | h
                  · exact L.before' hX hw.1 h
                  · exfalso
                    cases hle2 : lookEnt (segAt ops.toList st frm lg k).le (segAt ops.toList st frm lg m).le with
                    | true => exact L.look_wr (by omega) hle2 hwk
                    | false =>
                      have him : insAt ops.toList lg m = none := by
                        simp only [insAt, u1, insOf, J.op, isInsert, Bool.false_and, cond_false]
                      obtain ⟨a1, a2, a3, a4⟩ := apartOk_spec h (by show sameIns _ (insAt _ _ m) = false; rw [him]; exact sameIns_none _) hle2
                      have hmm : (r, true) ∈ lg m := by rw [J.lg]; simp
                      rcases hwk with hwk | hwk
                      · exact a3 r hwk _ hmm rfl
                      · exact a1 _ hmm hwk
              rw [hcur, J.was] at g1
              simp only [Option.some.injEq, Ob.map.injEq] at g1
              obtain ⟨g1, _, rfl⟩ := g1
              have him : insAt ops.toList lg m = none := by
                simp only [insAt, u1, insOf, J.op, isInsert, Bool.false_and, cond_false]
              refine ⟨zs ++ [(kv, zeroOf te, c2)], Nat.succ c2, ?_, fun z hz => ?_⟩
              · rw [hAt, if_pos hw, if_neg (by rw [him]; simp), J.is, g1, u2, List.append_assoc]
              · rcases List.mem_append.1 hz with hz | hz
                · exact g2 z hz
                · rw [List.mem_singleton.1 hz]; exact ⟨rfl, rfl⟩
      · refine ⟨zs, c', ?_, g2⟩
        rw [hAt, if_neg hw]; exact g1
end

section
variable {st : Nat → S} {frm : Nat → Fr} {lg : Nat → List (Nat × Bool)} {ops : Array Oper} {E : Env} {P : Program} {G : MC → MC → Prop} {self : Self} {cx : Cx} {p : Nat} {φ₀ : Map} {w₀ : World}

theorem look_step {L : Lay E P G self cx ops p st frm lg} {X : Nat → Prop} {φ : Map} {a : Act} {w : World} {b : Frame} {k : List Item} {cs : List Frame} {rest : List Nat} {j t r : Nat} {kv : V} {o : Oper}
    (hg : GlobOk E.ng φ₀) (hgf : GlobOk (frm 0).ng φ₀) (hrel₀ : Rel φ₀ (st 0) w₀) (hI : Inv ops cx p st frm lg φ₀ w₀ X φ a w) (hX : Cut ops p X) (hj : j < p) (hn : ¬ X j) (ho : ops.toList[j]? = some o) (he : ∀ i ∈ edgesOf o, X i) (hr : leAt ops.toList frm lg j = some (true, t, r, kv)) :
    ∃ φ' a' w', Inv ops cx p st frm lg φ₀ w₀ (fun i => X i ∨ i = j) φ' a' w' ∧ G (lone (Frame.put b a (.inRegion ops (j :: rest) :: k)) cs w, cnt E (atS ops p st frm lg X)) (lone (Frame.put b a' (.inRegion ops rest :: k)) cs w', cnt E (atS ops p st frm lg (fun i => X i ∨ i = j))) := by
  obtain ⟨o', m, kx, kt, et, te, es, c0, ord, res, ho', hkv, I⟩ := L.look hj hr
  rw [ho] at ho'; cases ho'
  have hrN : r < (st p).n := by
    rcases Nat.lt_or_ge r (st j).n with h | h
    · exact Nat.lt_of_lt_of_le h (L.mono (Nat.le_of_lt hj) (Nat.le_refl _))
    · have := L.bound (Nat.le_of_lt hj) h
      rw [I.was] at this; simp at this
  have hnw : ∀ id, ¬ Wr st lg j id := fun id hw => by
    rcases hw with hw | hw
    · rw [I.lg] at hw; simp at hw
    · have := I.n; omega
  obtain ⟨zs, c1, hnow, hzs⟩ := L.lookAfter hX hj hn ho he hr hkv I p hj (Nat.le_refl _)
  obtain ⟨res', hfind, hres⟩ := findV_zeros (kt := kt) (z := zeroOf te) (keyOk_eq I.key) (fun e hem => by rw [← hkv]; exact hzs e hem) I.find
  have hval : foundV te res' = foundV te res := by
    rcases hres with ⟨q, rfl, rfl⟩ | ⟨rfl, rfl | ⟨b, rfl⟩⟩ <;> rfl
  -- the operation's state and frame
  let sc : S := ⟨trOf (st p).n (fun id => hAt ops st frm lg X id p), (st p).n, []⟩
  have hsc : ∀ id, sc.h.get id = if id < (st p).n then hAt ops st frm lg X id p else none := fun id => get_trOf _ _ _
  have hscr : sc.h.get r = some (.map (es ++ zs) c1 ord) := by rw [hsc, if_pos hrN]; exact hnow
  let φu : Map := ⟨φ.f, fun id => id < (st p).n ∧ φ id = none⟩
  have hrelu : Rel φu sc w := ⟨fun id ob h => let ⟨l, h1, h2⟩ := hI.rel.obj id ob h; ⟨l, h1, ObB.core (φ := φ) (ψ := φu) (fun id l _ h => ⟨l, h, .refl _⟩) h2⟩, hI.rel.inj, hI.rel.dom, hI.rel.bnd, fun id h => h⟩
  have hcu : Core φ₀ φu := fun id l _ h => ⟨l, hI.keep.ext id l h, .refl _⟩
  have hcφ : Core φ φu := fun id l _ h => ⟨l, h, .refl _⟩
  let M := cx.nt + (namesOf ops.toList o).foldl (fun x y => x + y + 1) 0 + 1
  have hM : ∀ t ∈ namesOf ops.toList o, t < M := by
    have : ∀ (l : List Nat) (x : Nat), x ≤ l.foldl (fun x y => x + y + 1) x ∧ ∀ t ∈ l, t < l.foldl (fun x y => x + y + 1) x := by
      intro l
      induction l with
      | nil => intro x; exact ⟨Nat.le_refl _, by simp⟩
      | cons y l ih =>
        intro x
        obtain ⟨h1, h2⟩ := ih (x + y + 1)
        simp only [List.foldl_cons]
        refine ⟨by omega, fun t ht => ?_⟩
        rcases List.mem_cons.1 ht with rfl | ht
        · omega
        · exact h2 t ht
    intro t ht
    have := (this _ 0).2 t ht
    exact Nat.lt_of_lt_of_le this (Nat.le_trans (Nat.le_add_left _ _) (Nat.le_succ _))
  let tm' : Tr V := trOf M (fun t => if t ∈ namesOf ops.toList o then (frm j).tm.get t else if t < cx.nt then some (absV (a.tmps.getD t undef)) else none)
  have htm' : ∀ t, tm'.get t = if t < M then (if t ∈ namesOf ops.toList o then (frm j).tm.get t else if t < cx.nt then some (absV (a.tmps.getD t undef)) else none) else none := fun t => get_trOf _ _ _
  have hnam : ∀ t ∈ namesOf ops.toList o, tm'.get t = (frm j).tm.get t := fun t ht => by rw [htm', if_pos (hM t ht), if_pos ht]
  obtain ⟨hc1, hc2, hc3⟩ := L.const (k := j) (Nat.le_of_lt hj)
  let fr' : Fr := ⟨tm', (frm j).ds, (frm j).rc, (frm j).ng⟩
  have hfr' : FrR φu cx fr' a := by
    refine ⟨⟨hI.size, fun t => ?_⟩, ?_, ?_⟩
    · show VR φu (tmV tm' t) _
      by_cases ht : t ∈ namesOf ops.toList o
      · have e : tmV tm' t = tmV (frm j).tm t := by simp only [tmV, hnam t ht]
        rw [e]
        have h1 := hI.tm t
        rw [L.tmOld hX hj hn ho he ht] at h1
        exact h1.core hcφ
      · simp only [tmV, htm', if_neg ht]
        by_cases hM' : t < M
        · rw [if_pos hM']
          by_cases hnt : t < cx.nt
          · rw [if_pos hnt]; exact VR_absV φu _
          · rw [if_neg hnt]
            have : a.tmps.getD t undef = undef := by
              rw [Array.getD_eq_getD_getElem?, Array.getElem?_eq_none (by rw [hI.size]; omega)]; rfl
            rw [this]; exact ⟨#[], rfl, rfl⟩
        · rw [if_neg hM']
          have : a.tmps.getD t undef = undef := by
            rw [Array.getD_eq_getD_getElem?, Array.getElem?_eq_none (by rw [hI.size]; exact Nat.le_trans (Nat.le_trans (Nat.le_add_right _ _) (Nat.le_succ _)) (Nat.not_lt.1 hM'))]; rfl
          rw [this]; exact ⟨#[], rfl, rfl⟩
    · show DsR φu (frm j).ds _
      rw [hc1]; exact hI.ds.core hcφ
    · show GlobOk (frm j).ng φu
      rw [hc3]; exact hgf.core hcu
  have hopd : ∀ x ∈ opsOf o.op, opd x (frm j) = opd x fr' := fun x hx => by
    cases x with
    | tmp t =>
      have ht : t ∈ namesOf ops.toList o := by
        simp only [namesOf, List.mem_append]
        refine .inr (.inr ?_)
        have : ∀ l : List Operand, Operand.tmp t ∈ l → t ∈ tmpsOf l := by
          intro l
          induction l with
          | nil => simp
          | cons y l ih =>
            intro h
            rcases List.mem_cons.1 h with e | h2
            · subst e; simp [tmpsOf]
            · have := ih h2
              clear h
              cases y with
              | tmp u => exact List.mem_cons_of_mem _ this
              | const _ => exact this
              | global _ => exact this
              | func _ => exact this
        exact this _ hx
      have e : tmV tm' t = tmV (frm j).tm t := by simp only [tmV, hnam t ht]
      exact e.symm
    | const v => rfl
    | global g => rfl
    | func f => rfl
  have e1 : opd m fr' = .map (some r) := by rw [← hopd m (by rw [I.op]; simp [opsOf])]; exact I.map
  have e2 : opd kx fr' = opd kx (frm j) := (hopd kx (by rw [I.op]; simp [opsOf])).symm
  have hgd : guardOk ops.toList fr' o.guard = true := by
    rw [← I.guard]
    exact (guardOk_like fun t ht => (hnam t (by simp only [namesOf, List.mem_append]; exact .inr (.inl ht))).symm).symm
  let t' : S := sc.rd r
  have hexec : exec1 E self (drawCx cx) ops.toList o fr' sc = .go (setTm cx fr' (foundV te res) o.dst) t' := by
    unfold exec1
    rw [hgd]
    simp only [cond_true]
    have hev : (exec o.op E fr').eval sc = some (.val (foundV te res), t') := by
      rw [I.op]
      show (lookupAt E t (opd m fr') (opd kx fr') false).eval sc = _
      rw [e1, e2, ← hval]
      exact lookupAt_eval_of I.desc I.elem I.key hscr I.room hfind
    rw [Q.run_some _ _ _ _ _ _ hev]
    rfl
  obtain ⟨φ', c, w', v', hv', hk, hrel', hvr, hst⟩ := exec1_val (b := b) (k := k) (cs := cs) (rest := rest) L.hE L.hs (hg.core hcu) hrelu hfr' (by simpa using ho) (L.opOk ho).1 hexec
  have hφ : ∀ id, φ' id = φ id := fun id => by
    by_cases hlt : id < (st p).n
    · cases hp : φ id with
      | none => exact (hrel'.un id (by rw [hk.un]; exact ⟨hlt, hp⟩)).2
      | some l => exact hk.ext id l hp
    · rw [hrel'.dom id (Nat.not_lt.1 hlt)]
      exact (hI.rel.dom id (Nat.not_lt.1 hlt)).symm
  have hcb : Core φ' φ := fun id l _ h => ⟨l, by rw [← hφ]; exact h, .refl _⟩
  have hoth : ∀ id, (⟨trOf (st p).n (fun id => hAt ops st frm lg (fun i => X i ∨ i = j) id p), (st p).n, []⟩ : S).h.get id = t'.h.get id := fun id => by
    show (trOf _ _).get id = sc.h.get id
    rw [get_trOf, hsc]
    split
    · exact Lay.other (p := p) (X := X) (hnw id)
    · rfl
  refine ⟨φ, a.put o.dst c, w', ⟨⟨?_, ?_, ?_, ?_, ?_⟩, ?_, ?_, ?_, ?_, ?_⟩, ?_⟩
  · intro id ob hob
    rw [hoth id] at hob
    obtain ⟨lo, h1, h2⟩ := hrel'.obj _ _ hob
    exact ⟨lo, by rw [← hφ]; exact h1, h2.core hcb⟩
  · intro id id' lo lo' h1 h2 h3 h4 h5
    exact hrel'.inj id id' lo lo' (by rw [hφ]; exact h1) (by rw [hφ]; exact h2) (by rw [← hoth]; exact h3) (by rw [← hoth]; exact h4) h5
  · exact hI.rel.dom
  · intro id lo h
    exact hrel'.bnd id lo (by rw [hφ]; exact h)
  · exact hI.rel.un
  · intro k hkp hkn id h1 h2
    exact hI.gap k hkp (fun h => hkn (.inl h)) id h1 h2
  · cases o.dst <;> simp [Act.put, hI.size]
  · -- temporaries
    intro t1
    by_cases ht : o.dst = some t1
    · rw [L.tmNew hX hj hn ho he ht, I.fr, ht]
      simp only [setTm, Act.put]
      have hvv : setTm cx fr' (foundV te res) o.dst = setTm cx fr' v' o.dst := hv'
      by_cases hnt : t1 < cx.nt
      · have hb : Nat.ble (Nat.succ t1) cx.nt = true := Nat.ble_eq_true_of_le hnt
        have e : foundV te res = v' := by
          rw [ht] at hvv
          simp only [setTm, putTm, hb, cond_true, Fr.mk.injEq] at hvv
          have := congrArg (fun x : Tr V => x.get t1) hvv.1
          simpa [Tr.get_put] using this
        have : tmV (putTm cx.nt (frm j).tm t1 (foundV te res)) t1 = v' := by simp [putTm, hb, tmV, Tr.get_put, e]
        rw [this]
        have : (a.tmps.setIfInBounds t1 c).getD t1 undef = c := by
          have : t1 < a.tmps.size := by rw [hI.size]; exact hnt
          simp [Array.getD, this]
        rw [this]
        exact hvr.core hcb
      · have hb : Nat.ble (Nat.succ t1) cx.nt = false := by
          cases hh : Nat.ble (Nat.succ t1) cx.nt with
          | false => rfl
          | true => exact absurd (Nat.le_of_ble_eq_true hh) hnt
        have hu : (a.tmps.setIfInBounds t1 c).getD t1 undef = undef := by
          rw [Array.getD_eq_getD_getElem?, Array.getElem?_eq_none (by rw [Array.size_setIfInBounds, hI.size]; exact Nat.not_lt.1 hnt)]; rfl
        rw [hu]
        simp only [putTm, hb, cond_false]
        have h2 := hI.tm t1
        have : a.tmps.getD t1 undef = undef := by
          rw [Array.getD_eq_getD_getElem?, Array.getElem?_eq_none (by rw [hI.size]; exact Nat.not_lt.1 hnt)]; rfl
        rw [this, L.tmOld hX hj hn ho he (by simp [namesOf, ht, optL])] at h2
        exact h2
    · rw [Lay.tmOther ho ht]
      have : (a.put o.dst c).tmps.getD t1 undef = a.tmps.getD t1 undef := by
        cases hd : o.dst with
        | none => rfl
        | some d =>
          simp only [Act.put, Array.getD_eq_getD_getElem?, Array.getElem?_setIfInBounds]
          rw [if_neg (fun h => ht (by rw [hd, h]))]
      rw [this]
      exact hI.tm t1
  · have : (a.put o.dst c).defers = a.defers := by cases o.dst <;> rfl
    rw [this]; exact hI.ds
  · refine ⟨hI.keep.ext, Nat.le_trans hI.keep.size hk.size, fun bl hb hro => ?_, hI.keep.from_, hk.os.trans hI.keep.os, hk.output.trans hI.keep.output, hk.tape.trans hI.keep.tape, hI.keep.un, hI.keep.newro⟩
    rw [hk.same bl (Nat.lt_of_lt_of_le hb hI.keep.size) ?_, hI.keep.same bl hb hro]
    intro id lo hlo e
    have hlo : φ id = some lo := hlo
    rcases hI.keep.from_ id lo hlo with ⟨id', lo', q1, q2, q3⟩ | q
    · have := hro id' lo' q1 (q2.trans e)
      cases hh : lo.ro with
      | true => rfl
      | false => rw [q3 hh] at this; cases this
    · omega
  · have e : cnt E (atS ops p st frm lg (fun i => X i ∨ i = j)) = cnt E t' := cnt_eq fun i hi => by
      show cntAt ((⟨trOf (st p).n (fun id => hAt ops st frm lg (fun i => X i ∨ i = j) id p), (st p).n, []⟩ : S).h.get i) = _
      rw [hoth i]
    rw [e]
    exact hst
end
end Go.AM

namespace Go.AM
open Go
set_option linter.unusedVariables false
set_option linter.unusedSimpArgs false

theorem Rel.like {φ : Map} {s s' : S} {w : World} (h : Rel φ s w) (hh : ∀ id, s'.h.get id = s.h.get id) (hn : s.n ≤ s'.n) : Rel φ s' w where
  obj id o ho := h.obj id o (by rw [← hh]; exact ho)
  inj a b la lb h1 h2 h3 h4 := h.inj a b la lb h1 h2 (by rw [← hh]; exact h3) (by rw [← hh]; exact h4)
  dom id hid := h.dom id (Nat.le_trans hn hid)
  bnd := h.bnd
  un id hid := ⟨Nat.lt_of_lt_of_le (h.un id hid).1 hn, (h.un id hid).2⟩

/-- the same heap, no more numbers than are laid -/
theorem Rel.like' {φ : Map} {s s' : S} {w : World} (h : Rel φ s w) (hh : ∀ id, s'.h.get id = s.h.get id) (hn : s'.n = s.n) : Rel φ s' w := h.like hh (by omega)

section
variable {P : Program} {E : Env} {self : Self} {G : MC → MC → Prop}

theorem draw_ok (hE : EnvOk E P) (hs : SelfOk E P G self) (hl : LSelf self) : DrawOk E G self := by
  intro b a k cs w id ops φ s cx fr hoid hok hg hc hrel hf
  cases hev : evDraw E self cx ops.toList s.n s.lg ops.toList 0 [] fr s with
  | fail w => trivial
  | ok x frF sF =>
    obtain ⟨p, st, frm, lg, _, hple, hst0, hfr0, hrecs, ⟨_, _, hpair⟩, hend⟩ := evDraw_recs ops.toList s.n s.lg ops.toList 0 [] fr s x frF sF rfl (Nat.zero_le _) hev
    -- the imagined run
    have himag : ∀ i, i ≤ p → ∃ φ w a, GlobOk E.ng φ ∧ CtxOk φ cx b cs ∧ Rel φ (st i) w ∧ FrR φ cx (frm i) a := by
      intro i
      induction i with
      | zero => intro _; exact ⟨φ, w, a, hg, hc, by rw [hst0]; exact hrel, by rw [hfr0]; exact hf⟩
      | succ i ih =>
        intro hi
        obtain ⟨φ1, w1, a1, g1, c1, r1, f1⟩ := ih (by omega)
        obtain ⟨o, ho, hx, _⟩ := hrecs i (Nat.zero_le _) (by omega)
        have h1 := exec1_ok (b := b) (k := k) (rest := []) (i := i) hE hs g1 c1 (r1.log []) f1 (by simpa using ho)
        rw [exec1_draw hx (by simp)] at h1
        obtain ⟨φ2, a2, w2, k2, r2, f2, _⟩ := h1
        exact ⟨φ2, w2, a2, g1.mono k2.ext, c1.mono k2.ext, r2.log (st (i + 1)).lg, f2⟩
    have L : Lay E P G self cx ops p st frm lg := ⟨hE, hs, hl, hok, hple, fun i hi => hrecs i (Nat.zero_le _) hi, fun i j h1 h2 => hpair i j (Nat.zero_le _) h1 h2,
      fun i hi => let ⟨φ1, w1, a1, _, _, r1, f1⟩ := himag i hi; ⟨φ1, w1, a1, r1, f1⟩⟩
    have hlt : ∀ {i j : Nat} {o : Oper}, ops.toList[j]? = some o → ordered (beforeOf ops.toList) i j = true → i < j := fun {i j o} ho h => by
      have hj : j < ops.toList.length := by
        rcases Nat.lt_or_ge j ops.toList.length with h | h
        · exact h
        · rw [List.getElem?_eq_none h] at ho; simp at ho
      exact ordered_in (X := fun i => i < j) ho (L.opOk ho).2.1 (fun i o' ho' hi e he => Nat.lt_trans ((L.opOk ho').2.1 e he) hi) (fun i hi => Nat.lt_trans hi hj) h
    -- every order
    have hrel₀ : Rel φ (st 0) { w with drawn := w.drawn + 1 } := by rw [hst0]; exact hrel.drawn _
    have main : ∀ (l : List Nat) (X : Nat → Prop) (φ' : Map) (a' : Act) (w' : World), Sched ops.toList X l → Cut ops p X → Inv ops cx p st frm lg φ { w with drawn := w.drawn + 1 } X φ' a' w' →
        Arr E G b k cs cx φ { w with drawn := w.drawn + 1 } (lone (Frame.put b a' (.inRegion ops l :: k)) (csOf cx.pk fr.rc cs) w', cnt E (atS ops p st frm lg X)) (.ok x frF sF) := by
      intro l
      induction l with
      | nil =>
        intro X φ' a' w' hS hX hI
        cases hS with
        | done hall =>
          have hp : p = ops.toList.length := by
            rcases Nat.lt_or_ge p ops.toList.length with h | h
            · exact absurd (hX.sub p (hall p h)) (Nat.lt_irrefl _)
            · omega
          rcases hend with ⟨rfl, _, h2, h3, h4⟩ | ⟨v, s', o, _, ho, _⟩
          · subst h2
            have hc3 := L.const (Nat.le_refl p)
            refine ⟨φ', a', w', hI.keep, ?_, ⟨⟨hI.size, fun t => ?_⟩, ?_, ?_⟩, ?_⟩
            · refine hI.rel.like' (fun id => ?_) h4
              rw [h3]
              show _ = (trOf _ _).get id
              rw [get_trOf]
              split
              · rw [L.hAt_eq (Nat.le_refl p) (fun k hk _ => hall k (by omega))]
              · exact L.bound (Nat.le_refl p) (by omega)
            · have := hI.tm t
              rw [L.tAt_eq (Nat.le_refl p) (fun k hk _ => hall k (by omega))] at this
              exact this
            · rw [hc3.1]; exact hI.ds
            · rw [hc3.2.2, hfr0]; exact hf.gl.mono hI.keep.ext
            · show G _ _
              rw [hc3.2.1, hfr0]
              have e : cnt E sF = cnt E (atS ops p st frm lg X) := cnt_eq fun i hi => by
                rw [h3]
                show _ = cntAt ((trOf _ _).get i)
                rw [get_trOf]
                split
                · rw [L.hAt_eq (Nat.le_refl p) (fun k hk _ => hall k (by omega))]
                · rw [L.bound (Nat.le_refl p) (by omega)]
              rw [e]
              exact hs.rel.one st_regionEnd (np_todo (by simp [Frame.put]))
          · rw [List.getElem?_eq_none (by omega)] at ho; simp at ho
      | cons j l ih =>
        intro X φ' a' w' hS hX hI
        cases hS with
        | next ho hj he hS =>
          rename_i o
          have hjl : j < ops.toList.length := by
            rcases Nat.lt_or_ge j ops.toList.length with h | h
            · exact h
            · rw [List.getElem?_eq_none h] at ho; simp at ho
          by_cases hjp : j < p
          · have hnext : ∃ φ2 a2 w2, Inv ops cx p st frm lg φ { w with drawn := w.drawn + 1 } (fun i => X i ∨ i = j) φ2 a2 w2 ∧
                G (lone (Frame.put b a' (.inRegion ops (j :: l) :: k)) (csOf cx.pk fr.rc cs) w', cnt E (atS ops p st frm lg X)) (lone (Frame.put b a2 (.inRegion ops l :: k)) (csOf cx.pk fr.rc cs) w2, cnt E (atS ops p st frm lg (fun i => X i ∨ i = j))) := by
              cases hi : insAt ops.toList lg j with
              | none =>
                by_cases hlk : NoLook (leAt ops.toList frm lg j)
                · exact draw_step (L := L) (b := b) (k := k) (cs := csOf cx.pk fr.rc cs) (rest := l) hg (by rw [hfr0]; exact hf.gl) hrel₀ hI hX hjp hj ho he hi hlk (by rw [hst0]; exact hoid)
                · have ⟨t1, r1, k1, hle⟩ : ∃ t1 r1 k1, leAt ops.toList frm lg j = some (true, t1, r1, k1) := by
                    refine Classical.byContradiction fun h => hlk fun t1 r1 k1 e => h ⟨t1, r1, k1, e⟩
                  exact look_step (L := L) (b := b) (k := k) (cs := csOf cx.pk fr.rc cs) (rest := l) hg (by rw [hfr0]; exact hf.gl) hrel₀ hI hX hjp hj ho he hle
              | some r => exact ins_step (L := L) (b := b) (k := k) (cs := csOf cx.pk fr.rc cs) (rest := l) hg (by rw [hfr0]; exact hf.gl) hrel₀ hI hX hjp hj ho he hi
            obtain ⟨φ2, a2, w2, hI2, hst⟩ := hnext
            exact Arr.of_steps hs.rel hst (ih _ φ2 a2 w2 hS (hX.add hjp ho he) hI2)
          · rcases hend with ⟨_, hp, _⟩ | ⟨v, s', o', rfl, ho', hx, hfix, h2, h3, h4⟩
            · omega
            · have hpl : p < ops.toList.length := by
                rcases Nat.lt_or_ge p ops.toList.length with h | h
                · exact h
                · rw [List.getElem?_eq_none h] at ho'; simp at ho'
              have hjp' : j = p := by
                rcases fixedAt_spec hfix j hjl with h | h | h
                · exact h
                · exact absurd (hlt ho' h) hjp
                · exact absurd (hX.sub p (L.before hX ho he h)) (Nat.lt_irrefl _)
              subst hjp'
              rw [ho] at ho'; cases ho'
              have hall : ∀ i, i < j → X i := fun i hi => by
                rcases fixedAt_spec hfix i (by omega) with h | h | h
                · omega
                · exact L.before hX ho he h
                · have := hlt (j := i) (o := ops.toList[i]'(by omega)) (by simp) h
                  omega
              have hc3 := L.const (Nat.le_refl j)
              have hrel' : Rel φ' ⟨(st j).h, (st j).n, []⟩ w' := by
                refine hI.rel.like' (fun id => ?_) rfl
                show _ = (trOf _ _).get id
                rw [get_trOf]
                split
                · rw [L.hAt_eq (Nat.le_refl j) (fun k hk _ => hall k hk)]
                · exact L.bound (Nat.le_refl j) (by omega)
              have hf' : FrR φ' cx (frm j) a' := by
                refine ⟨⟨hI.size, fun t => ?_⟩, ?_, ?_⟩
                · have := hI.tm t
                  rw [L.tAt_eq (Nat.le_refl j) (fun k hk _ => hall k hk)] at this
                  exact this
                · rw [hc3.1]; exact hI.ds
                · rw [hc3.2.2, hfr0]; exact hf.gl.mono hI.keep.ext
              have h1 := exec1_ok (b := b) (k := k) (rest := l) (i := j) hE hs (hg.mono hI.keep.ext) (hc.mono hI.keep.ext) hrel' hf' (by simpa using ho)
              rw [exec1_draw hx (by simp)] at h1
              obtain ⟨φ2, a2, w2, k2, r2, f2, e2⟩ := h1
              subst h2
              rw [hc3.2.1, hfr0] at e2
              refine ⟨φ2, a2, w2, hI.keep.trans k2, r2.like' (fun id => by rw [h3]) h4, f2, ?_⟩
              rw [hc3.2.1, hfr0]
              have c1 : cnt E ⟨(st j).h, (st j).n, []⟩ = cnt E (atS ops j st frm lg X) := cnt_eq fun i hi => by
                show _ = cntAt ((trOf _ _).get i)
                rw [get_trOf]
                split
                · rw [L.hAt_eq (Nat.le_refl j) (fun k hk _ => hall k hk)]
                · show cntAt ((st j).h.get i) = _
                  rw [L.bound (Nat.le_refl j) (by omega)]
              have c2 : cnt E s' = cnt E sF := cnt_eq fun i hi => by rw [h3]
              rw [c1, c2] at e2
              exact e2
    have hI0 : Inv ops cx p st frm lg φ { w with drawn := w.drawn + 1 } (fun _ => False) φ a { w with drawn := w.drawn + 1 } := by
      have hmono : s.n ≤ (st p).n := by have := L.mono (Nat.zero_le p) (Nat.le_refl p); rw [hst0] at this; exact this
      refine ⟨?_, ?_, hf.tm.1, fun t => ?_, ?_, Keep.refl _ _⟩
      · refine (hrel.drawn (w.drawn + 1)).like (fun id => ?_) hmono
        show (trOf _ _).get id = _
        rw [get_trOf]
        have h0 : hAt ops st frm lg (fun _ => False) id p = s.h.get id := by rw [hAt_skip (Nat.zero_le p) (fun _ _ _ h => h.elim), hAt, hst0]
        split
        · exact h0
        · have := L.bound (k := 0) (id := id) (Nat.zero_le _) (by rw [hst0]; omega)
          rw [hst0] at this; exact this.symm
      · intro i hi _ id h1 h2
        refine hrel.dom id ?_
        have := L.mono (Nat.zero_le i) (Nat.le_of_lt hi)
        rw [hst0] at this
        omega
      · rw [tAt_skip (Nat.zero_le p) (fun _ _ _ h => h.elim), tAt, hfr0]; exact hf.tm.2 t
      · rw [hfr0]; exact hf.ds
    have e0 : cnt E s = cnt E (atS ops p st frm lg (fun _ => False)) := cnt_eq fun i hi => by
      show _ = cntAt ((trOf _ _).get i)
      rw [get_trOf]
      have h0 : hAt ops st frm lg (fun _ => False) i p = s.h.get i := by rw [hAt_skip (Nat.zero_le p) (fun _ _ _ h => h.elim), hAt, hst0]
      split
      · rw [h0]
      · have := L.bound (k := 0) (id := i) (Nat.zero_le _) (by have := L.mono (Nat.zero_le p) (Nat.le_refl p); omega)
        rw [hst0] at this
        rw [this]
    rw [e0]
    refine Arr.later (Keep.drawn φ w (w.drawn + 1)) (Arr.of_steps hs.rel (hs.rel.one st_draw (np_todo (by simp [Frame.put]))) ?_)
    rw [hE.mixed]
    exact main _ _ _ _ _ (sched_any ops (fun j o ho => (L.opOk ho).2.1) _) ⟨fun _ h => h.elim, fun _ _ _ h => h.elim⟩ hI0

/-- every run of the machine stands for a run of the model -/
theorem run_ok (hE : EnvOk E P) (hG : StepRel E P G) : ∀ n, SelfOk E P G (run E n)
  | 0 => fail_ok hG
  | n + 1 => task_ok hE (run_ok hE hG n) (draw_ok hE (run_ok hE hG n) (lcl_run n))

end
end Go.AM

namespace Go.AM
open Go
set_option linter.unusedVariables false
set_option linter.unusedSimpArgs false

section
variable {P : Program} {E : Env}

/-! ## the model's own steps -/
def G0 (P : Program) (x y : MC) : Prop := Steps P x.1 y.1

theorem g0_ok (h : E.oid = none) : StepRel E P (G0 P) where
  refl x := .refl _ _
  trans h g := Steps.trans h g
  one h _ := .one h
  shift h _ := h
  pick ho := absurd h ho

/-! ## steps whose choices an oracle makes -/
inductive GW (P : Program) (ω : Nat → Nat) : MC → MC → Prop
  | refl (x : MC) : GW P ω x x
  | one {m m' : Machine} {c : Nat} {z : MC} (h : step P m = .next m') (hn : ¬ IsPick m) (t : GW P ω (m', c) z) : GW P ω (m, c) z
  | pick {m m' : Machine} {c : Nat} {z : MC} (hp : IsPick m) (h : step P (setTape m (satT (ω c))) = .next (setTape m' (satT (ω c)))) (ht : m'.world.tape = m.world.tape) (t : GW P ω (m', c + 1) z) : GW P ω (m, c) z

theorem GW.trans {ω : Nat → Nat} {x y z : MC} (h : GW P ω x y) (g : GW P ω y z) : GW P ω x z := by
  induction h with
  | refl => exact g
  | one h hn _ ih => exact .one h hn (ih g)
  | pick hp h ht _ ih => exact .pick hp h ht (ih g)

theorem GW.le {ω : Nat → Nat} {x y : MC} (h : GW P ω x y) : x.2 ≤ y.2 := by
  induction h with
  | refl => exact Nat.le_refl _
  | one _ _ _ ih => exact ih
  | pick _ _ _ _ ih => simp only at ih ⊢; omega

theorem GW.shift {ω : Nat → Nat} {x y : MC} (h : GW P ω x y) : y.2 = x.2 → ∀ b, GW P ω (x.1, b) (y.1, b) := by
  induction h with
  | refl => intro _ b; exact .refl _
  | one h hn _ ih => intro e b; exact .one h hn (ih e b)
  | pick _ _ _ t _ => intro e; have := t.le; simp only at this e; omega

theorem gw_ok : StepRel E P (GW P E.orc) where
  refl x := .refl x
  trans h g := h.trans g
  one h hn := .one h hn (.refl _)
  shift h b := h.shift rfl b
  pick _ {_ _ _} hp h ht := .pick hp h ht (.refl _)

/-! ### what the tape chooses at a machine -/
theorem next_tape {w : World} {c : Value} {ty : TypeId} (h : Multi w c) : ∃ (n : Nat) (cv : Value) (w' : World), ∀ τ : Nat → Question → Nat, (τ = satT n ∨ τ = w.tape) →
    (Instr.next c false ty).run P { w with tape := τ } = .ok cv { w' with tape := τ } := by
  obtain ⟨blk, m, since, seen, last, es, clock, rfl, h1, h2, h3, h4⟩ := h
  have hf : (Question.mapNext (cands es since seen).size).forced = false := by
    simp only [Question.forced, decide_eq_false_iff_not]; omega
  have hpos : 0 < (cands es since seen).size := by omega
  have hget : ∀ n, ∃ x, (cands es since seen)[n % (cands es since seen).size]? = some x := fun n => ⟨_, Array.getElem?_eq_getElem (Nat.mod_lt _ hpos)⟩
  generalize hn : w.tape w.drawn (.mapNext (cands es since seen).size) = n
  obtain ⟨x, hx⟩ := hget n
  have hq : ∀ τ : Nat → Question → Nat, (τ = satT (n % (cands es since seen).size) ∨ τ = w.tape) → (choose (.mapNext (cands es since seen).size)).run P { w with tape := τ } = .ok (n % (cands es since seen).size) { w with tape := τ, drawn := w.drawn + 1 } := fun τ hτ => by
    simp only [choose, Sem.run, hf, Bool.false_eq_true, if_false, Question.cut]
    rcases hτ with e | e
    · rw [e]
      have : min (n % (cands es since seen).size) ((cands es since seen).size - 1) = n % (cands es since seen).size := by
        have := Nat.mod_lt n hpos
        omega
      simp only [satT, this, Nat.mod_mod]
    · rw [e, hn]
  cases x with
  | none =>
    refine ⟨n % (cands es since seen).size, .tuple #[.bool false], { w with drawn := w.drawn + 1 }, fun τ hτ => ?_⟩
    rw [run_nextMany (w := { w with tape := τ }) h1 h2 h4]
    simp only [Sem.run_bind, hq τ hτ, Result.andThen_ok, hx, Sem.run_pure]
  | some e =>
    refine ⟨n % (cands es since seen).size, .tuple #[.bool true, e.key, e.val], { w with drawn := w.drawn + 1, heap := w.heap.setIfInBounds blk (.mapIter (some m) since (seen.push e.born) clock) }, fun τ hτ => ?_⟩
    rw [run_nextMany (w := { w with tape := τ }) h1 h2 h4]
    simp only [Sem.run_bind, hq τ hτ, Result.andThen_ok, hx]
    simp [setObj, Sem.run, h1]

/-- at a step among several there is a number that chooses as the tape does -/
theorem pick_real {m : Machine} (hp : IsPick m) : ∃ n : Nat, ∀ m' : Machine, step P (setTape m (satT n)) = .next (setTape m' (satT n)) → m'.world.tape = m.world.tape → step P m = .next m' := by
  obtain ⟨b, a, ops, i, rest, k, cs, w, o, it, rfl, ho, hop, hw, hm⟩ := hp
  obtain ⟨n, cv, w1, hrun⟩ := next_tape (P := P) (ty := o.type) hm
  have heq : execOp a.eval o = (do pure (.value (← Instr.next (a.eval it) false o.type)) : Sem Next) := by
    simp only [execOp, hop]
  have hex : ∀ τ : Nat → Question → Nat, (τ = satT n ∨ τ = w.tape) → (execOp a.eval o).run P { w with tape := τ } = .ok (.value cv) { w1 with tape := τ } := fun τ hτ => by
    rw [heq]
    simp only [Sem.run_bind, hrun τ hτ, Result.andThen_ok, Sem.run_pure]
  refine ⟨n, fun m' h ht => ?_⟩
  rw [next_pick ho hop hw (hex (satT n) (.inl rfl))] at h
  have h2 := next_pick (P := P) (b := b) (k := k) (rest := rest) (cs := cs) ho hop hw (hex w.tape (.inr rfl))
  have e : setTape (lone (Frame.put b a (.inRegion ops (i :: rest) :: k)) cs w) w.tape = lone (Frame.put b a (.inRegion ops (i :: rest) :: k)) cs w := rfl
  rw [e] at h2
  rw [h2]
  simp only [Stepped.next.injEq] at h ⊢
  obtain ⟨mw, mg, mr⟩ := m'
  obtain ⟨hh, tt, dd, oo, uu⟩ := mw
  simp only [setTape, lone, Machine.mk.injEq, World.mk.injEq] at h ht ⊢
  simp_all
open Classical in
/-- the model's own way, and how many choices it has made -/
noncomputable def wayOf (P : Program) (m0 : Machine) : Nat → Option MC
  | 0 => some (m0, 0)
  | k + 1 => match wayOf P m0 k with
    | some (m, c) => (match step P m with
      | .next m' => some (m', if IsPick m then c + 1 else c)
      | _ => none)
    | none => none

theorem wayOf_le {m0 : Machine} : ∀ {j k : Nat} {x y : MC}, wayOf P m0 j = some x → wayOf P m0 (j + k) = some y → x.2 ≤ y.2
  | j, 0, x, y, h, g => by rw [Nat.add_zero, h] at g; cases g; exact Nat.le_refl _
  | j, k + 1, x, y, h, g => by
    rw [← Nat.add_assoc] at g
    simp only [wayOf] at g
    cases hm : wayOf P m0 (j + k) with
    | none => rw [hm] at g; cases g
    | some z =>
      obtain ⟨m, c⟩ := z
      have ih := wayOf_le h hm
      rw [hm] at g
      simp only at g
      split at g
      · simp only [Option.some.injEq] at g
        subst g
        simp only at ih ⊢
        split <;> omega
      · cases g

theorem wayOf_pick {m0 m m' : Machine} {c : Nat} {j k : Nat} (h : wayOf P m0 j = some (m, c)) (g : wayOf P m0 k = some (m', c)) (hp : IsPick m) (hp' : IsPick m') : m = m' := by
  have key : ∀ {j k : Nat} {m m' : Machine}, j < k → wayOf P m0 j = some (m, c) → wayOf P m0 k = some (m', c) → IsPick m → False := by
    intro j k m m' hlt h g hp
    obtain ⟨d, rfl⟩ : ∃ d, k = (j + 1) + d := ⟨k - (j + 1), by omega⟩
    cases hm : wayOf P m0 (j + 1) with
    | none =>
      have : ∀ d, wayOf P m0 ((j + 1) + d) = none := by
        intro d
        induction d with
        | zero => exact hm
        | succ d ih => rw [← Nat.add_assoc, wayOf, ih]
      rw [this] at g; cases g
    | some z =>
      have hle := wayOf_le hm g
      simp only [wayOf, h] at hm
      split at hm
      · simp only [Option.some.injEq] at hm
        subst hm
        rw [if_pos hp] at hle
        simp only at hle; omega
      · cases hm
  rcases Nat.lt_trichotomy j k with hjk | hjk | hjk
  · exact (key hjk h g hp).elim
  · subst hjk; rw [h] at g; cases g; rfl
  · exact (key hjk g h hp').elim

open Classical in
/-- the oracle that chooses as the tape does -/
noncomputable def tapeOf (P : Program) (m0 : Machine) (c : Nat) : Nat :=
  if h : ∃ m, (∃ k, wayOf P m0 k = some (m, c)) ∧ IsPick m then (pick_real (P := P) h.choose_spec.2).choose else 0

theorem gw_real {m0 : Machine} {x y : MC} (h : GW P (tapeOf P m0) x y) : (∃ k, wayOf P m0 k = some x) → Steps P x.1 y.1 := by
  induction h with
  | refl => intro _; exact .refl _ _
  | one h hn _ ih =>
    rintro ⟨k, hk⟩
    refine .head h (ih ⟨k + 1, ?_⟩)
    simp only [wayOf, hk, h, if_neg hn]
  | pick hp h ht _ ih =>
    rename_i m m' c z _
    rintro ⟨k, hk⟩
    have hex : ∃ m, (∃ k, wayOf P m0 k = some (m, c)) ∧ IsPick m := ⟨m, ⟨k, hk⟩, hp⟩
    have he : hex.choose = m := by
      obtain ⟨k', hk'⟩ := hex.choose_spec.1
      exact wayOf_pick hk' hk hex.choose_spec.2 hp
    have hreal : ∀ (m1 : Machine) (hp1 : IsPick m1), m1 = m → ∀ m', step P (setTape m (satT (pick_real (P := P) hp1).choose)) = .next (setTape m' (satT (pick_real (P := P) hp1).choose)) → m'.world.tape = m.world.tape → step P m = .next m' := by
      intro m1 hp1 e m' h ht
      subst e
      exact (pick_real (P := P) hp1).choose_spec m' h ht
    have hst : step P m = .next m' := by
      refine hreal hex.choose hex.choose_spec.2 he m' ?_ ht
      have : tapeOf P m0 c = (pick_real (P := P) hex.choose_spec.2).choose := by
        unfold tapeOf; rw [dif_pos hex]
      rw [← this]; exact h
    refine .head hst (ih ⟨k + 1, ?_⟩)
    simp only [wayOf, hk, hst, if_pos hp]
end
end Go.AM

