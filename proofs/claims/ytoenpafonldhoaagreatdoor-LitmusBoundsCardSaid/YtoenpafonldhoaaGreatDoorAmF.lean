/- An abstract machine for the model's programs, its runs, and what they say of the model (part AmF). No condition. -/
import Derived.Test.YtoenpafonldhoaaGreatDoorAmE
import GoSem.Extern.Table
import Derived.Lib.Bytealg
import Derived.Below
import Derived.ProofKit
import Derived.WideKeyArgs
import Derived.HandedShaped
import Derived.ChangeSlices
import Derived.Lib.LaidTab
set_option linter.unusedVariables false
set_option linter.unusedSimpArgs false
set_option linter.unusedSectionVars false
namespace Go.AM
open Go
set_option linter.unusedVariables false
set_option linter.unusedSimpArgs false

/-! ## runs in which some calls are answered by what is known of them -/
/-- two whole numbers, bools or strings: the same? -/
def same1 : V → V → Bool
  | .int k n => fun
    | .int k' m => and (kindEq k k') (eqI n m)
    | _ => false
  | .bool b => fun
    | .bool c => b == c
    | _ => false
  | .str a => fun
    | .str b => eqB a b
    | _ => false
  | _ => fun _ => false

def sameL : List V → List V → Bool
  | [] => fun
    | [] => true
    | _ :: _ => false
  | x :: xs => fun
    | [] => false
    | y :: ys => and (same1 x y) (sameL xs ys)

/-- is an object cells that hold just these, and may not be written? -/
def isLaid (cs : List V) : Option Ob → Bool
  | some (.cells ds 0 true) => sameL cs ds
  | _ => false

/-- a call whose answer is known: its function and arguments; the global that it looks at, with its cells; the answer -/
structure Kn where
  f : FuncId
  args : List V
  g : Option (Nat × List V)
  v : V

def needs : Option (Nat × List V) → V → S → TR
  | none => fun v s => .ret v false s
  | some (g, cs) => fun v s => bif isLaid cs (s.h.get g) then .ret v false (s.rd g) else .fail "known: global"

def ovL : List Kn → FuncId → List V → Option Kn
  | [] => fun _ _ => none
  | k :: l => fun f args => bif Nat.beq f k.f then (bif sameL k.args args then some k else ovL l f args) else ovL l f args

def ovT (ov : List Kn) (go : Task → S → TR) : Task → S → TR
  | .call f args none => fun s => match ovL ov f args with
    | some k => needs k.g k.v s
    | none => go (.call f args none) s
  | t => go t

def runO (E : Env) (ov : List Kn) : Nat → Self
  | 0 => fun _ _ => .fail "fuel"
  | n + 1 => ovT ov (fun t s => task t E (runO E ov n) s)

theorem same1_spec {x y : V} (h : same1 x y = true) : x = y ∧ Nums (fun _ => False) x := by
  cases x <;> try (simp [same1] at h; done)
  · cases y <;> simp [same1] at h
    subst h; exact ⟨rfl, trivial⟩
  · rename_i k n
    cases y <;> simp [same1] at h
    rename_i k' m
    have hkk : k = k' := by cases k <;> cases k' <;> simp_all [kindEq]
    have hn : n = m := by cases n <;> cases m <;> simp_all [eqI]
    subst hkk; subst hn; exact ⟨rfl, trivial⟩
  · cases y <;> simp [same1, eqB_eq] at h
    subst h; exact ⟨rfl, trivial⟩

theorem sameL_spec : ∀ {a b : List V}, sameL a b = true → a = b ∧ NumsL (fun _ => False) a
  | [], [], _ => ⟨rfl, trivial⟩
  | [], _ :: _, h => by simp [sameL] at h
  | _ :: _, [], h => by simp [sameL] at h
  | x :: xs, y :: ys, h => by
    simp only [sameL, Bool.and_eq_true] at h
    obtain ⟨rfl, h1⟩ := same1_spec h.1
    obtain ⟨rfl, h2⟩ := sameL_spec h.2
    exact ⟨rfl, h1, h2⟩

theorem isLaid_spec {cs : List V} {o : Option Ob} (h : isLaid cs o = true) : o = some (.cells cs 0 true) ∧ NumsL (fun _ => False) cs := by
  unfold isLaid at h
  split at h
  · obtain ⟨rfl, h2⟩ := sameL_spec h
    exact ⟨rfl, h2⟩
  · cases h

theorem ovL_spec {f : FuncId} {args : List V} {k : Kn} : ∀ {l : List Kn}, ovL l f args = some k → k ∈ l ∧ k.f = f ∧ k.args = args
  | [], h => by simp [ovL] at h
  | k' :: l, h => by
    simp only [ovL] at h
    cases hb : Nat.beq f k'.f with
    | false => rw [hb] at h; obtain ⟨h1, h2⟩ := ovL_spec h; exact ⟨List.mem_cons_of_mem _ h1, h2⟩
    | true =>
      rw [hb] at h
      simp only [cond_true] at h
      cases hs : sameL k'.args args with
      | false => rw [hs] at h; obtain ⟨h1, h2⟩ := ovL_spec h; exact ⟨List.mem_cons_of_mem _ h1, h2⟩
      | true =>
        rw [hs] at h
        simp only [cond_true, Option.some.injEq] at h
        subst h
        exact ⟨List.mem_cons_self, (by simpa using hb : f = k'.f).symm, (sameL_spec hs).1⟩

/-- the heap that a known call begins with -/
def laidH : Option (Nat × List V) → Tr Ob
  | none => .leaf
  | some (g, cs) => Tr.leaf.put g (some (.cells cs 0 true))

def laidOk (ng : Nat) : Option (Nat × List V) → Prop
  | none => True
  | some (g, _) => g < ng

/-- what is asked of a known call -/
structure KnOk (E : Env) (P : Program) (k : Kn) : Prop where
  fn : E.fn k.f ≠ none
  args : NumsL (fun _ => False) k.args
  v : Nums (fun _ => False) k.v
  g : laidOk E.ng k.g
  run : ∃ self : Self, SelfOk E P (G0 P) self ∧ ∃ rc s', self (.call k.f k.args none) ⟨laidH k.g, E.ng, []⟩ = .ret k.v rc s'

section
variable {P : Program} {E : Env} {ov : List Kn}

/-! closed calls -/
/-- the globals alone, to be left as they are -/
def globMap (ng : Nat) : Map := ⟨fun id => if id < ng then some ⟨id, 0, 0, 0, true⟩ else none, fun _ => False⟩

theorem globMap_ok (ng : Nat) : GlobOk ng (globMap ng) := fun g hg => ⟨⟨g, 0, 0, 0, true⟩, if_pos hg, rfl, rfl⟩

theorem globMap_some {ng id : Nat} {l : Loc} (h : globMap ng id = some l) : id < ng ∧ l = ⟨id, 0, 0, 0, true⟩ := by
  have h : (if id < ng then some (⟨id, 0, 0, 0, true⟩ : Loc) else none) = some l := h
  split at h
  · rename_i hlt; simp only [Option.some.injEq] at h; exact ⟨hlt, h.symm⟩
  · simp at h

theorem globMap_rel {ng : Nat} {w : World} (h : ng ≤ w.heap.size) : Rel (globMap ng) ⟨.leaf, ng, []⟩ w where
  obj id o ho := by simp [Tr.get] at ho
  inj a b la lb h1 h2 h3 h4 := by simp [Tr.get] at h3
  dom id hid := if_neg (by show ¬ id < ng; exact Nat.not_lt.2 hid)
  bnd id l hl := by obtain ⟨h1, rfl⟩ := globMap_some hl; exact Nat.lt_of_lt_of_le h1 h
  un id hid := hid.elim

theorem GlobOk.size {n : Nat} {φ : Map} {s : S} {w : World} (hg : GlobOk n φ) (h : Rel φ s w) : n ≤ w.heap.size := by
  cases n with
  | zero => exact Nat.zero_le _
  | succ n =>
    obtain ⟨l, h1, h2, _⟩ := hg n (Nat.lt_succ_self n)
    have := h.bnd n l h1
    omega

/-- a global of which we know what it holds -/
theorem laid_rel {φ : Map} {s : S} {w : World} (hg : GlobOk E.ng φ) (h : Rel φ s w) : ∀ {g : Option (Nat × List V)}, laidOk E.ng g → (∀ i cs, g = some (i, cs) → s.h.get i = some (.cells cs 0 true) ∧ NumsL (fun _ => False) cs) →
    Rel (globMap E.ng) ⟨laidH g, E.ng, []⟩ w
  | none, _, _ => globMap_rel (hg.size h)
  | some (i, cs), hi, hs => by
    have hi : i < E.ng := hi
    obtain ⟨h1, h2⟩ := hs i cs rfl
    obtain ⟨l, e1, e2, e3⟩ := hg i hi
    obtain ⟨l', e4, e5⟩ := h.obj _ _ h1
    rw [e1] at e4; cases e4
    have hget : ∀ id, (Tr.leaf.put i (some (Ob.cells cs 0 true))).get id = if id = i then some (Ob.cells cs 0 true) else none := fun id => by
      rw [Tr.get_put]; rfl
    refine ⟨fun id o ho => ?_, fun a b la lb g1 g2 _ _ g5 => ?_, fun id hid => if_neg (by show ¬ id < E.ng; exact Nat.not_lt.2 hid), fun id l hl => ?_, fun id hid => hid.elim⟩
    · have ho2 : (Tr.leaf.put i (some (Ob.cells cs 0 true))).get id = some o := ho
      rw [hget] at ho2
      by_cases hid : id = i
      · rw [if_pos hid] at ho2
        subst hid
        simp only [Option.some.injEq] at ho2
        subst ho2
        obtain ⟨arr, elem, fz, g1, g2, _, _⟩ := e5
        rw [e2] at g1
        refine ⟨⟨id, 0, 0, 0, true⟩, if_pos hi, arr, elem, fz, g1, fun j c hj => ?_, fun h => absurd rfl h, fun h => by cases h⟩
        obtain ⟨x, q1, q2⟩ := g2 j c hj
        refine ⟨x, by rw [e3] at q1; exact q1, VR.on (p := fun _ => False) (fun _ _ h => h.elim) _ _ ?_ q2⟩
        have : ∀ (l : List V) (j : Nat), NumsL (fun _ => False) l → l[j]? = some c → Nums (fun _ => False) c := by
          intro l
          induction l with
          | nil => intro j _ h; simp at h
          | cons v l ih =>
            intro j hl h
            cases j with
            | zero => simp at h; subst h; exact hl.1
            | succ j => exact ih j hl.2 (by simpa using h)
        exact this cs j h2 hj
      · rw [if_neg hid] at ho2; cases ho2
    · obtain ⟨_, rfl⟩ := globMap_some g1
      obtain ⟨_, rfl⟩ := globMap_some g2
      exact .inl g5
    · obtain ⟨g1, rfl⟩ := globMap_some hl
      exact Nat.lt_of_lt_of_le g1 (hg.size h)

/-- what a call that needs no memory gives, it gives anywhere -/
theorem closed_call {self : Self} (hs : SelfOk E P (G0 P) self) {f : FuncId} {args : List V} {g : Option (Nat × List V)} {v : V} {rc : Bool} {s' : S}
    (ha : NumsL (fun _ => False) args) (hv : Nums (fun _ => False) v) (h : self (.call f args none) ⟨laidH g, E.ng, []⟩ = .ret v rc s')
    {φ : Map} {s : S} {w : World} {cargs : Array Value} {cs : List Frame} {kind : CallKind} (hg : GlobOk E.ng φ) (hrel : Rel φ s w) (hgl : laidOk E.ng g) (hlaid : ∀ i cs, g = some (i, cs) → s.h.get i = some (.cells cs 0 true) ∧ NumsL (fun _ => False) cs)
    (hargs : VRL φ args cargs.toList) (hpk : PkR φ none kind cs) (hk : kind = .normal ∨ kind = .deferred) (s₁ : S) (h₁ : ∀ id, s₁.h.get id = s.h.get id) (h₂ : s₁.n = s.n) :
    CallOk E P (G0 P) φ w (lone (Frame.enter P f cargs kind) cs w, cnt E s) f kind cs none (.ret v false s₁) := by
  have hc := hs.call (f := f) (pk := none) (kind := kind) (cs := cs) (cargs := cargs) (globMap_ok E.ng) (laid_rel hg hrel hgl hlaid) (VRL.on (φ := φ) (fun _ _ h => h.elim) _ _ ha hargs) hpk hk
  rw [h] at hc
  obtain ⟨φ', w', fr, c, h1, h2, h3, h4, h5, h6, h7, h8, h9⟩ := hc
  have hsame : ∀ b, b < w.heap.size → w'.heap[b]? = w.heap[b]? := fun b hb => h1.same b hb (fun id l hl _ => by obtain ⟨_, rfl⟩ := globMap_some hl; rfl)
  refine ⟨φ, w', fr, c, ⟨fun _ _ h => h, h1.size, fun b hb _ => hsame b hb, fun id l hl => .inl ⟨id, l, hl, rfl, fun h => h⟩, h1.os, h1.output, h1.tape, rfl, fun _ _ h => .inl h⟩, ?_, VR.on (fun _ _ h => h.elim) _ _ hv h3, ?_, h5, h6, h7, h8, h9⟩
  · refine Rel.like' (s := s) ?_ h₁ h₂
    exact ⟨fun id o ho => let ⟨l, a, b⟩ := hrel.obj id o ho; ⟨l, a, by rw [hsame l.blk (hrel.bnd id l a)]; exact b⟩, hrel.inj, hrel.dom, fun id l hl => Nat.lt_of_lt_of_le (hrel.bnd id l hl) h1.size, hrel.un⟩
  · exact h4

theorem ovT_ok {go : Self} (hov : ∀ k ∈ ov, KnOk E P k) (h : SelfOk E P (G0 P) go) : SelfOk E P (G0 P) (ovT ov go) where
  rel := h.rel
  fn := by
    intro f args pk s he v rc s'
    cases pk with
    | some p => exact h.fn he v rc s'
    | none =>
      simp only [ovT]
      cases ho : ovL ov f args with
      | none => exact h.fn he v rc s'
      | some k =>
        obtain ⟨h1, h2, _⟩ := ovL_spec ho
        exact absurd (h2 ▸ he) (hov k h1).fn
  call := by
    intro φ s w f args pk cargs kind cs hg hrel ha hpk hk
    cases pk with
    | some p => exact h.call hg hrel ha hpk hk
    | none =>
      simp only [ovT]
      cases ho : ovL ov f args with
      | none => exact h.call hg hrel ha hpk hk
      | some k =>
        obtain ⟨h1, h2, h3⟩ := ovL_spec ho
        subst h2; subst h3
        have K := hov k h1
        obtain ⟨self, hs, rc, s', hrun⟩ := K.run
        suffices hgoal : CallOk E P (G0 P) φ w (lone (Frame.enter P k.f cargs kind) cs w, cnt E s) k.f kind cs none (needs k.g k.v s) from hgoal
        cases hgk : k.g with
        | none =>
          rw [hgk] at hrun
          exact closed_call hs K.args K.v hrun hg hrel trivial (fun _ _ e => by cases e) ha hpk hk s (fun _ => rfl) rfl
        | some gc =>
          obtain ⟨g, gcs⟩ := gc
          simp only [needs]
          cases hl : isLaid gcs (s.h.get g) with
          | false => trivial
          | true =>
            have hK := K.g
            rw [hgk] at hrun hK
            exact closed_call hs K.args K.v hrun hg hrel hK (fun i cs e => by cases e; exact isLaid_spec hl) ha hpk hk (s.rd g) (fun _ => rfl) rfl
  round := h.round
  loop := h.loop
  scope := h.scope

theorem lcl_needs (g : Option (Nat × List V)) (v : V) : Lcl (needs g v) := by
  cases g with
  | none => exact lcl_ret
  | some gc =>
    obtain ⟨g, cs⟩ := gc
    refine (lcl_get (G := fun o s => bif isLaid cs o then TR.ret v false (s.rd g) else .fail "known: global") g (fun o => ?_)).none
    cases isLaid cs o with
    | true => exact lcl_rd g lcl_ret
    | false => exact lcl_fail rfl

theorem lcl_ovT {go : Self} (h : LSelf go) : LSelf (ovT ov go)
  | .call f args (some p) => h _
  | .call f args none => by
    show Lcl (fun s => ovT ov go (.call f args none) s)
    simp only [ovT]
    cases ovL ov f args with
    | none => exact h _
    | some k => exact lcl_needs k.g k.v
  | .round l args => h _
  | .loop cx body fr => h _
  | .scope cx code body fr => h _

theorem lcl_runO : ∀ n, LSelf (runO E ov n)
  | 0 => fun _ => lcl_fail rfl
  | n + 1 => lcl_ovT (lcl_task (lcl_runO n) (lcl_draw (lcl_runO n)))

theorem runO_ok (hE : EnvOk E P) (ho : E.oid = none) (hov : ∀ k ∈ ov, KnOk E P k) : ∀ n, SelfOk E P (G0 P) (runO E ov n)
  | 0 => ⟨g0_ok ho, by intro f args pk s h v rc s'; simp [runO], fun _ _ _ _ _ => trivial, fun _ _ _ _ => trivial, fun _ _ _ _ => trivial, fun _ _ _ _ => trivial⟩
  | n + 1 => ovT_ok hov (task_ok hE (runO_ok hE ho hov n) (draw_ok hE (runO_ok hE ho hov n) (lcl_runO n)))

end

section
variable {P : Program} {E : Env}

/-! ## what a run says of the model -/
theorem calls_of {self : Self} (hs : SelfOk E P (G0 P) self) {f : FuncId} {args : List V} {cargs : Array Value} {φ : Map} {s s' : S} {w : World} {v : V} {rc : Bool}
    (hg : GlobOk E.ng φ) (hrel : Rel φ s w) (ha : VRL φ args cargs.toList) (h : self (.call f args none) s = .ret v rc s') :
    Calls P f cargs w fun e w' => ∃ c φ', e = .returned c ∧ VR φ' v c ∧ Keep φ w φ' w' ∧ Rel φ' s' w' := fun cs => by
  have hc := hs.call (f := f) (pk := none) (kind := .normal) (cs := cs) hg hrel ha (by intro fr hfr; simp [tryRecover, hfr]) (.inl rfl)
  rw [h] at hc
  obtain ⟨φ', w', fr, c, h1, h2, h3, h4, h5, h6, h7, h8, h9⟩ := hc
  exact ⟨.returned c, w', fr, ⟨c, φ', rfl, h3, h1, h2⟩, h4, h8, h5, h6, h7, by rw [h8]; exact h9⟩
end

section
variable {P : Program} {E : Env}
/-- an environment whose ranges over maps are chosen by an oracle -/
def Env.by (E : Env) (ω : Nat → Nat) (i : Nat) : Env := ⟨E.ty, E.fn, E.ext, E.ng, ω, some i⟩

theorem EnvOk.by (h : EnvOk E P) (ω : Nat → Nat) (i : Nat) : EnvOk (E.by ω i) P := ⟨h.ty, h.fn, h.ext, h.mixed⟩

/-- what runs say by whatever oracle -/
theorem calls_any (hE : EnvOk E P) {i n : Nat} {f : FuncId} {args : List V} {cargs : Array Value} {φ : Map} {s : S} {w : World} {Q : V → S → Prop} (hcnt : s.h.get i = some (.cnt 0))
    (hg : GlobOk E.ng φ) (hrel : Rel φ s w) (ha : VRL φ args cargs.toList) (h : ∀ ω, ∃ v rc s', run (E.by ω i) n (.call f args none) s = .ret v rc s' ∧ Q v s') :
    Calls P f cargs w fun e w' => ∃ c φ' v s', e = .returned c ∧ Q v s' ∧ VR φ' v c ∧ Keep φ w φ' w' ∧ Rel φ' s' w' := fun cs => by
  let ω := tapeOf P (lone (Frame.enter P f cargs .normal) cs w)
  have hs := run_ok (G := GW P ω) (hE.by ω i) gw_ok n
  have hc := hs.call (f := f) (pk := none) (kind := .normal) (cs := cs) hg hrel ha (by intro fr hfr; simp [tryRecover, hfr]) (.inl rfl)
  obtain ⟨v, rc, s', hr, hq⟩ := h ω
  rw [hr] at hc
  obtain ⟨φ', w', fr, c, h1, h2, h3, h4, h5, h6, h7, h8, h9⟩ := hc
  have hst := gw_real h4 ⟨0, by simp [wayOf, cnt, Env.by, hcnt, cntAt]⟩
  exact ⟨.returned c, w', fr, ⟨c, φ', v, s', rfl, hq, h3, h1, h2⟩, hst, h8, h5, h6, h7, by rw [h8]; exact h9⟩
end

/-! ## tables -/
/-- each entry of a tree -/
def Tr.All {α : Type} (p : Nat → α → Prop) : Tr α → Prop
  | .leaf => True
  | .node l v r => (∀ a, v = some a → p 0 a) ∧ Tr.All (fun m => p (2 * m + 1)) l ∧ Tr.All (fun m => p (2 * m + 2)) r

theorem Tr.all_get {α : Type} : ∀ (t : Tr α) (p : Nat → α → Prop), t.All p → ∀ n a, t.get n = some a → p n a
  | .leaf, _, _, _, _, h => by simp [Tr.get] at h
  | .node l v r, p, ⟨h0, hl, hr⟩, n, a, h => by
    have f1 : Nat.mod n 2 = n % 2 := rfl
    have f2 : Nat.div n 2 = n / 2 := rfl
    simp only [Tr.get, f1, f2] at h
    by_cases hn : n = 0
    · subst hn; exact h0 a (by simpa using h)
    · have bz : Nat.beq n 0 = false := by cases n with | zero => omega | succ m => rfl
      simp only [bz, cond_false] at h
      by_cases h1 : n % 2 = 1
      · have b1 : Nat.beq (n % 2) 1 = true := by rw [h1]; rfl
        simp only [b1, cond_true] at h
        have := Tr.all_get l _ hl _ a h
        have e : 2 * (n / 2) + 1 = n := by omega
        rw [e] at this; exact this
      · have b1 : Nat.beq (n % 2) 1 = false := by
          have : n % 2 = 0 := by omega
          rw [this]; rfl
        simp only [b1, cond_false, Nat.pred_eq_sub_one] at h
        have := Tr.all_get r _ hr _ a h
        have e : 2 * (n / 2 - 1) + 2 = n := by omega
        rw [e] at this; exact this

theorem Tr.none_get {α : Type} {p : α → Prop} {v : α} (h : p v) : ∀ a, some v = some a → p a := fun a e => by cases e; exact h
theorem Tr.no_get {α : Type} {p : α → Prop} : ∀ a, (none : Option α) = some a → p a := fun a e => by cases e

def fiOfFn (f : Func) : FI := ⟨match f.body with | some b => b | none => .skip, f.results.toList, f.ntmps⟩

theorem fi_ok {P : Program} {n : Nat} {f : Func} (h : P.funcs[n]? = some f) (hb : f.body.isSome = true) (hn : (f.name == "runtime.NumGoroutine") = false) : FIok P n (fiOfFn f) := by
  refine ⟨f, h, ?_, rfl, rfl, hn⟩
  cases hf : f.body with
  | none => rw [hf] at hb; simp at hb
  | some b => simp [fiOfFn, hf]

theorem ti_ok {P : Program} {t : Nat} {ti : TI} (h1 : P.underlying t = some ti.d) (i : TypeInfo) (h2 : P.info? t = some i) (z : Value) (h3 : i.zero = some z)
    (h4 : i.size = ti.size) (h5 : i.bytes = ti.bytes) (h6 : ti.zero = (ofV z).cells) (h7 : zeroOf ti = ofV z) (h8 : ti.agg = isAggD ti.d) (h9 : ti.zero.length = ti.size)
    (h10 : (or (not ti.eqo) (and (not (P.stoodInHeld t)) (not (P.eqGuardType P.depth t)))) = true) : TIok P t ti :=
  ⟨h1, ⟨i, z, h2, h4, h5, h3, h6, h7⟩, h8, h9, fun e => by rw [e] at h10; simpa using h10⟩

theorem ti_chk {P : Program} {t : Nat} {ti : TI} (h1 : P.underlying t = some ti.d) (h2 : (P.info? t).isSome = true) (h3 : ((P.info? t).get h2).zero.isSome = true)
    (h4 : ((P.info? t).get h2).size = ti.size) (h5 : ((P.info? t).get h2).bytes = ti.bytes) (h6 : ti.zero = (ofV (((P.info? t).get h2).zero.get h3)).cells) (h7 : zeroOf ti = ofV (((P.info? t).get h2).zero.get h3))
    (h8 : ti.agg = isAggD ti.d) (h9 : ti.zero.length = ti.size) (h10 : (or (not ti.eqo) (and (not (P.stoodInHeld t)) (not (P.eqGuardType P.depth t)))) = true) : TIok P t ti :=
  ti_ok h1 _ (Option.some_get h2).symm _ (Option.some_get h3).symm h4 h5 h6 h7 h8 h9 h10
end Go.AM

namespace Go.AM
open Go
set_option linter.unusedVariables false
set_option linter.unusedSimpArgs false

/-! ## functions without a body: what the model says of them -/
theorem idxOfB_find (m : Nat) (hm : m ≤ 255) : ∀ (l : List UInt8) (i : Nat), idxOfB m l i = (l.findIdx? (fun b => b == m.toUInt8)).map (· + i)
  | [], i => by simp [idxOfB]
  | b :: l, i => by
    have hb : Nat.beq b.toNat m = (b == m.toUInt8) := by
      rw [Bool.eq_iff_iff]
      simp only [Nat.beq_eq, beq_iff_eq]
      constructor
      · intro h; subst h; simp
      · intro h; subst h; simp; omega
    simp only [idxOfB, hb, List.findIdx?_cons]
    cases b == m.toUInt8 with
    | true => simp
    | false =>
      simp only [cond_false, idxOfB_find m hm l (Nat.succ i), Bool.false_eq_true, if_false, Option.map_map]
      congr 1
      funext x; simp; omega

theorem find_from (c : UInt8) : ∀ (l pre : List UInt8), (List.range' pre.length l.length).find? (fun i => (⟨(pre ++ l).toArray⟩ : ByteArray)[i]! == c) = (l.findIdx? (fun b => b == c)).map (· + pre.length)
  | [], pre => by simp
  | b :: l, pre => by
    have hb : (⟨(pre ++ b :: l).toArray⟩ : ByteArray)[pre.length]! = b := by
      have hsz : pre.length < (⟨(pre ++ b :: l).toArray⟩ : ByteArray).size := by simp [ByteArray.size]
      rw [getElem!_pos (⟨(pre ++ b :: l).toArray⟩ : ByteArray) pre.length hsz]
      show (pre ++ b :: l).toArray[pre.length]'(by simp) = b
      simp
    have ih := find_from c l (pre ++ [b])
    rw [List.append_assoc, List.singleton_append, List.length_append] at ih
    simp only [List.length_cons, List.length_nil, Nat.zero_add] at ih ⊢
    rw [List.range'_succ, List.find?_cons, hb, List.findIdx?_cons]
    cases b == c with
    | true => simp
    | false =>
      simp only [Bool.false_eq_true, if_false]
      rw [ih, Option.map_map]
      congr 1
      funext x; simp; omega

theorem find_range (l : List UInt8) (c : UInt8) : (List.range (⟨l.toArray⟩ : ByteArray).size).find? (fun i => (⟨l.toArray⟩ : ByteArray)[i]! == c) = l.findIdx? (fun b => b == c) := by
  have hsz : (⟨l.toArray⟩ : ByteArray).size = l.length := by simp [ByteArray.size]
  have := find_from c l []
  rw [hsz, List.range_eq_range']
  simpa using this

theorem byte_arg (m : Nat) (w : World) (P : Program) : (Extern.Bytes.asByte (.int .u8 (m : Int))).run P w = .ok m.toUInt8 w := rfl

theorem ext_idx {P : Program} {f : FuncId} {fn : Func} (h : P.funcs[f]? = some fn) (hb : fn.body.isNone = true) (hn : (fn.name == "runtime.NumGoroutine") = false) (h1 : (Extern.findNext fn).isNone = true)
    (h2 : Extern.find fn = some Extern.BytealgIndexByte.indexByte) : XKok P f .idxB := fun l m w hm => by
  have h1' : Extern.findNext fn = none := by simpa using h1
  have hn' : ¬ fn.name = "runtime.NumGoroutine" := by simpa using hn
  have hb' : fn.body = none := by simpa using hb
  have hi := idxOfB_find m hm l 0
  have hr := find_range l m.toUInt8
  have hf : (Extern.BytealgIndexByte.indexByte #[.string ⟨l.toArray⟩, .int .u8 (m : Int)]).run P w = .ok (match idxOfB m l 0 with | some i => .int .i64 (i : Int) | none => .int .i64 (-1)) w := by
    have e : Extern.BytealgIndexByte.indexByte #[.string ⟨l.toArray⟩, .int .u8 (m : Int)] = (do
        let b ← Extern.Bytes.bytesOf (.string ⟨l.toArray⟩)
        let c ← Extern.Bytes.asByte (.int .u8 (m : Int))
        match (List.range b.size).find? fun i => b[i]! == c with
        | some i => pure (goInt i)
        | none => pure (goInt (-1)) : Sem Value) := rfl
    rw [e]
    simp only [Extern.Bytes.bytesOf, Sem.run_bind, Sem.run_pure, Result.andThen_ok, byte_arg, hr, hi]
    cases l.findIdx? (fun b => b == m.toUInt8) with
    | none => simp [goInt]
    | some i => simp [goInt]
  simp [callFunc, h, hn', hb', h1', h2, hf, mark, Sem.run]
  cases idxOfB m l 0 <;> rfl

theorem cntOfB_count (m : Nat) (hm : m ≤ 255) : ∀ (l : List UInt8) (n : Nat), cntOfB m l n = l.foldl (fun n x => if x == m.toUInt8 then n + 1 else n) n
  | [], n => rfl
  | b :: l, n => by
    have hb : Nat.beq b.toNat m = (b == m.toUInt8) := by
      rw [Bool.eq_iff_iff]
      simp only [Nat.beq_eq, beq_iff_eq]
      constructor
      · intro h; subst h; simp
      · intro h; subst h; simp; omega
    simp only [cntOfB, List.foldl_cons, hb, cntOfB_count m hm l]
    cases b == m.toUInt8 <;> rfl

theorem ext_cnt {P : Program} {f : FuncId} {fn : Func} (h : P.funcs[f]? = some fn) (hb : fn.body.isNone = true) (hn : (fn.name == "runtime.NumGoroutine") = false) (h1 : (Extern.findNext fn).isNone = true)
    (h2 : Extern.find fn = some Extern.BytealgCount.count) : XKok P f .cntB := fun l m w hm => by
  have h1' : Extern.findNext fn = none := by simpa using h1
  have hn' : ¬ fn.name = "runtime.NumGoroutine" := by simpa using hn
  have hb' : fn.body = none := by simpa using hb
  have hf : (Extern.BytealgCount.count #[.string ⟨l.toArray⟩, .int .u8 (m : Int)]).run P w = .ok (.int .i64 ((cntOfB m l 0 : Nat) : Int)) w := by
    have e : Extern.BytealgCount.count #[.string ⟨l.toArray⟩, .int .u8 (m : Int)] = (do
        let b ← Extern.Bytes.bytesOf (.string ⟨l.toArray⟩)
        let c ← Extern.Bytes.asByte (.int .u8 (m : Int))
        pure (goInt (b.foldl (fun n x => if x == c then n + 1 else n) (0 : Nat))) : Sem Value) := rfl
    rw [e]
    simp only [Extern.Bytes.bytesOf, Sem.run_bind, Sem.run_pure, Result.andThen_ok, byte_arg, cntOfB_count m hm l]
    rw [Lib.foldl_data]
    have key : ∀ (l : List UInt8) (n : Nat), l.foldl (fun (n : Int) x => if x == m.toUInt8 then n + 1 else n) (n : Int) = ((l.foldl (fun (n : Nat) x => if x == m.toUInt8 then n + 1 else n) n : Nat) : Int) := by
      intro l
      induction l with
      | nil => intro n; rfl
      | cons b l ih =>
        intro n
        simp only [List.foldl_cons]
        cases b == m.toUInt8 with
        | true => exact ih (n + 1)
        | false => exact ih n
    have := key l 0
    simp only [goInt]
    exact congrArg (fun x => Result.ok (Value.int IntKind.i64 x) w) this
  simp [callFunc, h, hn', hb', h1', h2, hf, mark, Sem.run]
end Go.AM

namespace Go.AM
open Go Go.ChangeShapes Go.WideShapes Go.RowKit
set_option linter.unusedVariables false

/-! ## from a run to a row: a law answers true, and leaves all as it was -/
section
variable {H : Type} {enc : TypeId × Value → H} {P : Program}

theorem args_stay (hl : laidOutB P = true) {W W' : World} (hb : Below W.heap.size W W') {sp : Nat → Bool} : ∀ {ts : List TypeId} {vs : List Value} {ds : List (DataW H)} {ps : List MemPlace},
    (∀ t ∈ ts, P.readableRec t = true ∧ t < P.types.size) → DataW.TrodAll enc P W 0 (fun _ => true) true ts vs ds ps → (∀ p ∈ ps, p.block < W.heap.size) → (∀ p ∈ ps, sp p.block = true) → DataW.TrodAll enc P W' 0 sp true ts vs ds ps
  | [], _, _, _, _, h, _, _ => by
    obtain ⟨rfl, rfl, rfl⟩ := trodAll_nil h
    exact rfl
  | t :: ts, _, _, _, hr, h, hlt, hs => by
    obtain ⟨v, vs1, d, ds1, a, b, rfl, rfl, rfl, h1, h2⟩ := trodAll_cons h
    have ht := hr t List.mem_cons_self
    exact ⟨a, b, WideElems.Trod_stays hl ht.1 ht.2 h1 (fun x hx => hb.same (hlt x (List.mem_append_left _ hx))) (fun x hx => hs x (List.mem_append_left _ hx)),
      args_stay hl hb (fun t ht => hr t (List.mem_cons_of_mem _ ht)) h2 (fun x hx => hlt x (List.mem_append_right _ hx)) (fun x hx => hs x (List.mem_append_right _ hx)), rfl⟩

theorem law_post {f : Func} {s : ChangeSpec} {apart fresh handsOn : Bool} {W W' : World} {args : Array Value} {ds gs : List (DataW H)} {before : List MemPlace} {tb : TypeId} (hl : laidOutB P = true)
    (hr : ∀ t ∈ f.params.toList, P.readableRec t = true ∧ t < P.types.size) (hres : f.resultTypes = #[tb]) (ht : P.underlying tb = some .bool) (hvars : s.vars = [])
    (hspec : s.fn H ds = { results := [.lit (.bool true)], args := ds })
    (hW : DataW.Whole enc P f.params.toList s.vars apart W args.toList ds gs before) (hb : Below W.heap.size W W') : s.post enc P f apart fresh handsOn false W args (.bool true) W' := by
  have hlt : ∀ p ∈ before, p.block < W.heap.size := fun p hp => hW.lt p hp
  have hW0 := hW
  obtain ⟨p, q, hA, hV, rfl, hz, hn⟩ := hW0
  rw [hvars] at hV
  obtain ⟨rfl, rfl⟩ := trodVars_none hV
  rw [List.append_nil] at *
  refine ⟨ds, [], p, [], p, [], hW, ?_, ?_, ?_, World.keptBut_mono (fun x hx => ⟨hx, .inr (.inl hx)⟩) (hb.frame (· ∈ p)), fun h => by cases h⟩
  · rw [List.append_nil, hspec, hres]
    exact trodAll_mk1 (shut_bool ht true)
  · rw [List.append_nil, hspec]
    exact args_stay hl hb hr hA hlt (fun x hx => by simpa using hlt x hx)
  · rw [List.append_nil, hspec, hvars]
    rfl

end

section
variable {P : Program} {E : Env}
/-- a run from a state in which nothing may be written -/
theorem below_of {φ φ' : Map} {w w' : World} (hro : ∀ id l, φ id = some l → l.ro = true) (h : Keep φ w φ' w') : Below w.heap.size w w' :=
  ⟨h.os, h.tape, h.output, h.size, fun b hb => h.same b hb (fun id l hl _ => hro id l hl)⟩
end
end Go.AM

namespace Go.AM
open Go Go.RowKit
set_option linter.unusedVariables false

/-! ## any world, as an abstract state that may not be written -/
mutual
def toV (N : Nat) : Value → V
  | .bool b => .bool b
  | .int k n => .int k n
  | .string s => .str s.data.toList
  | .pointer none => .ptr none
  | .pointer (some ⟨b, off, none⟩) => bif Nat.ble (Nat.succ b) N then .ptr (some (b, off)) else .bad
  | .slice none l c => .slice none l (.exact c)
  | .slice (some ⟨b, off, none⟩) l c => bif Nat.ble (Nat.succ b) N then .slice (some (b, off)) l (.exact c) else .bad
  | .map none => .map none
  | .nilFunc => .nilFunc
  | .iface t v => .iface t (toV N v)
  | .nilIface => .nilIface
  | .agg cs => .agg (toVA N cs)
  | .tuple cs => .tuple (toVA N cs)
  | _ => .bad
def toVA (N : Nat) : Array Value → List V
  | ⟨l⟩ => toVL N l
def toVL (N : Nat) : List Value → List V
  | [] => []
  | v :: l => toV N v :: toVL N l
end

theorem globMap_lt {N b : Nat} (h : Nat.ble (Nat.succ b) N = true) : globMap N b = some ⟨b, 0, 0, 0, true⟩ := if_pos (Nat.le_of_ble_eq_true h)

mutual
theorem VR_toV (N : Nat) : ∀ v : Value, VR (globMap N) (toV N v) v
  | .bool _ => rfl
  | .int _ _ => rfl
  | .string s => by
    show Value.string s = .string ⟨s.data.toList.toArray⟩
    simp
  | .pointer none => rfl
  | .pointer (some ⟨b, off, none⟩) => by
    simp only [toV]
    cases h : Nat.ble (Nat.succ b) N with
    | false => rfl
    | true => exact ⟨_, globMap_lt h, by simp⟩
  | .pointer (some ⟨b, off, some _⟩) => rfl
  | .slice none _ c => ⟨c, rfl, rfl⟩
  | .slice (some ⟨b, off, none⟩) l c => by
    simp only [toV]
    cases h : Nat.ble (Nat.succ b) N with
    | false => rfl
    | true => exact ⟨_, globMap_lt h, by simp [Cap.conc]⟩
  | .slice (some ⟨b, off, some _⟩) _ _ => rfl
  | .map none => rfl
  | .map (some _) => rfl
  | .func _ _ _ => rfl
  | .nilFunc => rfl
  | .iface _ v => ⟨v, rfl, VR_toV N v⟩
  | .nilIface => rfl
  | .agg cs => ⟨cs, rfl, VR_toVA N cs⟩
  | .tuple cs => ⟨cs, rfl, VR_toVA N cs⟩
  | .float _ _ => rfl
  | .complex _ _ _ => rfl
  | .chan _ => rfl
theorem VR_toVA (N : Nat) : ∀ cs : Array Value, VRL (globMap N) (toVA N cs) cs.toList
  | ⟨l⟩ => VR_toVL N l
theorem VR_toVL (N : Nat) : ∀ cs : List Value, VRL (globMap N) (toVL N cs) cs
  | [] => rfl
  | c :: cs => ⟨c, cs, rfl, VR_toV N c, VR_toVL N cs⟩
end

def absOb (N : Nat) : Obj → Option Ob
  | .cells arr _ _ => some (.cells (toVA N arr) 0 true)
  | _ => none

def initS (w : World) : S := ⟨trOf w.heap.size (fun id => match w.heap[id]? with | some o => absOb w.heap.size o | none => none), w.heap.size, []⟩

theorem initS_get (w : World) (id : Nat) : (initS w).h.get id = match w.heap[id]? with | some o => absOb w.heap.size o | none => none := by
  show (trOf _ _).get id = _
  rw [get_trOf]
  by_cases h : id < w.heap.size
  · rw [if_pos h]
  · rw [if_neg h, Array.getElem?_eq_none (by omega)]

theorem VRL_getC {φ : Map} : ∀ {vs : List V} {cs : List Value} {i : Nat} {v : V}, VRL φ vs cs → vs[i]? = some v → ∃ c, cs[i]? = some c ∧ VR φ v c := fun h hi => h.get hi

theorem initS_rel (w : World) : Rel (globMap w.heap.size) (initS w) w where
  obj id o ho := by
    rw [initS_get] at ho
    cases hw : w.heap[id]? with
    | none => rw [hw] at ho; simp at ho
    | some ob =>
      have hlt : id < w.heap.size := by
        rcases Nat.lt_or_ge id w.heap.size with h | h
        · exact h
        · rw [Array.getElem?_eq_none h] at hw; simp at hw
      rw [hw] at ho
      simp only at ho
      cases ob with
      | cells arr elem fz =>
        simp only [absOb, Option.some.injEq] at ho
        subst ho
        refine ⟨⟨id, 0, 0, 0, true⟩, if_pos hlt, arr, elem, fz, hw, ?_, fun h => absurd rfl h, fun h => by simp at h⟩
        intro j c hj
        obtain ⟨x, h1, h2⟩ := (VR_toVA w.heap.size arr).get hj
        exact ⟨x, by simpa using h1, h2⟩
      | _ => simp [absOb] at ho
  inj a b la lb h1 h2 _ _ e := by
    obtain ⟨_, rfl⟩ := globMap_some h1
    obtain ⟨_, rfl⟩ := globMap_some h2
    exact .inl e
  dom id hid := if_neg (by show ¬ id < w.heap.size; exact Nat.not_lt.2 hid)
  bnd id l hl := by obtain ⟨h1, rfl⟩ := globMap_some hl; exact h1
  un id hid := hid.elim

theorem globOk_le {n N : Nat} (h : n ≤ N) : GlobOk n (globMap N) := fun g hg => ⟨⟨g, 0, 0, 0, true⟩, if_pos (Nat.lt_of_lt_of_le hg h), rfl, rfl⟩

/-- a run that answers true, from any world -/
theorem law_calls {P : Program} {E : Env} {self : Self} (hs : SelfOk E P (G0 P) self) {f : FuncId} {args : Array Value} {W : World} {rc : Bool} {s' : S} (hng : E.ng ≤ W.heap.size)
    (h : self (.call f (toVA W.heap.size args) none) (initS W) = .ret (.bool true) rc s') : Calls P f args W fun e W' => e = .returned (.bool true) ∧ Below W.heap.size W W' :=
  (calls_of hs (globOk_le hng) (initS_rel W) (VR_toVA _ args) h).mono fun e W' ⟨c, φ', he, hv, hk, _⟩ => by
    have hc : c = .bool true := hv
    subst hc
    exact ⟨he, below_of (fun id l hl => by obtain ⟨_, rfl⟩ := globMap_some hl; rfl) hk⟩
end Go.AM
namespace Go.AM
open Go
/-! ## a counter for an oracle, beside all that may not be written -/
def withCnt (s : S) : S := ⟨s.h.put s.n (some (.cnt 0)), s.n + 1, s.lg⟩
def cntLoc : Loc := ⟨0, 0, 0, 0, true⟩

theorem withCnt_rel {φ : Map} {s : S} {w : World} (h : Rel φ s w) (hro : ∀ id l, φ id = some l → l.ro = true) (hw : 0 < w.heap.size) : Rel (φ.upd s.n cntLoc) (withCnt s) w := by
  have hne : φ s.n = none := h.dom _ (Nat.le_refl _)
  have hup : ∀ id l, (φ.upd s.n cntLoc) id = some l → (id = s.n ∧ l = cntLoc) ∨ φ id = some l := fun id l hl => by
    by_cases e : id = s.n
    · subst e; rw [Map.upd_self] at hl; cases hl; exact .inl ⟨rfl, rfl⟩
    · have : (φ.upd s.n cntLoc) id = φ id := by simp [Map.upd, e]
      rw [this] at hl; exact .inr hl
  refine ⟨fun id o ho => ?_, fun a b la lb h1 h2 _ _ _ => .inr ?_, fun id hid => ?_, fun id l hl => ?_, fun id hid => ?_⟩
  · simp only [withCnt, Tr.get_put] at ho
    by_cases e : id = s.n
    · subst e; rw [if_pos rfl] at ho; cases ho
      exact ⟨cntLoc, Map.upd_self, rfl⟩
    · rw [if_neg e] at ho
      obtain ⟨l, hl, hob⟩ := h.obj id o ho
      exact ⟨l, Map.upd_ext hne _ _ hl, hob.mono (Map.upd_ext hne)⟩
  · refine ⟨?_, ?_⟩
    · rcases hup a la h1 with ⟨_, rfl⟩ | h
      · rfl
      · exact hro _ _ h
    · rcases hup b lb h2 with ⟨_, rfl⟩ | h
      · rfl
      · exact hro _ _ h
  · have hid : s.n + 1 ≤ id := hid
    have : (φ.upd s.n cntLoc) id = φ id := by simp [Map.upd, show id ≠ s.n by omega]
    rw [this]; exact h.dom id (by omega)
  · rcases hup id l hl with ⟨_, rfl⟩ | h'
    · exact hw
    · exact h.bnd id l h'
  · obtain ⟨h1, h2⟩ := h.un id hid
    refine ⟨by show id < s.n + 1; omega, ?_⟩
    have : (φ.upd s.n cntLoc) id = φ id := by simp [Map.upd, show id ≠ s.n by omega]
    rw [this]; exact h2
end Go.AM

namespace Go.AM
open Go Go.RowKit
set_option linter.unusedVariables false

/-! ## answers -/
mutual
def sameV : V → V → Bool
  | .agg xs => fun
    | .agg ys => sameVL xs ys
    | _ => false
  | .tuple xs => fun
    | .tuple ys => sameVL xs ys
    | _ => false
  | x => fun y => same1 x y
def sameVL : List V → List V → Bool
  | [] => fun
    | [] => true
    | _ :: _ => false
  | x :: xs => fun
    | [] => false
    | y :: ys => and (sameV x y) (sameVL xs ys)
end

mutual
theorem sameV_spec : ∀ {x y : V}, sameV x y = true → x = y ∧ Nums (fun _ => False) x
  | .agg xs, y, h => by
    cases y <;> simp [sameV] at h
    obtain ⟨rfl, h2⟩ := sameVL_spec h
    exact ⟨rfl, h2⟩
  | .tuple xs, y, h => by
    cases y <;> simp [sameV] at h
    obtain ⟨rfl, h2⟩ := sameVL_spec h
    exact ⟨rfl, h2⟩
  | .bool _, y, h => same1_spec h
  | .int _ _, y, h => same1_spec h
  | .str _, y, h => same1_spec h
  | .ptr _, y, h => same1_spec h
  | .slice _ _ _, y, h => same1_spec h
  | .map _, y, h => same1_spec h
  | .func _ _ _, y, h => same1_spec h
  | .yield _, y, h => same1_spec h
  | .nilFunc, y, h => same1_spec h
  | .iface _ _, y, h => same1_spec h
  | .nilIface, y, h => same1_spec h
  | .bad, y, h => same1_spec h
theorem sameVL_spec : ∀ {xs ys : List V}, sameVL xs ys = true → xs = ys ∧ NumsL (fun _ => False) xs
  | [], [], _ => ⟨rfl, trivial⟩
  | [], _ :: _, h => by simp [sameVL] at h
  | _ :: _, [], h => by simp [sameVL] at h
  | x :: xs, y :: ys, h => by
    simp only [sameVL, Bool.and_eq_true] at h
    obtain ⟨rfl, h1⟩ := sameV_spec h.1
    obtain ⟨rfl, h2⟩ := sameVL_spec h.2
    exact ⟨rfl, h1, h2⟩
end

/-- does a run answer just this? -/
def gives (v : V) : TR → Bool
  | .ret u _ _ => sameV v u
  | _ => false

theorem gives_spec {v : V} {t : TR} (h : gives v t = true) : Nums (fun _ => False) v ∧ ∃ rc s, t = .ret v rc s := by
  cases t with
  | ret u rc s =>
    obtain ⟨rfl, h2⟩ := sameV_spec h
    exact ⟨h2, rc, s, rfl⟩
  | _ => cases h

/-- a known call, out of its run -/
theorem kn_ok {E : Env} {P : Program} {self : Self} (hs : SelfOk E P (G0 P) self) {k : Kn} (h1 : (E.fn k.f).isSome = true) (h2 : sameL k.args k.args = true) (h3 : laidOk E.ng k.g)
    (h4 : gives k.v (self (.call k.f k.args none) ⟨laidH k.g, E.ng, []⟩) = true) : KnOk E P k where
  fn h := by rw [h] at h1; cases h1
  args := (sameL_spec h2).2
  v := (gives_spec h4).1
  g := h3
  run := ⟨self, hs, (gives_spec h4).2⟩

theorem kns_nil {E : Env} {P : Program} : ∀ k ∈ ([] : List Kn), KnOk E P k := fun _ h => by cases h
theorem kns_cons {E : Env} {P : Program} {k : Kn} {l : List Kn} (h : KnOk E P k) (hl : ∀ k ∈ l, KnOk E P k) : ∀ k' ∈ k :: l, KnOk E P k' := fun k' h' => by
  rcases List.mem_cons.1 h' with rfl | h'
  · exact h
  · exact hl k' h'

/-! ## arguments, as abstract values -/
/-- cells that are whole numbers and bools -/
def PlainL : List TypeDesc → List V → Prop
  | [], l => l = []
  | .int k :: ds, l => ∃ n l', l = .int k n :: l' ∧ PlainL ds l'
  | .bool :: ds, l => ∃ b l', l = .bool b :: l' ∧ PlainL ds l'
  | _ :: _, _ => False

def plainD : TypeDesc → Bool
  | .int _ => true
  | .bool => true
  | _ => false

section
variable {P : Program} {w : World} {r : Reach} {base N : Nat}

theorem cell_int {t : TypeId} {k : IntKind} {v : Value} (ht : P.underlying t = some (.int k)) (h : Cell.okWide P w r base t v) : ∃ n, v = .int k n ∧ k.has n := by
  unfold Cell.okWide at h
  rw [ht] at h
  simp only [Cell.ok, ht] at h
  cases v <;> first
    | (obtain ⟨h1, h2⟩ := h; subst h1; exact ⟨_, rfl, h2⟩)
    | cases h

theorem cell_bool {t : TypeId} {v : Value} (ht : P.underlying t = some .bool) (h : Cell.okWide P w r base t v) : ∃ b, v = .bool b := by
  unfold Cell.okWide at h
  rw [ht] at h
  simp only [Cell.ok, ht] at h
  cases v <;> first
    | exact ⟨_, rfl⟩
    | cases h

theorem plain_row : ∀ {ts : List TypeId} {ds : List TypeDesc} {cs : List Value}, ts.map P.underlying = ds.map some → ds.all plainD = true → cs.length = ts.length →
    (∀ (i : Nat) (v : Value) (u : TypeId), cs[i]? = some v → ts[i]? = some u → Cell.okWide P w r base u v) → PlainL ds (toVL N cs)
  | [], [], [], _, _, _, _ => rfl
  | [], [], _ :: _, _, _, h, _ => by simp at h
  | [], _ :: _, _, h, _, _, _ => by simp at h
  | _ :: _, [], _, h, _, _, _ => by simp at h
  | _ :: _, _ :: _, [], _, _, h, _ => by simp at h
  | t :: ts, d :: ds, c :: cs, h1, h2, h3, h4 => by
    simp only [List.map_cons, List.cons.injEq] at h1
    simp only [List.all_cons, Bool.and_eq_true] at h2
    have h0 := h4 0 c t rfl rfl
    have ih : PlainL ds (toVL N cs) := plain_row h1.2 h2.2 (by simpa using h3) (fun i v u hv hu => h4 (i + 1) v u (by simpa using hv) (by simpa using hu))
    cases d <;> first
      | (obtain ⟨n, rfl, _⟩ := cell_int h1.1 h0; exact ⟨n, _, rfl, ih⟩)
      | (obtain ⟨b, rfl⟩ := cell_bool h1.1 h0; exact ⟨b, _, rfl, ih⟩)
      | (simp [plainD] at h2)

theorem open_agg {t : TypeId} {ts : List TypeId} {ds : List TypeDesc} {fs : Array Field} {v : Value} (hu : P.underlying t = some (.struct fs)) (hc : P.cellTypes P.depth t = some ts) (hn : P.cellsOf t = ts.length)
    (hts : ts.map P.underlying = ds.map some) (hd : ds.all plainD = true) (h : Value.okWide P w r base t v) : ∃ l, toV N v = .agg l ∧ PlainL ds l := by
  unfold Value.okWide at h
  rw [hu] at h
  obtain ⟨cs, rfl, hs, ts', h1, _, h2⟩ := h
  rw [hc] at h1; cases h1
  refine ⟨toVL N cs.toList, ?_, plain_row (w := w) (r := r) (base := base) hts hd (by simpa using hs.trans hn) fun i v u hv hu' => ?_⟩
  · cases cs; rfl
  · obtain ⟨u', e1, e2⟩ := h2 i v (by simpa using hv)
    have hi : i < ts.length := by
      rcases Nat.lt_or_ge i ts.length with h | h
      · exact h
      · rw [List.getElem?_eq_none h] at hu'; simp at hu'
    rw [Nat.mod_eq_of_lt hi, hu'] at e1
    cases e1; exact e2

theorem open_num {t : TypeId} {k : IntKind} {v : Value} (ht : P.underlying t = some (.int k)) (h : Value.okWide P w r base t v) : ∃ n, toV N v = .int k n ∧ k.has n := by
  unfold Value.okWide at h
  rw [ht] at h
  obtain ⟨n, rfl, hn⟩ := cell_int ht h
  exact ⟨n, rfl, hn⟩
end

/-- a run that answers true, where no argument leads to memory -/
theorem law_calls0 {P : Program} {E : Env} {self : Self} (hs : SelfOk E P (G0 P) self) {f : FuncId} {args : Array Value} {vs : List V} {W : World} {rc : Bool} {s' : S} (hng : E.ng ≤ W.heap.size) (hargs : toVA W.heap.size args = vs)
    (hn : NumsL (fun _ => False) vs) (h : self (.call f vs none) ⟨.leaf, E.ng, []⟩ = .ret (.bool true) rc s') : Calls P f args W fun e W' => e = .returned (.bool true) ∧ Below W.heap.size W W' :=
  (calls_of hs (globMap_ok E.ng) (globMap_rel hng) (VRL.on (p := fun _ => False) (fun _ _ h => h.elim) _ _ hn (by rw [← hargs]; exact VR_toVA W.heap.size args)) h).mono fun e W' ⟨c, φ', he, hv, hk, _⟩ => by
    have hc : c = .bool true := hv
    subst hc
    exact ⟨he, below_of (fun id l hl => by obtain ⟨_, rfl⟩ := globMap_some hl; rfl) hk⟩

/-! ## slices that come in -/
theorem Rel.addRo {φ : Map} {s : S} {w : World} {l : Loc} {o : Ob} (h : Rel φ s w) (hro : ∀ id l, φ id = some l → l.ro = true) (hl : l.ro = true) (hb : l.blk < w.heap.size) (ho : ObB (φ.upd s.n l) l o (w.heap[l.blk]?)) :
    Rel (φ.upd s.n l) (s.new o) w where
  obj j oj hj := by
    simp only [S.new, Tr.get_put] at hj
    split at hj
    · rename_i e; subst e; simp only [Option.some.injEq] at hj; subst hj; exact ⟨l, by simp [Map.upd], ho⟩
    · obtain ⟨k, hk, hok⟩ := h.obj j oj hj
      exact ⟨k, Map.upd_ext h.fresh _ _ hk, hok.mono (Map.upd_ext h.fresh)⟩
  inj a b la lb ha hb' _ _ e := by
    have key : ∀ id k, φ.upd s.n l id = some k → k.ro = true := fun id k hk => by
      simp only [Map.upd] at hk
      split at hk
      · simp only [Option.some.injEq] at hk; subst hk; exact hl
      · exact hro id k hk
    exact .inr ⟨key a la ha, key b lb hb'⟩
  dom j hj := by
    simp only [S.new] at hj
    simp only [Map.upd]
    rw [if_neg (by omega)]; exact h.dom j (by omega)
  bnd j lj hj := by
    simp only [Map.upd] at hj
    split at hj
    · simp only [Option.some.injEq] at hj; subst hj; exact hb
    · exact h.bnd j lj hj
  un j hj := by
    obtain ⟨h1, h2⟩ := h.un j hj
    refine ⟨Nat.lt_succ_of_lt h1, ?_⟩
    simp only [Map.upd]
    rw [if_neg (by omega)]; exact h2

theorem upd_ro {φ : Map} {n : Nat} {l : Loc} (h : ∀ id l, φ id = some l → l.ro = true) (hl : l.ro = true) : ∀ id k, φ.upd n l id = some k → k.ro = true := fun id k hk => by
  simp only [Map.upd] at hk
  split at hk
  · simp only [Option.some.injEq] at hk; subst hk; exact hl
  · exact h id k hk

theorem globMap_ro {ng : Nat} : ∀ id l, globMap ng id = some l → l.ro = true := fun id l h => by obtain ⟨_, rfl⟩ := globMap_some h; rfl

/-- 'n' whole numbers from place i on -/
def cellsFrom (k : IntKind) (x : Nat → Int) : Nat → Nat → List V
  | _, 0 => []
  | i, n + 1 => .int k (x i) :: cellsFrom k x (Nat.succ i) n

theorem cellsFrom_get {k : IntKind} {x : Nat → Int} : ∀ {n i j : Nat} {c : V}, (cellsFrom k x i n)[j]? = some c → j < n ∧ c = .int k (x (i + j))
  | 0, _, _, _, h => by simp [cellsFrom] at h
  | n + 1, i, 0, c, h => by
    simp only [cellsFrom, List.getElem?_cons_zero, Option.some.injEq] at h
    exact ⟨by omega, h.symm⟩
  | n + 1, i, j + 1, c, h => by
    simp only [cellsFrom, List.getElem?_cons_succ] at h
    obtain ⟨h1, h2⟩ := cellsFrom_get h
    refine ⟨by omega, ?_⟩
    rw [h2]
    have : Nat.succ i + j = i + (j + 1) := by omega
    rw [this]

theorem cell_block {w : World} {b o : Nat} {v : Value} {arr : Array Value} {el : TypeId} {fz : Nat × Nat} (hb : w.heap[b]? = some (.cells arr el fz)) (h : w.cell? ⟨b, o, none⟩ = some v) : arr[o]? = some v := by
  simpa [World.cell?, hb] using h

/-- a slice of whole numbers that comes in -/
theorem open_nums {H : Type} {enc : TypeId × Value → H} {P : Program} {W : World} {r : Reach} {base : Nat} {t e : TypeId} {k : IntKind} {v : Value} {d : DataW H} {ps : List MemPlace} (ht : P.underlying t = some (.slice e)) (he : P.underlying e = some (.int k)) (hc : P.cellsOf e = 1)
    (hval : Value.okWide P W r base t v) (hd : DataW.Trod enc P W 0 (fun _ => true) true t v d ps) :
    v = .slice none 0 0 ∨ ∃ (b o len cap : Nat) (x : Nat → Int) (arr : Array Value) (el : TypeId) (fz : Nat × Nat), v = .slice (some ⟨b, o, none⟩) len cap ∧ len ≤ cap ∧ W.heap[b]? = some (.cells arr el fz) ∧ ∀ i, i < cap → arr[o + i]? = some (.int k (x i)) := by
  obtain ⟨fuel, hd⟩ := hd
  unfold Value.okWide at hval
  rw [ht] at hval
  unfold Cell.okWide at hval
  rw [ht] at hval
  have hcell : v.cells.toList = [v] ∧ (v = .slice none 0 0 ∨ ∃ a len cap, v = .slice (some a) len cap ∧ a.spot = none ∧ ∃ row cells, W.shape? a.block = some (row, cells)) := by
    simp only [Cell.ok, ht] at hval
    cases v with
    | slice a len cap =>
      refine ⟨rfl, ?_⟩
      cases a with
      | none =>
        cases len <;> cases cap <;> first
          | exact .inl rfl
          | (cases hval; done)
      | some a =>
        obtain ⟨_, _, _, h1, row, cells, h2, _⟩ := hval
        exact .inr ⟨a, len, cap, rfl, h1, row, cells, h2⟩
    | _ => cases hval
  obtain ⟨hv, hcell⟩ := hcell
  rw [hv] at hd
  rcases Go.ChangeShapes.open_ints ht he hc hd with ⟨h, _⟩ | ⟨a, len, cap, zs, h, _, hle, _, hzs, _, hcs, _⟩
  · simp only [List.cons.injEq, and_true] at h
    exact .inl h
  · simp only [List.cons.injEq, and_true] at h
    subst h
    rcases hcell with h | ⟨a', len', cap', e, hsp, row, cells, hsh⟩
    · cases h
    · cases e
      obtain ⟨b, o, sp⟩ := a
      simp only at hsp
      subst hsp
      simp only [if_true] at hzs
      have hblk : ∃ arr el fz, W.heap[b]? = some (.cells arr el fz) := by
        unfold World.shape? at hsh
        cases hh : W.heap[b]? with
        | none => simp [hh] at hsh
        | some ob =>
          cases ob with
          | cells arr el fz => exact ⟨arr, el, fz, rfl⟩
          | _ => simp [hh] at hsh
      obtain ⟨arr, el, fz, hb⟩ := hblk
      exact .inr ⟨b, o, len, cap, fun i => zs.getD i 0, arr, el, fz, rfl, hle, hb, fun i hi => cell_block hb (by
        have := hcs i (by omega)
        have e : (⟨b, o, none⟩ : Addr).add i = ⟨b, o + i, none⟩ := by
          unfold Addr.add
          split
          · rename_i h; subst h; rfl
          · rfl
        rw [e] at this
        exact this)⟩

/-- a run that answers true, from a state in which nothing may be written -/
theorem law_callsR {P : Program} {E : Env} {self : Self} (hs : SelfOk E P (G0 P) self) {f : FuncId} {args : Array Value} {vs : List V} {W : World} {φ : Map} {s : S} {rc : Bool} {s' : S} (hg : GlobOk E.ng φ) (hrel : Rel φ s W) (hro : ∀ id l, φ id = some l → l.ro = true)
    (ha : VRL φ vs args.toList) (h : self (.call f vs none) s = .ret (.bool true) rc s') : Calls P f args W fun e W' => e = .returned (.bool true) ∧ Below W.heap.size W W' :=
  (calls_of hs hg hrel ha h).mono fun e W' ⟨c, φ', he, hv, hk, _⟩ => by
    have hc : c = .bool true := hv
    subst hc
    exact ⟨he, below_of hro hk⟩

/-- a global that holds a table -/
theorem tab_rel {P : Program} {W : World} {ng g : Nat} {name : String} {k : IntKind} {zs : List Int} (hn : P.globalNamed name = some g) (hg : g < ng) (hng : ng ≤ W.heap.size) (h : Lib.TabIs P W name k zs) :
    Rel (globMap ng) ⟨laidH (some (g, zs.map (V.int k))), ng, []⟩ W := by
  have hvar : W.var? P name = some (zs.map fun z => Value.int k z).toArray := h
  unfold World.var? at hvar
  rw [hn] at hvar
  simp only [Option.bind_some] at hvar
  refine ⟨fun id o ho => ?_, fun a b la lb g1 g2 _ _ g5 => ?_, fun id hid => if_neg (by show ¬ id < ng; exact Nat.not_lt.2 hid), fun id l hl => ?_, fun id hid => hid.elim⟩
  · have ho2 : (Tr.leaf.put g (some (Ob.cells (zs.map (V.int k)) 0 true))).get id = some o := ho
    rw [Tr.get_put] at ho2
    by_cases hid : id = g
    · rw [if_pos hid] at ho2
      subst hid
      simp only [Option.some.injEq] at ho2
      subst ho2
      cases hh : W.heap[id]? with
      | none => rw [hh] at hvar; simp at hvar
      | some ob =>
        rw [hh] at hvar
        cases ob with
        | cells arr el fz =>
          simp only [Option.some.injEq] at hvar
          subst hvar
          refine ⟨⟨id, 0, 0, 0, true⟩, if_pos hg, _, el, fz, hh, fun j c hj => ?_, fun h => absurd rfl h, fun h => by cases h⟩
          simp only [List.getElem?_map, Option.map_eq_some_iff] at hj
          obtain ⟨z, h1, rfl⟩ := hj
          exact ⟨.int k z, by simp [h1], rfl⟩
        | _ => simp at hvar
    · rw [if_neg hid] at ho2; simp [Tr.get] at ho2
  · obtain ⟨_, rfl⟩ := globMap_some g1
    obtain ⟨_, rfl⟩ := globMap_some g2
    exact .inl g5
  · obtain ⟨g1, rfl⟩ := globMap_some hl
    exact Nat.lt_of_lt_of_le g1 hng
end Go.AM

