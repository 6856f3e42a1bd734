/- An abstract machine for the model's programs, its runs, and what they say of the model (part AmG). No condition. -/
import Derived.Test.YtoenpafonldhoaaGreatDoorAmF
set_option linter.unusedVariables false
set_option linter.unusedSimpArgs false
set_option linter.unusedSectionVars false
namespace Go.AM
open Go
/-! ## runs at unknown values, by simp -/
theorem ble_dec (a b : Nat) : Nat.ble a b = decide (a ≤ b) := by
  by_cases h : a ≤ b
  · rw [Nat.ble_eq_true_of_le h, decide_eq_true h]
  · rw [decide_eq_false h]
    cases hb : Nat.ble a b with
    | false => rfl
    | true => exact absurd (Nat.le_of_ble_eq_true hb) h
theorem beq_dec (a b : Nat) : Nat.beq a b = decide (a = b) := by
  by_cases h : a = b
  · subst h; simp
  · rw [decide_eq_false h]
    cases hb : Nat.beq a b with
    | false => rfl
    | true => exact absurd (by simpa using hb) h
theorem takeN_all : ∀ cs : List V, takeN cs.length cs = some cs
  | [] => rfl
  | c :: cs => by simp [takeN, takeN_all cs]
theorem leaf_get {α : Type} (n : Nat) : (Tr.leaf : Tr α).get n = none := rfl
theorem ltI_dec (a b : Int) : ltI a b = decide (a < b) := by
  cases a <;> cases b <;> simp [ltI, ble_dec] <;> omega
theorem eqI_dec (a b : Int) : eqI a b = decide (a = b) := by
  cases a <;> cases b <;> simp [eqI, beq_dec]
  omega
theorem run_succ (E : Env) (n : Nat) (t : Task) (s : S) : run E (n + 1) t s = task t E (run E n) s := rfl
end Go.AM

namespace Go.AM
open Go
set_option linter.unusedVariables false
set_option linter.unusedSimpArgs false

/-! ## calls answered by what runs beside them would answer -/
/-- an answer: a value without places, or a slice of a new object of such values -/
inductive Ans where
  | val (v : V)
  | cells (n : Nat) (cap : Cap) (ds : List V) (opn : Nat)

def Ans.put : Ans → S → TR
  | .val v => fun s => .ret v false s
  | .cells n cap ds opn => fun s => .ret (.slice (some (s.n, 0)) n cap) false (s.new (.cells ds opn false))

/-- is a run's end such an answer? -/
def AnsOk : Ans → V → S → Prop
  | .val v, v0, _ => v0 = v ∧ Nums (fun _ => False) v
  | .cells n cap ds opn, v0, s' => ∃ j, v0 = .slice (some (j, 0)) n cap ∧ s'.h.get j = some (.cells ds opn false) ∧ ∀ (i : Nat) (c : V), ds[i]? = some c → Nums (fun _ => False) c

/-- all below a number is left as it is, but for one object -/
def frz (φ : Map) (n : Nat) (cl : Loc) (keep : Option Nat) : Map :=
  ⟨fun id => if id = n then some cl else if id < n then (φ id).map fun l => if keep = some id then l else ⟨l.blk, l.base, l.ccap, l.esz, true⟩ else none, fun _ => False⟩

theorem frz_self {φ : Map} {n : Nat} {cl : Loc} {keep : Option Nat} : frz φ n cl keep n = some cl := if_pos rfl

theorem frz_of {φ : Map} {n id : Nat} {cl l : Loc} {keep : Option Nat} (hn : id < n) (h : φ id = some l) : frz φ n cl keep id = some (if keep = some id then l else ⟨l.blk, l.base, l.ccap, l.esz, true⟩) := by
  show (if id = n then some cl else if id < n then (φ id).map _ else none) = _
  rw [if_neg (by omega), if_pos hn, h]; rfl

theorem frz_some {φ : Map} {n id : Nat} {cl l : Loc} {keep : Option Nat} (h : frz φ n cl keep id = some l) : (id = n ∧ l = cl) ∨ ∃ l0, id < n ∧ φ id = some l0 ∧ ((keep = some id ∧ l = l0) ∨ (keep ≠ some id ∧ l = ⟨l0.blk, l0.base, l0.ccap, l0.esz, true⟩)) := by
  have h : (if id = n then some cl else if id < n then (φ id).map fun l => if keep = some id then l else ⟨l.blk, l.base, l.ccap, l.esz, true⟩ else none) = some l := h
  split at h
  · rename_i e; cases h; exact .inl ⟨e, rfl⟩
  · split at h
    · rename_i hlt
      cases hf : φ id with
      | none => rw [hf] at h; cases h
      | some l0 =>
        rw [hf] at h
        simp only [Option.map_some, Option.some.injEq] at h
        refine .inr ⟨l0, hlt, rfl, ?_⟩
        by_cases hk : keep = some id
        · rw [if_pos hk] at h; exact .inl ⟨hk, h.symm⟩
        · rw [if_neg hk] at h; exact .inr ⟨hk, h.symm⟩
    · cases h

theorem frz_core {φ : Map} {n : Nat} {cl : Loc} {keep : Option Nat} : CoreOn (· < n) φ (frz φ n cl keep) := fun id l hn h => by
  refine ⟨_, frz_of hn h, ?_⟩
  split
  · exact .refl _
  · exact ⟨rfl, rfl, rfl, rfl⟩

/-- what a run beside may look at, below a number -/
def Beside (n : Nat) (s s0 : S) (keep : Option Nat) : Prop := ∀ id o, s0.h.get id = some o → (id = n ∧ o = .cnt 0) ∨
  (id < n ∧ ∃ cs opn ro, o = .cells cs opn true ∧ s.h.get id = some (.cells cs opn ro) ∧ NumsL (· < n) cs) ∨ (id < n ∧ keep = some id ∧ ∃ es clock, o = .map es clock true ∧ s.h.get id = some o ∧ NumsE (fun _ => False) es)

section
variable {P : Program} {E : Env}

theorem NumsL.at {p : Nat → Prop} : ∀ {l : List V} {j : Nat} {c : V}, NumsL p l → l[j]? = some c → Nums p c
  | [], _, _, _, h => by simp at h
  | v :: l, 0, c, hl, h => by simp at h; subst h; exact hl.1
  | v :: l, j + 1, c, hl, h => NumsL.at hl.2 (by simpa using h)

theorem frz_rel {n : Nat} {φ : Map} {s s0 : S} {w : World} {keep : Option Nat} (hrel : Rel φ s w) (h0n : s0.n = n + 1) (h0 : Beside n s s0 keep) {b : Nat} (hb : b < w.heap.size)
    (hkb : ∀ m lm, keep = some m → φ m = some lm → lm.blk ≠ b) : Rel (frz φ n ⟨b, 0, 0, 0, true⟩ keep) s0 w := by
  have hin : ∀ id, s0.h.get id ≠ none → id ≠ n → s.h.get id ≠ none := fun id h hne => by
    cases hg : s0.h.get id with
    | none => exact absurd hg h
    | some o =>
      rcases h0 id o hg with ⟨e, _⟩ | ⟨_, _, _, _, _, e, _⟩ | ⟨_, _, _, _, _, e, _⟩
      · exact absurd e hne
      · rw [e]; simp
      · rw [e]; simp
  refine ⟨fun id o ho => ?_, fun a c la lc h1 h2 h3 h4 h5 => ?_, fun id hid => ?_, fun id l hl => ?_, fun id hid => ?_⟩
  · rcases h0 id o ho with ⟨rfl, rfl⟩ | ⟨hlt, cs, opn, ro, rfl, hs, hcn⟩ | ⟨hlt, hk, es, clock, rfl, hs, hnum⟩
    · exact ⟨_, frz_self, rfl⟩
    · obtain ⟨l, hl, arr, elem, fz, e1, e2, e3, _⟩ := hrel.obj id _ hs
      refine ⟨_, frz_of hlt hl, ?_⟩
      have hc : l.core (if keep = some id then l else ⟨l.blk, l.base, l.ccap, l.esz, true⟩) := by
        split
        · exact .refl _
        · exact ⟨rfl, rfl, rfl, rfl⟩
      generalize (if keep = some id then l else ⟨l.blk, l.base, l.ccap, l.esz, true⟩) = l' at hc
      refine ⟨arr, elem, fz, by rw [hc.1]; exact e1, fun j c hj => ?_, fun h => by rw [hc.2.2.2, hc.2.1, hc.2.2.1]; exact e3 h, fun h => by cases h⟩
      obtain ⟨x, q1, q2⟩ := e2 j c hj
      exact ⟨x, by rw [hc.2.1]; exact q1, VR.on frz_core _ _ (hcn.at hj) q2⟩
    · obtain ⟨l, hl, hro, cs, e1, e2, e3⟩ := hrel.obj id _ hs
      refine ⟨l, by rw [frz_of hlt hl, if_pos hk], hro, cs, e1, EntsR.on (p := fun _ => False) (fun _ _ h => h.elim) hnum e2, e3⟩
  · rcases frz_some h1 with ⟨rfl, rfl⟩ | ⟨la0, glt, g1, g2⟩
    · rcases frz_some h2 with ⟨rfl, rfl⟩ | ⟨lc0, klt, k1, k2⟩
      · exact .inl rfl
      · rcases k2 with ⟨k3, rfl⟩ | ⟨k3, rfl⟩
        · exact absurd h5.symm (hkb c lc k3 k1)
        · exact .inr ⟨rfl, rfl⟩
    · rcases frz_some h2 with ⟨rfl, rfl⟩ | ⟨lc0, klt, k1, k2⟩
      · rcases g2 with ⟨g3, rfl⟩ | ⟨g3, rfl⟩
        · exact absurd h5 (hkb a la g3 g1)
        · exact .inr ⟨rfl, rfl⟩
      · have hane : a ≠ n := by omega
        have hcne : c ≠ n := by omega
        have h5' : la0.blk = lc0.blk := by
          rcases g2 with ⟨_, rfl⟩ | ⟨_, rfl⟩ <;> rcases k2 with ⟨_, rfl⟩ | ⟨_, rfl⟩ <;> exact h5
        rcases hrel.inj a c la0 lc0 g1 k1 (hin a h3 hane) (hin c h4 hcne) h5' with e | ⟨e1, e2⟩
        · exact .inl e
        · refine .inr ⟨?_, ?_⟩
          · rcases g2 with ⟨_, rfl⟩ | ⟨_, rfl⟩
            · exact e1
            · rfl
          · rcases k2 with ⟨_, rfl⟩ | ⟨_, rfl⟩
            · exact e2
            · rfl
  · rw [h0n] at hid
    show (if id = n then _ else if id < n then (φ id).map _ else none) = none
    rw [if_neg (by omega), if_neg (by omega)]
  · rcases frz_some hl with ⟨_, rfl⟩ | ⟨l0, _, g1, g2⟩
    · exact hb
    · have := hrel.bnd id l0 g1
      rcases g2 with ⟨_, rfl⟩ | ⟨_, rfl⟩ <;> exact this
  · exact hid.elim

/-- a call is what a run beside it says, whatever an oracle may choose there -/
theorem beside_core {n : Nat} (hng : 2 ≤ E.ng) (hngn : E.ng ≤ n) {f : FuncId} {args : List V} {ans : Ans} {s s0 : S} {keep : Option Nat} (h0n : s0.n = n + 1) (h0 : Beside n s s0 keep)
    (hargn : NumsL (· < n) args) (hkeep : ∀ m, keep = some m → m < n ∧ ∃ es clock, s.h.get m = some (.map es clock true) ∧ NumsE (fun _ => False) es)
    {φ : Map} {w : World} {cargs : Array Value} {cs : List Frame} {kind : CallKind} (hg : GlobOk E.ng φ) (hrel : Rel φ s w)
    (hargs : VRL φ args cargs.toList) (hpk : PkR φ none kind cs) (hk : kind = .normal ∨ kind = .deferred)
    (hrun : ∀ φ0, GlobOk E.ng φ0 → Rel φ0 s0 w → VRL φ0 args cargs.toList → ∃ v0 rc s', CallOk E P (G0 P) φ0 w (lone (Frame.enter P f cargs kind) cs w, cnt E s) f kind cs none (.ret v0 rc s') ∧ AnsOk ans v0 s' ∧ ∀ m, keep = some m → s'.h.get m = s.h.get m) :
    CallOk E P (G0 P) φ w (lone (Frame.enter P f cargs kind) cs w, cnt E s) f kind cs none (ans.put s) := by
  have hn : φ s.n = none := hrel.dom _ (Nat.le_refl _)
  -- a block for the counter
  obtain ⟨b, hb, hkb⟩ : ∃ b, b < w.heap.size ∧ ∀ m lm, keep = some m → φ m = some lm → lm.blk ≠ b := by
    obtain ⟨l0, g1, g2, _⟩ := hg 0 (by omega)
    obtain ⟨l1, k1, k2, _⟩ := hg 1 (by omega)
    have b0 := hrel.bnd _ _ g1
    have b1 := hrel.bnd _ _ k1
    rw [g2] at b0; rw [k2] at b1
    by_cases h : ∃ m lm, keep = some m ∧ φ m = some lm ∧ lm.blk = 0
    · obtain ⟨m, lm, e1, e2, e3⟩ := h
      refine ⟨1, b1, fun m' lm' e1' e2' => ?_⟩
      rw [e1] at e1'; cases e1'; rw [e2] at e2'; cases e2'; omega
    · exact ⟨0, b0, fun m lm e1 e2 e3 => h ⟨m, lm, e1, e2, e3⟩⟩
  have hrel0 := frz_rel hrel h0n h0 hb hkb
  generalize hφ0 : frz φ n ⟨b, 0, 0, 0, true⟩ keep = φ0 at hrel0
  have hfo : ∀ {id l}, id < n → φ id = some l → φ0 id = some (if keep = some id then l else ⟨l.blk, l.base, l.ccap, l.esz, true⟩) := fun hlt h => by rw [← hφ0]; exact frz_of hlt h
  have hfs : ∀ {id l}, φ0 id = some l → (id = n ∧ l = ⟨b, 0, 0, 0, true⟩) ∨ ∃ l0, id < n ∧ φ id = some l0 ∧ ((keep = some id ∧ l = l0) ∨ (keep ≠ some id ∧ l = ⟨l0.blk, l0.base, l0.ccap, l0.esz, true⟩)) := fun h => by rw [← hφ0] at h; exact frz_some h
  have hg0 : GlobOk E.ng φ0 := fun g hlt => by
    obtain ⟨l, g1, g2, g3⟩ := hg g hlt
    refine ⟨_, hfo (Nat.lt_of_lt_of_le hlt hngn) g1, ?_, ?_⟩ <;> split <;> assumption
  obtain ⟨v0, rc, s', hcl, hans, hkp⟩ := hrun φ0 hg0 hrel0 (VRL.on (by rw [← hφ0]; exact frz_core) _ _ hargn hargs)
  obtain ⟨φ', w', fr, c, h1, h2, h3, hst, h5, h6, h7, h8, h9⟩ := hcl
  -- what is as it was
  have hsame : ∀ id l, φ id = some l → s.h.get id ≠ none → keep ≠ some id → w'.heap[l.blk]? = w.heap[l.blk]? := fun id l hl hin hk => by
    refine h1.same _ (hrel.bnd id l hl) fun id2 l2 hl2 hb2 => ?_
    rcases hfs hl2 with ⟨_, rfl⟩ | ⟨l0, _, g1, ⟨g2, rfl⟩ | ⟨_, rfl⟩⟩
    · rfl
    · obtain ⟨_, es, clock, q1, _⟩ := hkeep id2 g2
      rcases hrel.inj id2 id l2 l g1 hl (by rw [q1]; simp) hin hb2 with e | ⟨e, _⟩
      · exact absurd (e ▸ g2) hk
      · exact e
    · rfl
  have hrelw : Rel φ s w' := by
    refine ⟨fun id o ho => ?_, hrel.inj, hrel.dom, fun id l hl => Nat.lt_of_lt_of_le (hrel.bnd id l hl) h1.size, hrel.un⟩
    obtain ⟨l, hl, hob⟩ := hrel.obj id o ho
    refine ⟨l, hl, ?_⟩
    by_cases hkid : keep = some id
    · obtain ⟨hidn, es, clock, q1, q2⟩ := hkeep id hkid
      have q3 := hkp id hkid
      rw [q1] at q3 ho
      cases ho
      obtain ⟨l', k1, k2, cs', k3, k4, k5⟩ := h2.obj id _ q3
      have : φ' id = some l := h1.ext _ _ (by rw [hfo hidn hl, if_pos hkid])
      rw [this] at k1; cases k1
      exact ⟨k2, cs', k3, EntsR.on (p := fun _ => False) (fun _ _ h => h.elim) q2 k4, k5⟩
    · rw [hsame id l hl (by rw [ho]; simp) hkid]; exact hob
  have hksame : ∀ b', b' < w.heap.size → (∀ id l, φ id = some l → l.blk = b' → l.ro = true) → w'.heap[b']? = w.heap[b']? := fun b' hb' hro => by
    refine h1.same b' hb' fun id l hl e => ?_
    rcases hfs hl with ⟨_, rfl⟩ | ⟨l0, _, g1, ⟨_, rfl⟩ | ⟨_, rfl⟩⟩
    · rfl
    · exact hro id l g1 e
    · rfl
  cases ans with
  | val v =>
    obtain ⟨rfl, hnum⟩ := hans
    exact ⟨φ, w', fr, c, ⟨fun _ _ h => h, h1.size, hksame, fun id l hl => .inl ⟨id, l, hl, rfl, fun h => h⟩, h1.os, h1.output, h1.tape, rfl, fun _ _ h => .inl h⟩, hrelw,
      VR.on (fun _ _ h => h.elim) _ _ hnum h3, hst, h5, h6, h7, h8, h9⟩
  | cells len cap ds opn =>
    obtain ⟨j, rfl, hj, hnum⟩ := hans
    obtain ⟨l, hl, hc⟩ := h3
    obtain ⟨l', hl', arr, elem, fz, e1, e2, e3, e4⟩ := h2.obj j _ hj
    rw [hl] at hl'; cases hl'
    have hro : l.ro = false := (e4 rfl).1
    have hnew : w.heap.size ≤ l.blk := by
      rcases h1.from_ j l hl with ⟨id', l0, g1, g2, g3⟩ | g
      · have g3 := g3 hro
        rcases hfs g1 with ⟨_, rfl⟩ | ⟨l1, _, k1, ⟨k2, rfl⟩ | ⟨_, rfl⟩⟩
        · cases g3
        · obtain ⟨_, es, clock, q1, q2⟩ := hkeep id' k2
          have q3 := hkp id' k2
          rw [q1] at q3
          rcases h2.inj id' j l0 l (h1.ext _ _ g1) hl (by rw [q3]; simp) (by rw [hj]; simp) g2 with e | ⟨e, _⟩
          · subst e; rw [q3] at hj; cases hj
          · rw [g3] at e; cases e
        · cases g3
      · exact g
    have hupd : ∀ {id k}, φ.upd s.n l id = some k → (id = s.n ∧ k = l) ∨ φ id = some k := fun {id k} h => by
      by_cases e : id = s.n
      · subst e; rw [Map.upd_self] at h; cases h; exact .inl ⟨rfl, rfl⟩
      · have : (φ.upd s.n l) id = φ id := by simp [Map.upd, e]
        rw [this] at h; exact .inr h
    refine ⟨φ.upd s.n l, w', fr, c, ⟨Map.upd_ext hn, h1.size, hksame, fun id k hk => ?_, h1.os, h1.output, h1.tape, rfl, fun id k hk => ?_⟩, ?_, ⟨l, Map.upd_self, hc⟩, hst, h5, h6, h7, h8, h9⟩
    · rcases hupd hk with ⟨_, rfl⟩ | hk
      · exact .inr hnew
      · exact .inl ⟨id, k, hk, rfl, fun h => h⟩
    · rcases hupd hk with ⟨_, rfl⟩ | hk
      · exact .inr hro
      · exact .inl hk
    · refine Rel.new hrelw (Nat.le_refl _) (h2.bnd j l hl) (fun id k hk _ e => ?_) (fun _ _ _ _ => rfl) ?_
      · have := hrel.bnd id k hk; omega
      · refine ⟨arr, elem, fz, e1, fun i x hx => ?_, e3, e4⟩
        obtain ⟨y, q1, q2⟩ := e2 i x hx
        exact ⟨y, q1, VR.on (p := fun _ => False) (fun _ _ h => h.elim) _ _ (hnum i x hx) q2⟩

/-- a call is what a run beside it says, whatever an oracle may choose there -/
theorem beside_any {n : Nat} (hE : EnvOk E P) (hng : 2 ≤ E.ng) (hngn : E.ng ≤ n) {N : Nat} {f : FuncId} {args : List V} {ans : Ans} {s s0 : S} {keep : Option Nat} (h0n : s0.n = n + 1) (hc0 : s0.h.get n = some (.cnt 0)) (h0 : Beside n s s0 keep)
    (hargn : NumsL (· < n) args) (hkeep : ∀ m, keep = some m → m < n ∧ ∃ es clock, s.h.get m = some (.map es clock true) ∧ NumsE (fun _ => False) es)
    (hrun : ∀ ω, ∃ v0 rc s', run (E.by ω n) N (.call f args none) s0 = .ret v0 rc s' ∧ AnsOk ans v0 s' ∧ ∀ m, keep = some m → s'.h.get m = s.h.get m)
    {φ : Map} {w : World} {cargs : Array Value} {cs : List Frame} {kind : CallKind} (hg : GlobOk E.ng φ) (hrel : Rel φ s w)
    (hargs : VRL φ args cargs.toList) (hpk : PkR φ none kind cs) (hk : kind = .normal ∨ kind = .deferred) :
    CallOk E P (G0 P) φ w (lone (Frame.enter P f cargs kind) cs w, cnt E s) f kind cs none (ans.put s) :=
  beside_core hng hngn h0n h0 hargn hkeep hg hrel hargs hpk hk fun φ0 hg0 hrel0 hargs0 => by
    let ω := tapeOf P (lone (Frame.enter P f cargs kind) cs w)
    obtain ⟨v0, rc, s', hr, hans, hkp⟩ := hrun ω
    refine ⟨v0, rc, s', ?_, hans, hkp⟩
    have hs := run_ok (G := GW P ω) (hE.by ω n) gw_ok N
    have hcl := hs.call (f := f) (pk := none) (kind := kind) (cs := cs) (cargs := cargs) (φ := φ0) (args := args) hg0 hrel0 hargs0 hpk hk
    rw [hr] at hcl
    obtain ⟨φ', w', fr, c, h1, h2, h3, h4, h5⟩ := hcl
    have hst := gw_real h4 ⟨0, by simp [wayOf, cnt, Env.by, hc0, cntAt]⟩
    exact ⟨φ', w', fr, c, h1, h2, h3, hst, h5⟩

/-- a call is what a run beside it says -/
theorem beside_self {self : Self} {n : Nat} (hs : SelfOk E P (G0 P) self) (hng : 2 ≤ E.ng) (hngn : E.ng ≤ n) {f : FuncId} {args : List V} {ans : Ans} {s s0 : S} {keep : Option Nat} (h0n : s0.n = n + 1) (h0 : Beside n s s0 keep)
    (hargn : NumsL (· < n) args) (hkeep : ∀ m, keep = some m → m < n ∧ ∃ es clock, s.h.get m = some (.map es clock true) ∧ NumsE (fun _ => False) es)
    (hrun : ∃ v0 rc s', self (.call f args none) s0 = .ret v0 rc s' ∧ AnsOk ans v0 s' ∧ ∀ m, keep = some m → s'.h.get m = s.h.get m)
    {φ : Map} {w : World} {cargs : Array Value} {cs : List Frame} {kind : CallKind} (hg : GlobOk E.ng φ) (hrel : Rel φ s w)
    (hargs : VRL φ args cargs.toList) (hpk : PkR φ none kind cs) (hk : kind = .normal ∨ kind = .deferred) :
    CallOk E P (G0 P) φ w (lone (Frame.enter P f cargs kind) cs w, cnt E s) f kind cs none (ans.put s) :=
  beside_core hng hngn h0n h0 hargn hkeep hg hrel hargs hpk hk fun φ0 hg0 hrel0 hargs0 => by
    obtain ⟨v0, rc, s', hr, hans, hkp⟩ := hrun
    have hcl := hs.call (f := f) (pk := none) (kind := kind) (cs := cs) (cargs := cargs) (φ := φ0) (args := args) hg0 hrel0 hargs0 hpk hk
    rw [hr] at hcl
    exact ⟨v0, rc, s', hcl, hans, hkp⟩
end

/-! ## runs with answers -/
/-- what is known to answer a call; nothing: it is run -/
abbrev Ov := FuncId → List V → Option (S → TR)

structure QOk (E : Env) (P : Program) (f : FuncId) (args : List V) (q : S → TR) : Prop where
  fn : E.fn f ≠ none
  lcl : Lcl q
  call : ∀ {s : S} {φ : Map} {w : World} {cargs : Array Value} {cs : List Frame} {kind : CallKind}, GlobOk E.ng φ → Rel φ s w → VRL φ args cargs.toList → PkR φ none kind cs →
    (kind = .normal ∨ kind = .deferred) → CallOk E P (G0 P) φ w (lone (Frame.enter P f cargs kind) cs w, cnt E s) f kind cs none (q s)

def OvOk (E : Env) (P : Program) (ov : Ov) : Prop := ∀ f args q, ov f args = some q → QOk E P f args q

def ovQ (ov : Ov) (go : Self) : Self
  | .call f args none => fun s => match ov f args with
    | some q => q s
    | none => go (.call f args none) s
  | t => go t

def runQ (E : Env) (ov : Ov) : Nat → Self
  | 0 => fun _ _ => .fail "fuel"
  | n + 1 => ovQ ov (fun t s => task t E (runQ E ov n) s)

section
variable {P : Program} {E : Env} {ov : Ov}

theorem ovQ_ok {go : Self} (hov : OvOk E P ov) (h : SelfOk E P (G0 P) go) : SelfOk E P (G0 P) (ovQ ov go) where
  rel := h.rel
  fn := by
    intro f args pk s he v rc s'
    cases pk with
    | some p => exact h.fn he v rc s'
    | none =>
      simp only [ovQ]
      cases ho : ov f args with
      | none => exact h.fn he v rc s'
      | some q => exact absurd he (hov f args q ho).fn
  call := by
    intro φ s w f args pk cargs kind cs hg hrel ha hpk hk
    cases pk with
    | some p => exact h.call hg hrel ha hpk hk
    | none =>
      simp only [ovQ]
      cases ho : ov f args with
      | none => exact h.call hg hrel ha hpk hk
      | some q => exact (hov f args q ho).call hg hrel ha hpk hk
  round := h.round
  loop := h.loop
  scope := h.scope

theorem lcl_ovQ {go : Self} (hov : OvOk E P ov) (h : LSelf go) : LSelf (ovQ ov go)
  | .call f args (some p) => h _
  | .call f args none => by
    show Lcl (fun s => ovQ ov go (.call f args none) s)
    simp only [ovQ]
    cases ho : ov f args with
    | none => exact h _
    | some q => exact (hov f args q ho).lcl
  | .round l args => h _
  | .loop cx body fr => h _
  | .scope cx code body fr => h _

theorem lcl_runQ (hov : OvOk E P ov) : ∀ n, LSelf (runQ E ov n)
  | 0 => fun _ => lcl_fail rfl
  | n + 1 => lcl_ovQ hov (lcl_task (lcl_runQ hov n) (lcl_draw (lcl_runQ hov n)))

theorem runQ_ok (hE : EnvOk E P) (ho : E.oid = none) (hov : OvOk E P ov) : ∀ n, SelfOk E P (G0 P) (runQ E ov n)
  | 0 => ⟨g0_ok ho, by intro f args pk s h v rc s'; simp [runQ], fun _ _ _ _ _ => trivial, fun _ _ _ _ => trivial, fun _ _ _ _ => trivial, fun _ _ _ _ => trivial⟩
  | n + 1 => ovQ_ok hov (task_ok hE (runQ_ok hE ho hov n) (draw_ok hE (runQ_ok hE ho hov n) (lcl_runQ hov n)))
end

/-! ## calls that look at known cells -/
def capE : Cap → Cap → Bool
  | .exact a => fun
    | .exact b => Nat.beq a b
    | _ => false
  | .opn a => fun
    | .opn b => Nat.beq a b
    | _ => false

mutual
def eqW : V → V → Bool
  | .agg xs => fun
    | .agg ys => eqWL xs ys
    | _ => false
  | .tuple xs => fun
    | .tuple ys => eqWL xs ys
    | _ => false
  | .ptr (some a) => fun
    | .ptr (some b) => and (Nat.beq a.1 b.1) (Nat.beq a.2 b.2)
    | _ => false
  | .ptr none => fun
    | .ptr none => true
    | _ => false
  | .slice (some a) n k => fun
    | .slice (some b) m j => and (and (Nat.beq a.1 b.1) (Nat.beq a.2 b.2)) (and (Nat.beq n m) (capE k j))
    | _ => false
  | .slice none n k => fun
    | .slice none m j => and (Nat.beq n m) (capE k j)
    | _ => false
  | .map (some a) => fun
    | .map (some b) => Nat.beq a b
    | _ => false
  | .esl => fun
    | .esl => true
    | _ => false
  | x => fun y => same1 x y
def eqWL : List V → List V → Bool
  | [] => fun
    | [] => true
    | _ :: _ => false
  | x :: xs => fun
    | [] => false
    | y :: ys => and (eqW x y) (eqWL xs ys)
end

theorem capE_spec {a b : Cap} (h : capE a b = true) : a = b := by
  cases a <;> cases b <;> simp [capE] at h <;> rw [h]

mutual
theorem eqW_spec : ∀ {x y : V}, eqW x y = true → x = y
  | .agg xs, y, h => by
    cases y <;> simp [eqW] at h
    rw [eqWL_spec h]
  | .tuple xs, y, h => by
    cases y <;> simp [eqW] at h
    rw [eqWL_spec h]
  | .ptr (some a), y, h => by
    cases y with
    | ptr b => cases b with
      | none => simp [eqW] at h
      | some b =>
        simp [eqW] at h
        obtain ⟨a1, a2⟩ := a; obtain ⟨b1, b2⟩ := b
        simp only at h; rw [h.1, h.2]
    | _ => simp [eqW] at h
  | .ptr none, y, h => by
    cases y with
    | ptr b => cases b with
      | none => rfl
      | some b => simp [eqW] at h
    | _ => simp [eqW] at h
  | .slice (some a) n k, y, h => by
    cases y with
    | slice b m j => cases b with
      | none => simp [eqW] at h
      | some b =>
        simp [eqW] at h
        obtain ⟨a1, a2⟩ := a; obtain ⟨b1, b2⟩ := b
        simp only at h
        obtain ⟨⟨h1, h2⟩, h3, h4⟩ := h
        rw [h1, h2, h3, capE_spec h4]
    | _ => simp [eqW] at h
  | .slice none n k, y, h => by
    cases y with
    | slice b m j => cases b with
      | none => simp [eqW] at h; rw [h.1, capE_spec h.2]
      | some b => simp [eqW] at h
    | _ => simp [eqW] at h
  | .map (some a), y, h => by
    cases y with
    | map b => cases b with
      | none => simp [eqW] at h
      | some b => simp [eqW] at h; rw [h]
    | _ => simp [eqW] at h
  | .map none, y, h => by simp only [eqW] at h; exact (same1_spec h).1
  | .esl, y, h => by
    cases y <;> simp [eqW] at h
    rfl
  | .bool _, y, h => by simp only [eqW] at h; exact (same1_spec h).1
  | .int _ _, y, h => by simp only [eqW] at h; exact (same1_spec h).1
  | .str _, y, h => by simp only [eqW] at h; exact (same1_spec h).1
  | .func _ _ _, y, h => by simp only [eqW] at h; exact (same1_spec h).1
  | .yield _, y, h => by simp only [eqW] at h; exact (same1_spec h).1
  | .nilFunc, y, h => by simp only [eqW] at h; exact (same1_spec h).1
  | .iface _ _, y, h => by simp only [eqW] at h; exact (same1_spec h).1
  | .nilIface, y, h => by simp only [eqW] at h; exact (same1_spec h).1
  | .bad, y, h => by simp only [eqW] at h; exact (same1_spec h).1
theorem eqWL_spec : ∀ {xs ys : List V}, eqWL xs ys = true → xs = ys
  | [], [], _ => rfl
  | [], _ :: _, h => by simp [eqWL] at h
  | _ :: _, [], h => by simp [eqWL] at h
  | x :: xs, y :: ys, h => by
    simp only [eqWL, Bool.and_eq_true] at h
    rw [eqW_spec h.1, eqWL_spec h.2]
end

/-- a call whose answer is known where some objects hold known cells -/
structure KnO where
  f : FuncId
  args : List V
  n : Nat
  obs : List (Nat × Nat × List V)
  v : V

def isCells (k : Nat) (cs : List V) : Option Ob → Bool
  | some (.cells ds o _) => and (Nat.beq k o) (eqWL cs ds)
  | _ => false

def chkO (v : V) : List (Nat × Nat × List V) → S → TR
  | [] => fun s => .ret v false s
  | e :: l => fun s => bif isCells e.2.1 e.2.2 (s.h.get e.1) then chkO v l (s.rd e.1) else .fail "known: cells"

def KnO.q (k : KnO) : S → TR := chkO k.v k.obs

def ovO : List KnO → Ov
  | [] => fun _ _ => none
  | k :: l => fun f args => bif Nat.beq f k.f then (bif eqWL k.args args then some k.q else ovO l f args) else ovO l f args

/-- the objects alone -/
def frzH : List (Nat × Nat × List V) → Tr Ob
  | [] => .leaf
  | e :: l => (frzH l).put e.1 (some (.cells e.2.2 e.2.1 true))

mutual
/-- all numbers are below one -/
def belowV (n : Nat) : V → Bool
  | .ptr (some a) => Nat.ble (Nat.succ a.1) n
  | .slice (some a) _ _ => Nat.ble (Nat.succ a.1) n
  | .map (some r) => Nat.ble (Nat.succ r) n
  | .func _ a b => and (belowVL n a) (belowVL n b)
  | .yield r => Nat.ble (Nat.succ r) n
  | .iface _ v => belowV n v
  | .agg vs => belowVL n vs
  | .tuple vs => belowVL n vs
  | _ => true
def belowVL (n : Nat) : List V → Bool
  | [] => true
  | v :: vs => and (belowV n v) (belowVL n vs)
end

mutual
theorem belowV_spec {n : Nat} : ∀ {v : V}, belowV n v = true → Nums (· < n) v
  | .ptr (some a), h => Nat.le_of_ble_eq_true h
  | .slice (some a) _ _, h => Nat.le_of_ble_eq_true h
  | .map (some r), h => Nat.le_of_ble_eq_true h
  | .func _ a b, h => by simp only [belowV, Bool.and_eq_true] at h; exact ⟨belowVL_spec h.1, belowVL_spec h.2⟩
  | .yield r, h => Nat.le_of_ble_eq_true h
  | .iface _ v, h => by simp only [belowV] at h; exact belowV_spec (v := v) h
  | .agg vs, h => by simp only [belowV] at h; exact belowVL_spec (vs := vs) h
  | .tuple vs, h => by simp only [belowV] at h; exact belowVL_spec (vs := vs) h
  | .ptr none, _ => trivial
  | .slice none _ _, _ => trivial
  | .map none, _ => trivial
  | .bool _, _ => trivial
  | .int _ _, _ => trivial
  | .str _, _ => trivial
  | .esl, _ => trivial
  | .nilFunc, _ => trivial
  | .nilIface, _ => trivial
  | .bad, _ => trivial
theorem belowVL_spec {n : Nat} : ∀ {vs : List V}, belowVL n vs = true → NumsL (· < n) vs
  | [], _ => trivial
  | v :: vs, h => by simp only [belowVL, Bool.and_eq_true] at h; exact ⟨belowV_spec h.1, belowVL_spec h.2⟩
end

def belowO (n : Nat) : List (Nat × Nat × List V) → Bool
  | [] => true
  | e :: l => and (and (Nat.ble (Nat.succ e.1) n) (belowVL n e.2.2)) (belowO n l)

def KnO.below (k : KnO) : Bool := and (belowVL k.n k.args) (belowO k.n k.obs)

def frzS (k : KnO) : S := ⟨frzH k.obs, k.n + 1, []⟩
def frzC (k : KnO) : S := ⟨(frzH k.obs).put k.n (some (.cnt 0)), k.n + 1, []⟩

theorem ovO_spec {f : FuncId} {args : List V} {q : S → TR} : ∀ {l : List KnO}, ovO l f args = some q → ∃ k ∈ l, k.f = f ∧ k.args = args ∧ q = k.q
  | [], h => by simp [ovO] at h
  | k' :: l, h => by
    simp only [ovO] at h
    have rest : ovO l f args = some q → ∃ k ∈ k' :: l, k.f = f ∧ k.args = args ∧ q = k.q := fun h =>
      let ⟨k, h1, h2⟩ := ovO_spec h
      ⟨k, List.mem_cons_of_mem _ h1, h2⟩
    cases hb : Nat.beq f k'.f with
    | false => rw [hb] at h; exact rest h
    | true =>
      rw [hb] at h
      simp only [cond_true] at h
      cases hs : eqWL k'.args args with
      | false => rw [hs] at h; exact rest h
      | true =>
        rw [hs] at h
        simp only [cond_true, Option.some.injEq] at h
        exact ⟨k', List.mem_cons_self, (by simpa using hb : f = k'.f).symm, eqWL_spec hs, h.symm⟩

theorem lcl_at {F : S → TR} {f : Nat → Bool} {z : TR} (hz : Res.st z = none) (hF : Lcl F) : Lcl (fun s => bif f s.n then F s else z) := fun s t ht => by
  cases hf : f s.n with
  | false => simp only [hf, cond_false, hz] at ht; cases ht
  | true =>
    simp only [hf, cond_true] at ht
    obtain ⟨new, h1, h2, h3⟩ := hF s t ht
    refine ⟨new, h1, h2, fun D s' hS hD hN => ?_⟩
    obtain ⟨t', k1, k2, k3⟩ := h3 D s' hS hD hN
    refine ⟨t', ?_, k2, k3⟩
    simp only [hS.1, hf, cond_true]
    exact k1

theorem lcl_chkO {v : V} : ∀ {l : List (Nat × Nat × List V)}, Lcl (chkO v l)
  | [] => lcl_ret
  | e :: l => (lcl_get (G := fun o s => bif isCells e.2.1 e.2.2 o then chkO v l (s.rd e.1) else .fail "known: cells") e.1 (fun o => by
      cases isCells e.2.1 e.2.2 o with
      | true => exact lcl_rd e.1 lcl_chkO
      | false => exact lcl_fail rfl)).none

theorem chkO_spec {n : Nat} {v : V} : ∀ {l : List (Nat × Nat × List V)} {s : S}, belowO n l = true → (∃ w, chkO v l s = .fail w) ∨ (∃ s', chkO v l s = .ret v false s' ∧ (∀ id, s'.h.get id = s.h.get id) ∧ s'.n = s.n ∧ ∀ id o, (frzH l).get id = some o → id < n ∧ ∃ cs opn ro, o = .cells cs opn true ∧ s.h.get id = some (.cells cs opn ro) ∧ NumsL (· < n) cs)
  | [], s, _ => .inr ⟨s, rfl, fun _ => rfl, rfl, fun id o h => by simp [frzH, Tr.get] at h⟩
  | e :: l, s, hbl => by
    simp only [belowO, Bool.and_eq_true] at hbl
    obtain ⟨⟨hb1, hb2⟩, hb3⟩ := hbl
    simp only [chkO]
    cases hc : isCells e.2.1 e.2.2 (s.h.get e.1) with
    | false => exact .inl ⟨_, rfl⟩
    | true =>
      simp only [cond_true]
      rcases chkO_spec (v := v) (l := l) (s := s.rd e.1) hb3 with ⟨w, h⟩ | ⟨s', h1, h2, h3, h4⟩
      · exact .inl ⟨w, h⟩
      · refine .inr ⟨s', h1, h2, h3, fun id o ho => ?_⟩
        simp only [frzH, Tr.get_put] at ho
        by_cases he : id = e.1
        · subst he
          rw [if_pos rfl] at ho
          cases ho
          unfold isCells at hc
          split at hc
          · rename_i ds opn ro hds
            simp only [Bool.and_eq_true, Nat.beq_eq] at hc
            refine ⟨Nat.le_of_ble_eq_true hb1, _, _, ro, rfl, ?_, belowVL_spec hb2⟩
            rw [hds, eqWL_spec hc.2, hc.1]
          · cases hc
        · rw [if_neg he] at ho
          exact h4 id o ho

section
variable {P : Program} {E : Env}

/-- what is asked of such a call: run by itself, or whatever an oracle chooses -/
inductive KnRun (E : Env) (P : Program) (k : KnO) : Prop
  | self (self : Self) (hs : SelfOk E P (G0 P) self) (h : gives k.v (self (.call k.f k.args none) (frzS k)) = true)
  | any (N : Nat) (h : ∀ ω, gives k.v (run (E.by ω k.n) N (.call k.f k.args none) (frzC k)) = true)

theorem knO_ok (hE : EnvOk E P) (ho : E.oid = none) (hng : 2 ≤ E.ng) {k : KnO} (hf : (E.fn k.f).isSome = true) (hngn : E.ng ≤ k.n) (hb : k.below = true) (h : KnRun E P k) : QOk E P k.f k.args k.q where
  fn e := by rw [e] at hf; cases hf
  lcl := lcl_chkO
  call := by
    intro s φ w cargs cs kind hg hrel ha hpk hk
    simp only [KnO.below, Bool.and_eq_true] at hb
    have hargn := belowVL_spec hb.1
    show CallOk _ _ _ _ _ _ _ _ _ _ (chkO k.v k.obs s)
    rcases chkO_spec (v := k.v) (l := k.obs) (s := s) hb.2 with ⟨w', h'⟩ | ⟨s', h1, h2, h3, h4⟩
    · rw [h']; trivial
    · have key : CallOk E P (G0 P) φ w (lone (Frame.enter P k.f cargs kind) cs w, cnt E s) k.f kind cs none ((Ans.val k.v).put s) := by
        cases h with
        | self self hs h =>
          obtain ⟨hv, rc, s1, hr⟩ := gives_spec h
          refine beside_self (ans := .val k.v) hs hng hngn (s0 := frzS k) (keep := none) rfl (fun id o ho => ?_) hargn (fun m e => by cases e) ⟨_, rc, s1, hr, ⟨rfl, hv⟩, fun m e => by cases e⟩ hg hrel ha hpk hk
          exact .inr (.inl (h4 id o ho))
        | any N h =>
          refine beside_any (ans := .val k.v) hE hng hngn (N := N) (s0 := frzC k) (keep := none) rfl (by simp [frzC, Tr.get_put]) (fun id o ho => ?_) hargn (fun m e => by cases e) (fun ω => ?_) hg hrel ha hpk hk
          · simp only [frzC, Tr.get_put] at ho
            by_cases e : id = k.n
            · rw [if_pos e] at ho; cases ho; exact .inl ⟨e, rfl⟩
            · rw [if_neg e] at ho; exact .inr (.inl (h4 id o ho))
          · obtain ⟨hv, rc, s1, hr⟩ := gives_spec (h ω)
            exact ⟨_, rc, s1, hr, ⟨rfl, hv⟩, fun m e => by cases e⟩
      rw [h1]
      obtain ⟨φ', w', fr, c, k1, k2, k3⟩ := key
      refine ⟨φ', w', fr, c, k1, k2.like' h2 h3, ?_⟩
      have : cnt E s' = cnt E s := by unfold cnt; rw [ho]
      rw [this]; exact k3

theorem ovO_ok (hE : EnvOk E P) (ho : E.oid = none) (hng : 2 ≤ E.ng) {l : List KnO} (h : ∀ k ∈ l, QOk E P k.f k.args k.q) : OvOk E P (ovO l) := fun f args q hq => by
  obtain ⟨k, h1, rfl, rfl, rfl⟩ := ovO_spec hq
  exact h k h1

/-- one answer, or else another -/
def ovElse (a b : Ov) : Ov := fun f args => match a f args with
  | some q => some q
  | none => b f args

theorem ovElse_ok {a b : Ov} (ha : OvOk E P a) (hb : OvOk E P b) : OvOk E P (ovElse a b) := fun f args q h => by
  unfold ovElse at h
  cases he : a f args with
  | some q' => rw [he] at h; cases h; exact ha _ _ _ he
  | none => rw [he] at h; exact hb _ _ _ h

/-- an oracle by its first answer -/
def orcO (a : Nat) (ω : Nat → Nat) : Nat → Nat
  | 0 => a
  | k + 1 => ω k

theorem orcO_all {p : (Nat → Nat) → Prop} (h : ∀ a ω, p (orcO a ω)) (ω : Nat → Nat) : p ω := by
  have : ω = orcO (ω 0) (fun k => ω (k + 1)) := funext fun k => by cases k <;> rfl
  rw [this]; exact h _ _
end
end Go.AM

namespace Go.AM
open Go
set_option linter.unusedVariables false
/-! ## pairs of places, in order -/
def smallI : Int → Bool
  | .ofNat n => Nat.ble n 1000000
  | .negSucc _ => false

def pairKey : V → Option (Int × Int)
  | .agg l => match l with
    | .int .i64 a :: l => match l with
      | .int .i64 b :: l => match l with
        | [] => bif and (smallI a) (smallI b) then some (a, b) else none
        | _ => none
      | _ => none
    | _ => none
  | _ => none

def isNum : V → Bool
  | .int _ _ => true
  | _ => false

def pairsOf : List (V × V × Nat) → Option (List (Int × Int))
  | [] => some []
  | e :: es => match pairKey e.1 with
    | none => none
    | some p => bif isNum e.2.1 then (match pairsOf es with
      | none => none
      | some l => some (p :: l)) else none

def ltP (p q : Int × Int) : Bool := bif eqI p.1 q.1 then ltI p.2 q.2 else ltI p.1 q.1

def insP (p : Int × Int) : List (Int × Int) → List (Int × Int)
  | [] => [p]
  | q :: l => bif ltP p q then p :: q :: l else q :: insP p l

def sortP : List (Int × Int) → List (Int × Int)
  | [] => []
  | p :: l => insP p (sortP l)

def flatP : List (Int × Int) → List V
  | [] => []
  | p :: l => .int .i64 p.1 :: .int .i64 p.2 :: flatP l

def ansP : List (Int × Int) → Ans
  | [] => .val (.slice none 0 (.exact 0))
  | p :: l => .cells (List.length (p :: l)) (.opn 0) (flatP (sortP (p :: l))) 2

def nodupN : List Nat → Bool
  | [] => true
  | b :: l => bif seenN b l then false else nodupN l

def bornL : List (V × V × Nat) → List Nat
  | [] => []
  | e :: es => e.2.2 :: bornL es

def sortM (es : List (V × V × Nat)) (clock : Nat) (s : S) : TR :=
  bif and (allOld clock es) (nodupN (bornL es)) then (match pairsOf es with
    | some l => bif Nat.ble l.length 12 then (ansP l).put s else .fail "sorted: long"
    | none => .fail "sorted: keys") else .fail "sorted: entries"

def sortO (m : Nat) : Option Ob → S → TR
  | some (.map es clock true) => fun s => sortM es clock (s.rd m)
  | _ => fun _ => .fail "sorted: map"

def sortB (b : Nat) : Option Ob → S → TR
  | some (.cells cs _ _) => (match cs with
    | .map (some m) :: cs => (match cs with
      | [] => fun s => sortO m (s.h.get m) (s.rd b)
      | _ :: _ => fun _ => .fail "sorted: box")
    | _ => fun _ => .fail "sorted: box")
  | _ => fun _ => .fail "sorted: box"

def sortQ (b : Nat) : S → TR := fun s => sortB b (s.h.get b) s

/-- a closure over one cell, and a function -/
def seqArg (seq : Nat) : V → Option Nat
  | .func a first c => match first with
    | [] => match c with
      | .ptr (some (b, 0)) :: c => match c with
        | [] => bif Nat.beq a seq then some b else none
        | _ => none
      | _ => none
    | _ => none
  | _ => none
def cmpArg (cmp : Nat) : V → Bool
  | .func a first c => match first with
    | [] => match c with
      | [] => Nat.beq a cmp
      | _ => false
    | _ => false
  | _ => false

/-- the call of slices.SortedFunc over a map's keys -/
def ovS (f seq cmp : Nat) : Ov := fun g args => bif Nat.beq g f then (match args with
  | x :: args => match args with
    | y :: args => match args with
      | [] => match seqArg seq x with
        | some b => bif cmpArg cmp y then some (sortQ b) else none
        | none => none
      | _ => none
    | _ => none
  | _ => none) else none
end Go.AM

