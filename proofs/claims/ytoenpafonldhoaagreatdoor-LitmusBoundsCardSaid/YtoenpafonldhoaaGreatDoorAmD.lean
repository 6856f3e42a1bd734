/- An abstract machine for the model's programs, its runs, and what they say of the model (part AmD). No condition. -/
import Derived.Test.YtoenpafonldhoaaGreatDoorAmC
import Derived.Recover
set_option linter.unusedVariables false
set_option linter.unusedSimpArgs false
set_option linter.unusedSectionVars false
namespace Go.AM
open Go

/-! ## steps of one goroutine, in a round too -/
def Frame.put (b : Frame) (a : Act) (todo : List Item) : Frame := { b with tmps := a.tmps, todo, defers := a.defers, mode := .run }

section
variable {P : Program} {b : Frame} {a : Act} {k : List Item} {cs : List Frame} {w : World}

theorem put_eval (b : Frame) (a : Act) (todo : List Item) : (Frame.put b a todo).eval = a.eval := by
  funext x; cases x <;> rfl

theorem st_skip : step P (lone (Frame.put b a (.code .skip :: k)) cs w) = .next (lone (Frame.put b a k) cs w) := step_lone_go (by simp [stepG, stepG.exec, Frame.put])
theorem st_label {l : Nat} : step P (lone (Frame.put b a (.code (.label l) :: k)) cs w) = .next (lone (Frame.put b a k) cs w) := step_lone_go (by simp [stepG, stepG.exec, Frame.put])
theorem st_inBlock {id : Nat} : step P (lone (Frame.put b a (.inBlock id :: k)) cs w) = .next (lone (Frame.put b a k) cs w) := step_lone_go (by simp [stepG, stepG.exec, Frame.put])
theorem st_inScope {c : Code} : step P (lone (Frame.put b a (.inScope c :: k)) cs w) = .next (lone (Frame.put b a k) cs w) := step_lone_go (by simp [stepG, stepG.exec, Frame.put])
theorem st_seq {x y : Code} : step P (lone (Frame.put b a (.code (.seq x y) :: k)) cs w) = .next (lone (Frame.put b a (.code x :: .code y :: k)) cs w) := step_lone_go (by simp [stepG, stepG.exec, Frame.put])
theorem st_cond {c : Operand} {x y : Code} {t : Bool} (h : a.eval c = .bool t) : step P (lone (Frame.put b a (.code (.cond c x y) :: k)) cs w) = .next (lone (Frame.put b a (.code (if t then x else y) :: k)) cs w) :=
  step_lone_go (by
    have := congrFun (put_eval b a (.code (.cond c x y) :: k)) c
    simp only [Frame.put] at this
    simp [stepG, stepG.exec, Frame.put, this, h])
theorem st_block {id : Nat} {c : Code} : step P (lone (Frame.put b a (.code (.block id c) :: k)) cs w) = .next (lone (Frame.put b a (.code c :: .inBlock id :: k)) cs w) := step_lone_go (by simp [stepG, stepG.exec, Frame.put])
theorem st_loop {c : Code} : step P (lone (Frame.put b a (.code (.loop c) :: k)) cs w) = .next (lone (Frame.put b a (.code c :: .inLoop c :: k)) cs w) := step_lone_go (by simp [stepG, stepG.exec, Frame.put])
theorem st_inLoop {c : Code} : step P (lone (Frame.put b a (.inLoop c :: k)) cs w) = .next (lone (Frame.put b a (.code c :: .inLoop c :: k)) cs w) := step_lone_go (by simp [stepG, stepG.exec, Frame.put])
theorem st_scope {c : Code} : step P (lone (Frame.put b a (.code (.scope c) :: k)) cs w) = .next (lone (Frame.put b a (.code c :: .inScope c :: k)) cs w) := step_lone_go (by simp [stepG, stepG.exec, Frame.put])
theorem st_exit {id : Nat} {k' : List Item} (h : exitTo id k = some k') : step P (lone (Frame.put b a (.code (.exit id) :: k)) cs w) = .next (lone (Frame.put b a k') cs w) := step_lone_go (by simp [stepG, stepG.exec, Frame.put, h])
theorem st_goto {l : Nat} {k' : List Item} (h : gotoIn l k = some k') : step P (lone (Frame.put b a (.code (.goto l) :: k)) cs w) = .next (lone (Frame.put b a k') cs w) := step_lone_go (by simp [stepG, stepG.exec, Frame.put, h])
theorem st_region {id : Nat} {ops : Array Oper} : step P (lone (Frame.put b a (.code (.region id ops false) :: k)) cs w) = .next (lone (Frame.put b a (.inRegion ops (List.range ops.size) :: k)) cs w) := step_lone_go (by simp [stepG, stepG.exec, Frame.put])
theorem st_draw {id : Nat} {ops : Array Oper} : step P (lone (Frame.put b a (.code (.region id ops true) :: k)) cs w) =
    .next (lone (Frame.put b a (.inRegion ops (Region.schedule (P.follows .mixedOrders) ops (w.tape w.drawn (.order b.fn id))) :: k)) cs { w with drawn := w.drawn + 1 }) :=
  step_lone_go (by simp [stepG, stepG.exec, Frame.put, choose, Sem.run, Question.forced, Question.cut])
theorem st_regionEnd {ops : Array Oper} : step P (lone (Frame.put b a (.inRegion ops [] :: k)) cs w) = .next (lone (Frame.put b a k) cs w) := step_lone_go (by simp [stepG, stepG.exec, Frame.put])
theorem put_finish (b : Frame) (a : Act) (ops : Array Oper) (i : Nat) (rest : List Nat) (k : List Item) (v : Value) :
    (Frame.put b a (.inRegion ops (i :: rest) :: k)).finish v = Frame.put b (a.put ((ops[i]?).bind (·.dst)) v) (.inRegion ops rest :: k) := by
  cases h : (ops[i]?).bind (·.dst) <;> simp [Frame.finish, Frame.put, Act.put, h]
theorem st_unwanted {ops : Array Oper} {i : Nat} {rest : List Nat} (h : ((ops[i]?).map (Region.wanted · (yielded ops a.tmps))).getD false = false) :
    step P (lone (Frame.put b a (.inRegion ops (i :: rest) :: k)) cs w) = .next (lone (Frame.put b (a.put ((ops[i]?).bind (·.dst)) undef) (.inRegion ops rest :: k)) cs w) := by
  rw [← put_finish]
  exact step_lone_go (by
    have h' := h
    simp only [Frame.put] at *
    simp [stepG, stepG.exec, h'])
theorem stG_op {ops : Array Oper} {i : Nat} {rest : List Nat} {o : Oper} (ho : ops[i]? = some o) (hw : Region.wanted o (yielded ops a.tmps) = true) (hd : b.roundOf = none ∨ ∀ c, o.op ≠ .defer c) :
    stepG P true { frame := Frame.put b a (.inRegion ops (i :: rest) :: k), callers := cs, status := .running, dying := none } w =
      stepG.apply P true (Frame.put b a (.inRegion ops (i :: rest) :: k)) cs none (execOp a.eval o) w := by
  have he := put_eval b a (.inRegion ops (i :: rest) :: k)
  rcases hd with hd | hd
  · simp only [Frame.put, hd] at he
    simp [stepG, stepG.exec, stepG.oper, Frame.oper?, Frame.put, ho, hw, he, hd]
  · cases hop : o.op <;> first
      | exact absurd hop (hd _)
      | (cases hr : b.roundOf <;> simp only [Frame.put, hr] at he <;> simp [stepG, stepG.exec, stepG.oper, Frame.oper?, Frame.put, ho, hw, he, hop, hr])
end
end Go.AM

namespace Go.AM
open Go
set_option linter.unusedVariables false
set_option linter.unusedSimpArgs false

theorem DR.mono {φ ψ : Map} (h : ∀ id l, φ id = some l → ψ id = some l) : ∀ {d : D} {e : Deferred}, DR φ d e → DR ψ d e
  | .call _ _, _, ⟨cap, as, e, r⟩ => ⟨cap, as, e, VRL.mono h _ _ r⟩
  | .mark _, _, ⟨l, hl, e⟩ => ⟨l, h _ _ hl, e⟩

def DsR (φ : Map) : List D → List Deferred → Prop
  | [], l => l = []
  | d :: ds, l => ∃ e es, l = e :: es ∧ DR φ d e ∧ DsR φ ds es

theorem DsR.mono {φ ψ : Map} (h : ∀ id l, φ id = some l → ψ id = some l) : ∀ {ds : List D} {es : List Deferred}, DsR φ ds es → DsR ψ ds es
  | [], _, r => r
  | _ :: _, _, ⟨e, es, he, r, rs⟩ => ⟨e, es, he, r.mono h, rs.mono h⟩

/-- the globals are there -/
def GlobOk (n : Nat) (φ : Map) : Prop := ∀ g, g < n → ∃ l, φ g = some l ∧ l.blk = g ∧ l.base = 0

theorem GlobOk.mono {n : Nat} {φ ψ : Map} (h : ∀ id l, φ id = some l → ψ id = some l) (r : GlobOk n φ) : GlobOk n ψ :=
  fun g hg => let ⟨l, a, b⟩ := r g hg; ⟨l, h _ _ a, b⟩

structure FrR (φ : Map) (cx : Cx) (fr : Fr) (a : Act) : Prop where
  tm : TmR φ fr.tm cx.nt a.tmps
  ds : DsR φ fr.ds a.defers
  gl : GlobOk fr.ng φ

theorem FrR.mono {φ ψ : Map} (h : ∀ id l, φ id = some l → ψ id = some l) {cx : Cx} {fr : Fr} {a : Act} (r : FrR φ cx fr a) : FrR ψ cx fr a :=
  ⟨r.tm.mono h, r.ds.mono h, r.gl.mono h⟩

theorem FrR.opd {φ : Map} {cx : Cx} {fr : Fr} {a : Act} (r : FrR φ cx fr a) : ∀ x, VR φ (opd x fr) (a.eval x)
  | .tmp t => r.tm.2 t
  | .const v => VR_ofV φ v
  | .global g => by
    simp only [AM.opd]
    cases h : Nat.ble (Nat.succ g) fr.ng with
    | false => rfl
    | true =>
      obtain ⟨l, h1, h2, h3⟩ := r.gl g (Nat.le_of_ble_eq_true h)
      exact ⟨l, h1, by simp [Act.eval, h2, h3]⟩
  | .func f => ⟨#[], #[], rfl, rfl, rfl⟩

theorem TmR.put {φ : Map} {nt : Nat} {t : Tr V} {a : Array Value} (r : TmR φ t nt a) (d : Tmp) {v : V} {c : Value} (h : VR φ v c) : TmR φ (putTm nt t d v) nt (a.setIfInBounds d c) := by
  refine ⟨by simp [r.1], fun i => ?_⟩
  unfold putTm
  cases hb : Nat.ble (Nat.succ d) nt with
  | true =>
    have hlt : d < a.size := by rw [r.1]; exact Nat.le_of_ble_eq_true hb
    simp only [cond_true, tmV, Tr.get_put]
    by_cases e : i = d
    · subst e; simp [Array.getD, hlt]; exact h
    · simp only [if_neg e]
      have := r.2 i
      simp only [tmV] at this
      have hg : (a.setIfInBounds d c).getD i undef = a.getD i undef := by
        simp only [Array.getD_eq_getD_getElem?, Array.getElem?_setIfInBounds]
        rw [if_neg (fun h => e h.symm)]
      rw [hg]; exact this
  | false =>
    have hge : a.size ≤ d := by
      rw [r.1]
      rcases Nat.lt_or_ge d nt with h | h
      · have : Nat.ble (Nat.succ d) nt = true := Nat.ble_eq_true_of_le h
        rw [this] at hb; cases hb
      · exact h
    simp only [cond_false]
    have : a.setIfInBounds d c = a := by
      simp [Array.setIfInBounds, Nat.not_lt.2 hge]
    rw [this]; exact r.2 i

theorem FrR.set {φ : Map} {cx : Cx} {fr : Fr} {a : Act} (r : FrR φ cx fr a) (dst : Option Tmp) {v : V} {c : Value} (h : VR φ v c) : FrR φ cx (setTm cx fr v dst) (a.put dst c) := by
  cases dst with
  | none => exact r
  | some d => exact ⟨r.tm.put d h, r.ds, r.gl⟩

theorem setTm_rc {cx : Cx} {fr : Fr} {v : V} {dst : Option Tmp} : (setTm cx fr v dst).rc = fr.rc := by cases dst <;> rfl
theorem setTm_ds {cx : Cx} {fr : Fr} {v : V} {dst : Option Tmp} : (setTm cx fr v dst).ds = fr.ds := by cases dst <;> rfl

def markC : List Frame → List Frame
  | caller :: rest => (match caller.mode with
    | .panicking ({ v, recovered := false, goexit := false } :: older) => { caller with mode := .panicking ({ v, recovered := true } :: older) }
    | _ => caller) :: rest
  | [] => []

def csOf (pk : Option V) (rc : Bool) (cs : List Frame) : List Frame :=
  match pk with
  | none => cs
  | some _ => if rc then markC cs else cs

def PkR (φ : Map) : Option V → CallKind → List Frame → Prop
  | none, kind, cs => ∀ fr : Frame, fr.kind = kind → tryRecover fr cs = none
  | some v, kind, cs => kind = .deferred ∧ ∃ caller rest c, cs = caller :: rest ∧ caller.mode = .panicking [{ v := c, recovered := false }] ∧ VR φ v c

theorem PkR.mono {φ ψ : Map} (h : ∀ id l, φ id = some l → ψ id = some l) {kind : CallKind} {cs : List Frame} : ∀ {pk : Option V}, PkR φ pk kind cs → PkR ψ pk kind cs
  | none, r => r
  | some _, ⟨hk, caller, rest, c, e, hm, r⟩ => ⟨hk, caller, rest, c, e, hm, VR.mono h _ _ r⟩

structure CtxOk (φ : Map) (cx : Cx) (b : Frame) (cs : List Frame) : Prop where
  fn : b.fn = cx.fn
  rd : optBlk φ cx.rd b.roundOf
  pk : PkR φ cx.pk b.kind cs
  kind : b.kind = .normal ∨ b.kind = .deferred

theorem optBlk.mono {φ ψ : Map} (h : ∀ id l, φ id = some l → ψ id = some l) : ∀ {r c : Option Nat}, optBlk φ r c → optBlk ψ r c
  | none, _, e => e
  | some _, _, ⟨l, hl, e⟩ => ⟨l, h _ _ hl, e⟩

theorem CtxOk.mono {φ ψ : Map} (h : ∀ id l, φ id = some l → ψ id = some l) {cx : Cx} {b : Frame} {cs : List Frame} (r : CtxOk φ cx b cs) : CtxOk ψ cx b cs :=
  ⟨r.fn, r.rd.mono h, r.pk.mono h, r.kind⟩

/-! ## how the machine goes on: steps, and a count of the choices that an oracle makes -/
def setTape (m : Machine) (τ : Nat → Question → Nat) : Machine := { m with world := { m.world with tape := τ } }

/-- is a step among several entries of a map the next thing? -/
def IsPick (m : Machine) : Prop := ∃ (b : Frame) (a : Act) (ops : Array Oper) (i : Nat) (rest : List Nat) (k : List Item) (cs : List Frame) (w : World) (o : Oper) (it : Operand),
  m = lone (Frame.put b a (.inRegion ops (i :: rest) :: k)) cs w ∧ ops[i]? = some o ∧ o.op = .next it false ∧ Region.wanted o (yielded ops a.tmps) = true ∧ Multi w (a.eval it)

abbrev MC := Machine × Nat

structure StepRel (E : Env) (P : Program) (G : MC → MC → Prop) : Prop where
  refl : ∀ x, G x x
  trans : ∀ {x y z}, G x y → G y z → G x z
  one : ∀ {m m' : Machine} {c : Nat}, step P m = .next m' → ¬ IsPick m → G (m, c) (m', c)
  shift : ∀ {m m' : Machine} {a : Nat}, G (m, a) (m', a) → ∀ b, G (m, b) (m', b)
  pick : E.oid ≠ none → ∀ {m m' : Machine} {c : Nat}, IsPick m → step P (setTape m (satT (E.orc c))) = .next (setTape m' (satT (E.orc c))) → m'.world.tape = m.world.tape → G (m, c) (m', c + 1)

theorem lone_inj {fr fr' : Frame} {cs cs' : List Frame} {w w' : World} (h : lone fr cs w = lone fr' cs' w') : fr = fr' ∧ cs = cs' ∧ w = w' := by
  simp only [lone, Machine.mk.injEq] at h
  obtain ⟨h1, h2, _⟩ := h
  have h2 := congrArg (fun x : Array _ => x[0]?) h2
  simp at h2
  exact ⟨h2.1, h2.2, h1⟩

theorem np_todo {fr : Frame} {cs : List Frame} {w : World} (h : ∀ ops i rest k, fr.todo ≠ .inRegion ops (i :: rest) :: k) : ¬ IsPick (lone fr cs w) := by
  rintro ⟨b, a, ops, i, rest, k, cs', w', o, it, e, _⟩
  obtain ⟨rfl, _⟩ := lone_inj e
  exact h ops i rest k rfl

theorem np_mode {fr : Frame} {cs : List Frame} {w : World} (h : fr.mode ≠ .run) : ¬ IsPick (lone fr cs w) := by
  rintro ⟨b, a, ops, i, rest, k, cs', w', o, it, e, _⟩
  obtain ⟨rfl, _⟩ := lone_inj e
  exact h rfl

theorem put_inj {b b' : Frame} {a a' : Act} {t t' : List Item} (h : Frame.put b a t = Frame.put b' a' t') : a = a' ∧ t = t' := by
  simp only [Frame.put, Frame.mk.injEq] at h
  obtain ⟨ta, da⟩ := a
  obtain ⟨ta', da'⟩ := a'
  simp_all

theorem np_op {b : Frame} {a : Act} {ops : Array Oper} {i : Nat} {rest : List Nat} {k : List Item} {cs : List Frame} {w : World} {o : Oper} (ho : ops[i]? = some o)
    (h : ∀ it, o.op = .next it false → Region.wanted o (yielded ops a.tmps) = true → ¬ Multi w (a.eval it)) : ¬ IsPick (lone (Frame.put b a (.inRegion ops (i :: rest) :: k)) cs w) := by
  rintro ⟨b', a', ops', i', rest', k', cs', w', o', it, e, ho', hop, hw, hm⟩
  obtain ⟨e1, _, rfl⟩ := lone_inj e
  obtain ⟨rfl, e2⟩ := put_inj e1
  simp only [List.cons.injEq, Item.inRegion.injEq] at e2
  obtain ⟨⟨rfl, rfl, rfl⟩, rfl⟩ := e2
  rw [ho] at ho'; cases ho'
  exact h it hop hw hm

/-! ## where code goes -/
section
variable {E : Env} {P : Program} {G : MC → MC → Prop}

theorem StepRel.head (h : StepRel E P G) {m m' : Machine} {c : Nat} {z : MC} (h1 : step P m = .next m') (h2 : ¬ IsPick m) (h3 : G (m', c) z) : G (m, c) z := h.trans (h.one h1 h2) h3

def Exits (G : MC → MC → Prop) (b : Frame) (k : List Item) (cs : List Frame) (φ : Map) (m : MC) (n : Nat) (a : Act) (w : World) : X → Prop
  | .normal => G m (lone (Frame.put b a k) cs w, n)
  | .exit id => ∃ k₀, exitTo id k₀ = exitTo id k ∧ G m (lone (Frame.put b a (.code (.exit id) :: k₀)) cs w, n)
  | .goto l => ∃ k₀, gotoIn l k₀ = gotoIn l k ∧ G m (lone (Frame.put b a (.code (.goto l) :: k₀)) cs w, n)
  | .ret => ∃ k₀, G m (lone (Frame.put b a (.code .ret :: k₀)) cs w, n)
  | .panic v => ∃ todo c, VR φ v c ∧ G m (lone { Frame.put b a todo with mode := .panicking [{ v := c, recovered := false }] } cs w, n)

def Arr (E : Env) (G : MC → MC → Prop) (b : Frame) (k : List Item) (cs : List Frame) (cx : Cx) (φ : Map) (w : World) (m : MC) : R → Prop
  | .fail _ => True
  | .ok x fr s => ∃ φ' a w', Keep φ w φ' w' ∧ Rel φ' s w' ∧ FrR φ' cx fr a ∧ Exits G b k (csOf cx.pk fr.rc cs) φ' m (cnt E s) a w' x

theorem Exits.of_steps (hG : StepRel E P G) {b : Frame} {k : List Item} {cs : List Frame} {φ : Map} {m m₁ : MC} {n : Nat} {a : Act} {w : World} (h : G m m₁) : ∀ {x : X}, Exits G b k cs φ m₁ n a w x → Exits G b k cs φ m n a w x
  | .normal, r => hG.trans h r
  | .exit _, ⟨k₀, e, r⟩ => ⟨k₀, e, hG.trans h r⟩
  | .goto _, ⟨k₀, e, r⟩ => ⟨k₀, e, hG.trans h r⟩
  | .ret, ⟨k₀, r⟩ => ⟨k₀, hG.trans h r⟩
  | .panic _, ⟨todo, c, hv, r⟩ => ⟨todo, c, hv, hG.trans h r⟩

theorem Arr.of_steps (hG : StepRel E P G) {b : Frame} {k : List Item} {cs : List Frame} {cx : Cx} {φ : Map} {w : World} {m m₁ : MC} (h : G m m₁) : ∀ {r : R}, Arr E G b k cs cx φ w m₁ r → Arr E G b k cs cx φ w m r
  | .fail _, _ => trivial
  | .ok _ _ _, ⟨φ', a, w', h1, h2, h3, h4⟩ => ⟨φ', a, w', h1, h2, h3, h4.of_steps hG h⟩

/-- from a later state on -/
theorem Arr.later {b : Frame} {k : List Item} {cs : List Frame} {cx : Cx} {φ φ₁ : Map} {w w₁ : World} {m : MC} (h : Keep φ w φ₁ w₁) : ∀ {r : R}, Arr E G b k cs cx φ₁ w₁ m r → Arr E G b k cs cx φ w m r
  | .fail _, _ => trivial
  | .ok _ _ _, ⟨φ', a, w', h1, h2, h3, h4⟩ => ⟨φ', a, w', h.trans h1, h2, h3, h4⟩

/-! ## what the tasks do -/
def CallOk (E : Env) (P : Program) (G : MC → MC → Prop) (φ : Map) (w : World) (m : MC) (f : FuncId) (kind : CallKind) (cs : List Frame) (pk : Option V) : TR → Prop
  | .ret v rc s => ∃ φ' w' fr c, Keep φ w φ' w' ∧ Rel φ' s w' ∧ VR φ' v c ∧ G m (lone fr (csOf pk rc cs) w', cnt E s) ∧ fr.mode = .returning ∧ fr.defers = [] ∧ fr.kind = kind ∧
      fr.fn = f ∧ ∃ fn, P.funcs[f]? = some fn ∧ (results fn fr.tmps).run P w' = .ok c w'
  | .pan v rc s => ∃ φ' w' fr c, Keep φ w φ' w' ∧ Rel φ' s w' ∧ VR φ' v c ∧ G m (lone fr (csOf pk rc cs) w', cnt E s) ∧ fr.mode = .panicking [{ v := c, recovered := false }] ∧ fr.defers = [] ∧
      fr.fn = f ∧ ∃ fn, P.funcs[f]? = some fn
  | _ => True

def RoundOk (E : Env) (P : Program) (G : MC → MC → Prop) (φ : Map) (w : World) (n : Nat) (lb : Nat) (cargs : Array Value) (c0 : Frame) (cs : List Frame) : TR → Prop
  | .ret v _ s => ∃ f tmps asg body φ' w' c, (Instr.yield lb cargs).run P w = .ok (.round lb f tmps asg body) w ∧ Keep φ w φ' w' ∧ Rel φ' s w' ∧ VR φ' v c ∧
      G (lone (Frame.round lb f tmps asg body .normal) (c0 :: cs) w, n) (lone (c0.finish c) cs w', cnt E s)
  | .pan v _ s => ∃ f tmps asg body φ' w' c, (Instr.yield lb cargs).run P w = .ok (.round lb f tmps asg body) w ∧ Keep φ w φ' w' ∧ Rel φ' s w' ∧ VR φ' v c ∧
      G (lone (Frame.round lb f tmps asg body .normal) (c0 :: cs) w, n) (lone (c0.raise [{ v := c, recovered := false }]) cs w', cnt E s)
  | _ => True

structure SelfOk (E : Env) (P : Program) (G : MC → MC → Prop) (sf : Self) : Prop where
  rel : StepRel E P G
  fn : ∀ {f : FuncId} {args : List V} {pk : Option V} {s : S}, E.fn f = none → ∀ v rc s', sf (.call f args pk) s ≠ .ret v rc s' ∧ sf (.call f args pk) s ≠ .pan v rc s'
  call : ∀ {φ : Map} {s : S} {w : World} {f : FuncId} {args : List V} {pk : Option V} {cargs : Array Value} {kind : CallKind} {cs : List Frame}, GlobOk E.ng φ → Rel φ s w → VRL φ args cargs.toList →
    PkR φ pk kind cs → (kind = .normal ∨ kind = .deferred) → CallOk E P G φ w (lone (Frame.enter P f cargs kind) cs w, cnt E s) f kind cs pk (sf (.call f args pk) s)
  round : ∀ {φ : Map} {s : S} {w : World} {l : Nat} {L : Loc} {args : List V} {cargs : Array Value} {c0 : Frame} {cs : List Frame}, GlobOk E.ng φ → Rel φ s w → φ l = some L → VRL φ args cargs.toList →
    RoundOk E P G φ w (cnt E s) L.blk cargs c0 cs (sf (.round l args) s)
  loop : ∀ {φ : Map} {s : S} {w : World} {cx : Cx} {body : Code} {fr : Fr} {b : Frame} {a : Act} {k : List Item} {cs : List Frame}, GlobOk E.ng φ → CtxOk φ cx b cs → Rel φ s w → FrR φ cx fr a →
    Arr E G b k cs cx φ w (lone (Frame.put b a (.code body :: .inLoop body :: k)) (csOf cx.pk fr.rc cs) w, cnt E s) (asCode (sf (.loop cx body fr) s))
  scope : ∀ {φ : Map} {s : S} {w : World} {cx : Cx} {code body : Code} {fr : Fr} {b : Frame} {a : Act} {k : List Item} {cs : List Frame}, GlobOk E.ng φ → CtxOk φ cx b cs → Rel φ s w → FrR φ cx fr a →
    Arr E G b k cs cx φ w (lone (Frame.put b a (.code code :: .inScope body :: k)) (csOf cx.pk fr.rc cs) w, cnt E s) (asCode (sf (.scope cx code body fr) s))

end
end Go.AM

namespace Go.AM
open Go
set_option linter.unusedVariables false
set_option linter.unusedSimpArgs false

theorem getD_some {a : Array Value} {d : Nat} {v : Value} (h : a.getD d undef = v) (hv : v ≠ undef) : a[d]? = some v := by
  rw [Array.getD_eq_getD_getElem?] at h
  cases e : a[d]? with
  | none => rw [e] at h; exact absurd h.symm hv
  | some x => rw [e] at h; simp at h; rw [h]

theorem guard_yes {φ : Map} {cx : Cx} {fr : Fr} {a : Act} {ops : Array Oper} {o : Oper} (hf : FrR φ cx fr a) (h : guardOk ops.toList fr o.guard = true) :
    Region.wanted o (yielded ops a.tmps) = true := by
  unfold Region.wanted
  cases hg : o.guard with
  | none => rfl
  | some p =>
    obtain ⟨j, b⟩ := p
    rw [hg] at h
    simp only [guardOk, Array.getElem?_toList] at h
    simp only [yielded]
    cases ho : ops[j]? with
    | none => rw [ho] at h; simp at h
    | some o' =>
      rw [ho] at h
      simp only at h
      cases hd : o'.dst with
      | none => rw [hd] at h; simp at h
      | some d =>
        rw [hd] at h
        simp only at h
        cases ht : fr.tm.get d with
        | none => rw [ht] at h; simp [boolIs] at h
        | some v =>
          rw [ht] at h
          cases v <;> simp only [boolIs] at h <;> try (simp at h)
          rename_i c
          have hr := hf.tm.2 d
          simp only [tmV, ht] at hr
          have := getD_some hr (by simp [undef])
          subst h
          simp [this, hd]

theorem notIs_spec {φ : Map} {v : V} {b : Bool} {c : Value} (h : notIs v b = true) (hv : VR φ v c) : c ≠ .bool b := by
  intro e; subst e
  cases v with
  | bool x => cases hv; cases b <;> simp [notIs] at h
  | bad => simp [notIs] at h
  | int _ _ => cases hv
  | str _ => cases hv
  | ptr o => cases o with
    | none => cases hv
    | some p => obtain ⟨l, hl, e⟩ := hv; cases e
  | slice o _ _ => cases o with
    | none => obtain ⟨m, _, e⟩ := hv; cases e
    | some p => obtain ⟨l, hl, e⟩ := hv; cases e
  | esl => obtain ⟨a, n, e⟩ := hv; cases e
  | map o => cases o with
    | none => cases hv
    | some p => obtain ⟨l, hl, e⟩ := hv; cases e
  | func _ _ _ => obtain ⟨a', b', e, _⟩ := hv; cases e
  | yield _ => obtain ⟨l, hl, e⟩ := hv; cases e
  | nilFunc => cases hv
  | iface _ _ => obtain ⟨c', e, _⟩ := hv; cases e
  | nilIface => cases hv
  | agg _ => obtain ⟨c', e, _⟩ := hv; cases e
  | tuple _ => obtain ⟨c', e, _⟩ := hv; cases e

theorem guard_no {φ : Map} {cx : Cx} {fr : Fr} {a : Act} {ops : Array Oper} {o : Oper} (hf : FrR φ cx fr a) (h : guardNot ops.toList fr o.guard = true) :
    Region.wanted o (yielded ops a.tmps) = false := by
  unfold Region.wanted
  cases hg : o.guard with
  | none => rw [hg] at h; simp [guardNot] at h
  | some p =>
    obtain ⟨j, b⟩ := p
    rw [hg] at h
    simp only [guardNot, Array.getElem?_toList] at h
    simp only [yielded]
    cases ho : ops[j]? with
    | none => rfl
    | some o' =>
      rw [ho] at h
      simp only at h
      cases hd : o'.dst with
      | none => simp [hd]
      | some d =>
        rw [hd] at h
        simp only at h
        have hr := notIs_spec h (hf.tm.2 d)
        simp only [Option.bind_some, hd]
        cases ht : a.tmps[d]? with
        | none => rfl
        | some v =>
          rw [Array.getD_eq_getD_getElem?, ht] at hr
          simp only [Option.getD_some] at hr
          cases v <;> simp_all

section
variable {P : Program} {E : Env} {self : Self} {b : Frame} {a : Act} {k : List Item} {cs : List Frame} {w : World} {ops : Array Oper} {φ : Map} {s : S} {cx : Cx} {fr : Fr} {G : MC → MC → Prop}

def Op1Ok (E : Env) (G : MC → MC → Prop) (b : Frame) (k : List Item) (cs : List Frame) (cx : Cx) (φ : Map) (w : World) (m : MC) (ops : Array Oper) (rest : List Nat) (fr : Fr) : O1 → Prop
  | .go fr' s' => ∃ φ' a' w', Keep φ w φ' w' ∧ Rel φ' s' w' ∧ FrR φ' cx fr' a' ∧ G m (lone (Frame.put b a' (.inRegion ops rest :: k)) (csOf cx.pk fr'.rc cs) w', cnt E s')
  | .pan v s' => ∃ φ' a' w', Keep φ w φ' w' ∧ Rel φ' s' w' ∧ FrR φ' cx fr a' ∧ Exits G b k (csOf cx.pk fr.rc cs) φ' m (cnt E s') a' w' (.panic v)
  | .fail _ => True

theorem raise_put (b : Frame) (a : Act) (todo : List Item) (chain : List PanicEntry) : (Frame.put b a todo).raise chain = { Frame.put b a todo with mode := .panicking chain } := rfl

theorem callFunc_enter (hE : EnvOk E P) {f : FuncId} {fi : FI} (h : E.fn f = some fi) (args : Array Value) (w : World) : (callFunc f args).run P w = .ok (.enter f args) w := by
  obtain ⟨fn, h1, h2, h3, h4, h5⟩ := (hE.fn _ _ h).fn
  have h5' : ¬ fn.name = "runtime.NumGoroutine" := by simpa using h5
  simp [callFunc, h1, h2, h5']

theorem tryRecover_mark {fr caller : Frame} {rest : List Frame} {c : Value} (hk : fr.kind = .deferred) (hm : caller.mode = .panicking [{ v := c, recovered := false }]) :
    tryRecover fr (caller :: rest) = some (c, markC (caller :: rest)) := by
  simp [tryRecover, hk, hm, markC]

theorem tryRecover_marked {fr caller : Frame} {rest : List Frame} {c : Value} (hk : fr.kind = .deferred) (hm : caller.mode = .panicking [{ v := c, recovered := false }]) :
    tryRecover fr (markC (caller :: rest)) = none := by
  simp [tryRecover, hk, hm, markC]

/-- behind an operation's answer -/
theorem after_ok (hE : EnvOk E P) (hs : SelfOk E P G self)
    {i : Nat} {rest : List Nat} {o : Oper} {r : OR} {w' : World} {φ' : Map} {s' : S}
    (hg : GlobOk E.ng φ') (hc : CtxOk φ' cx b cs) (hrel : Rel φ' s' w') (hf : FrR φ' cx fr a) (ho : ops[i]? = some o) (hw : Region.wanted o (yielded ops a.tmps) = true)
    (hr : ORok P φ' w' ((execOp a.eval o).run P w) r) (hdef : b.roundOf = none ∨ (∀ c, o.op ≠ .defer c) ∨ ∃ why, after self cx fr o.dst r s' = .fail why)
    (hnp : ∀ cs, ¬ IsPick (lone (Frame.put b a (.inRegion ops (i :: rest) :: k)) cs w)) :
    Op1Ok E G b k cs cx φ' w' (lone (Frame.put b a (.inRegion ops (i :: rest) :: k)) (csOf cx.pk fr.rc cs) w, cnt E s') ops rest fr (after self cx fr o.dst r s') := by
  have hfin : ∀ (a : Act) v, (Frame.put b a (.inRegion ops (i :: rest) :: k)).finish v = Frame.put b (a.put o.dst v) (.inRegion ops rest :: k) := by
    intro a v; rw [put_finish, ho]; rfl
  by_cases hfail : ∃ why, after self cx fr o.dst r s' = .fail why
  · obtain ⟨why, e⟩ := hfail; rw [e]; trivial
  have hdef' : b.roundOf = none ∨ ∀ c, o.op ≠ .defer c := by
    rcases hdef with h | h | h
    · exact .inl h
    · exact .inr h
    · exact absurd h hfail
  have hG := fun cs => stG_op (P := P) (b := b) (a := a) (k := k) (cs := cs) (w := w) (rest := rest) ho hw hdef'
  cases r with
  | val v =>
    rcases hr with ⟨c, hr, hv⟩ | ⟨hr, hv⟩
    · refine ⟨φ', a.put o.dst c, w', Keep.refl _ _, hrel, hf.set _ hv, hs.rel.one (step_lone_go ?_) (hnp _)⟩
      rw [hG, setTm_rc, ← hfin]; simp [stepG.apply, hr]
    · refine ⟨φ', a.put o.dst undef, w', Keep.refl _ _, hrel, hf.set _ hv, hs.rel.one (step_lone_go ?_) (hnp _)⟩
      rw [hG, setTm_rc, ← hfin]; simp [stepG.apply, hr]
  | pan v =>
    obtain ⟨c, hr, hv⟩ := hr
    refine ⟨φ', a, w', Keep.refl _ _, hrel, hf, .inRegion ops (i :: rest) :: k, c, hv, hs.rel.one (step_lone_go ?_) (hnp _)⟩
    rw [hG, ← raise_put]; simp [stepG.apply, hr]
  | defer d =>
    obtain ⟨dd, hr, hd⟩ := hr
    cases hrd : cx.rd with
    | some x => exact (hfail (by simp [after, deferred, hrd])).elim
    | none =>
      simp only [after, deferred, hrd]
      have hf' : FrR φ' cx ⟨fr.tm, d :: fr.ds, fr.rc, fr.ng⟩ { a with defers := dd :: a.defers } := ⟨hf.tm, ⟨_, _, rfl, hd, hf.ds⟩, hf.gl⟩
      refine ⟨φ', { a with defers := dd :: a.defers }.put o.dst undef, w', Keep.refl _ _, hrel, hf'.set o.dst (v := undefV) (c := undef) ⟨#[], rfl, rfl⟩, hs.rel.one (step_lone_go ?_) (hnp _)⟩
      have := hfin { a with defers := dd :: a.defers } undef
      rw [hG, setTm_rc]; simp only [stepG.apply, Sem.runT_eq, hr, GStep.bare_after]
      exact congrArg (fun fr' => GStep.go { frame := fr', callers := csOf cx.pk fr.rc cs, status := .running, dying := none } w') this
  | recover =>
    have hr : (execOp a.eval o).run P w = .ok .recover w' := hr
    cases hrd : cx.rd with
    | some x => exact (hfail (by simp [after, recovered, hrd])).elim
    | none =>
      have hb : b.roundOf = none := by have := hc.rd; rw [hrd] at this; exact this
      have hb' : (Frame.put b a (.inRegion ops (i :: rest) :: k)).roundOf = none := hb
      have hpk := hc.pk
      simp only [after, recovered, hrd]
      have hnone : ∀ cs', tryRecover (Frame.put b a (.inRegion ops (i :: rest) :: k)) cs' = none →
          step P (lone (Frame.put b a (.inRegion ops (i :: rest) :: k)) cs' w) = .next (lone (Frame.put b (a.put o.dst .nilIface) (.inRegion ops rest :: k)) cs' w') := fun cs' hn => by
        refine step_lone_go ?_
        rw [hG]; simp [stepG.apply, hr, hb', hn, hfin]
      cases hp : cx.pk with
      | none =>
        rw [hp] at hpk
        refine ⟨φ', a.put o.dst .nilIface, w', Keep.refl _ _, hrel, hf.set _ rfl, hs.rel.one ?_ (hnp _)⟩
        rw [hp]
        exact hnone cs (hpk _ rfl)
      | some v =>
        rw [hp] at hpk
        obtain ⟨hk, caller, rst, c, rfl, hm, hv⟩ := hpk
        have hk' : (Frame.put b a (.inRegion ops (i :: rest) :: k)).kind = .deferred := hk
        cases hrc : fr.rc with
        | true =>
          simp only [cond_true]
          refine ⟨φ', a.put o.dst .nilIface, w', Keep.refl _ _, hrel, hf.set _ rfl, hs.rel.one ?_ (hnp _)⟩
          rw [setTm_rc, hrc]
          simp only [hp, csOf, if_true]
          exact hnone _ (tryRecover_marked hk' hm)
        | false =>
          simp only [cond_false]
          have hf' : FrR φ' cx ⟨fr.tm, fr.ds, true, fr.ng⟩ a := ⟨hf.tm, hf.ds, hf.gl⟩
          refine ⟨φ', a.put o.dst c, w', Keep.refl _ _, hrel, hf'.set _ hv, hs.rel.one (step_lone_go ?_) (hnp _)⟩
          rw [setTm_rc, hG, hp]
          simp only [csOf, if_true, Bool.false_eq_true, if_false]
          simp [stepG.apply, hr, hb', tryRecover_mark hk' hm, hfin]
  | call f args =>
    obtain ⟨cargs, hr, hargs⟩ := hr
    simp only [after] at hfail ⊢
    cases hfi : E.fn f with
    | none =>
      have := hs.fn (args := args) (pk := none) (s := s') hfi
      cases ht : self (.call f args none) s' with
      | ret v rc s'' => exact absurd ht (this v rc s'').1
      | pan v rc s'' => exact absurd ht (this v rc s'').2
      | code r => trivial
      | fail w => trivial
    | some fi =>
      rw [callFunc_enter hE hfi] at hr
      have henter : step P (lone (Frame.put b a (.inRegion ops (i :: rest) :: k)) (csOf cx.pk fr.rc cs) w) =
          .next (lone (Frame.enter P f cargs .normal) (Frame.put b a (.inRegion ops (i :: rest) :: k) :: csOf cx.pk fr.rc cs) w') :=
        step_lone_go (by rw [hG]; simp [stepG.apply, hr, Frame.put])
      have hcall := hs.call (f := f) (pk := none) (kind := .normal) (cs := Frame.put b a (.inRegion ops (i :: rest) :: k) :: csOf cx.pk fr.rc cs) hg hrel hargs (by intro fr hfr; simp [tryRecover, hfr]) (.inl rfl)
      cases ht : self (.call f args none) s' with
      | ret v rc s'' =>
        rw [ht] at hcall
        cases rc with
        | true => trivial
        | false =>
          obtain ⟨φ'', w'', fr', c, h1, h2, h3, h4, h5, h6, h7, h8, h9⟩ := hcall
          refine ⟨φ'', a.put o.dst c, w'', h1, h2, (hf.mono h1.ext).set _ h3, hs.rel.head henter (hnp _) (hs.rel.trans h4 (hs.rel.one ?_ (np_mode (by simp [h5]))))⟩
          rw [setTm_rc, ← hfin]
          exact step_leave_returned ⟨h5, h6, h7, by rw [h8]; exact h9⟩
      | pan v rc s'' =>
        rw [ht] at hcall
        cases rc with
        | true => trivial
        | false =>
          obtain ⟨φ'', w'', fr', c, h1, h2, h3, h4, h5, h6, h8, h9⟩ := hcall
          refine ⟨φ'', a, w'', h1, h2, hf.mono h1.ext, .inRegion ops (i :: rest) :: k, c, h3, hs.rel.head henter (hnp _) (hs.rel.trans h4 (hs.rel.one ?_ (np_mode (by simp [h5]))))⟩
          rw [← raise_put]
          exact step_leave_panicked ⟨h5, h6, by rw [h8]; exact h9⟩
      | code r => trivial
      | fail w => trivial
  | round l args =>
    obtain ⟨L, cargs, hL, hr, hargs⟩ := hr
    simp only [after] at hfail ⊢
    have hround := hs.round (c0 := Frame.put b a (.inRegion ops (i :: rest) :: k)) (cs := csOf cx.pk fr.rc cs) hg hrel hL hargs
    have hstep : ∀ {f tmps asg body}, (Instr.yield L.blk cargs).run P w' = .ok (.round L.blk f tmps asg body) w' →
        step P (lone (Frame.put b a (.inRegion ops (i :: rest) :: k)) (csOf cx.pk fr.rc cs) w) =
          .next (lone (Frame.round L.blk f tmps asg body .normal) (Frame.put b a (.inRegion ops (i :: rest) :: k) :: csOf cx.pk fr.rc cs) w') := fun hy => by
      refine step_lone_go ?_
      rw [hG]; simp [stepG.apply, hr, hy]
    cases ht : self (.round l args) s' with
    | ret v rc s'' =>
      rw [ht] at hround
      cases rc with
      | true => trivial
      | false =>
        obtain ⟨f, tmps, asg, body, φ'', w'', c, hy, h1, h2, h3, h4⟩ := hround
        refine ⟨φ'', a.put o.dst c, w'', h1, h2, (hf.mono h1.ext).set _ h3, hs.rel.head (hstep hy) (hnp _) ?_⟩
        rw [setTm_rc, ← hfin]; exact h4
    | pan v rc s'' =>
      rw [ht] at hround
      cases rc with
      | true => trivial
      | false =>
        obtain ⟨f, tmps, asg, body, φ'', w'', c, hy, h1, h2, h3, h4⟩ := hround
        exact ⟨φ'', a, w'', h1, h2, hf.mono h1.ext, .inRegion ops (i :: rest) :: k, c, h3, hs.rel.head (hstep hy) (hnp _) h4⟩
    | code r => trivial
    | fail w => trivial

theorem Op1Ok.later {φ₁ : Map} {w₁ : World} {m : MC} {rest : List Nat} (h : Keep φ w φ₁ w₁) : ∀ {o : O1}, Op1Ok E G b k cs cx φ₁ w₁ m ops rest fr o → Op1Ok E G b k cs cx φ w m ops rest fr o
  | .go _ _, ⟨φ', a', w', h1, r⟩ => ⟨φ', a', w', h.trans h1, r⟩
  | .pan _ _, ⟨φ', a', w', h1, r⟩ => ⟨φ', a', w', h.trans h1, r⟩
  | .fail _, _ => trivial

theorem opDefer_eval {c : Call} {r : OR} {s' : S} (h : (opDefer c E fr).eval s = some (r, s')) : ∃ d, r = .defer d := by
  unfold opDefer at h
  split at h
  · unfold deferOf at h
    split at h
    · simp only [Q.eval, Option.some.injEq, Prod.mk.injEq] at h
      exact ⟨_, h.1.symm⟩
    · simp [Q.eval] at h
  · simp [Q.eval] at h

theorem Rel.fresh0 (h : Rel φ s w) : cntAt (s.h.get s.n) = 0 := by
  cases hg : s.h.get s.n with
  | none => rfl
  | some o =>
    obtain ⟨l, hl, _⟩ := h.obj _ _ hg
    rw [h.dom _ (Nat.le_refl _)] at hl; cases hl

/-- a step among several entries -/
theorem next_pick {i : Nat} {rest : List Nat} {o : Oper} {it : Operand} {w' : World} {cv : Value} {τ : Nat → Question → Nat} {cs : List Frame} (ho : ops[i]? = some o) (hop : o.op = .next it false) (hw : Region.wanted o (yielded ops a.tmps) = true)
    (hrun : (execOp a.eval o).run P { w with tape := τ } = .ok (.value cv) { w' with tape := τ }) :
    step P (setTape (lone (Frame.put b a (.inRegion ops (i :: rest) :: k)) cs w) τ) = .next (setTape (lone (Frame.put b (a.put o.dst cv) (.inRegion ops rest :: k)) cs w') τ) := by
  have hfin : (Frame.put b a (.inRegion ops (i :: rest) :: k)).finish cv = Frame.put b (a.put o.dst cv) (.inRegion ops rest :: k) := by
    rw [put_finish, ho]; rfl
  show step P (lone (Frame.put b a (.inRegion ops (i :: rest) :: k)) cs { w with tape := τ }) = .next (lone (Frame.put b (a.put o.dst cv) (.inRegion ops rest :: k)) cs { w' with tape := τ })
  refine step_lone_go ?_
  rw [stG_op (P := P) (b := b) (a := a) (k := k) (cs := cs) (w := { w with tape := τ }) (rest := rest) ho hw (.inr (fun c hc => by rw [hop] at hc; cases hc)), ← hfin]
  simp [stepG.apply, hrun]

theorem exec1_ok (hE : EnvOk E P) (hs : SelfOk E P G self) {i : Nat} {rest : List Nat} {o : Oper}
    (hg : GlobOk E.ng φ) (hc : CtxOk φ cx b cs) (hrel : Rel φ s w) (hf : FrR φ cx fr a) (ho : ops[i]? = some o) :
    Op1Ok E G b k cs cx φ w (lone (Frame.put b a (.inRegion ops (i :: rest) :: k)) (csOf cx.pk fr.rc cs) w, cnt E s) ops rest fr (exec1 E self cx ops.toList o fr s) := by
  unfold exec1
  cases hy : guardOk ops.toList fr o.guard with
  | true =>
    simp only [cond_true]
    rcases Q.run_cases O1.fail (after self cx fr o.dst) (exec o.op E fr) s with ⟨why, e⟩ | ⟨r, s', he, e⟩
    · rw [e]; trivial
    · rw [e]
      by_cases hnx : ∃ it, o.op = .next it false
      · obtain ⟨it, hop⟩ := hnx
        have hwant := guard_yes hf hy
        rw [hop] at he
        have heq : execOp a.eval o = (do pure (.value (← Instr.next (a.eval it) false o.type)) : Sem Next) := by
          simp only [execOp, hop]
        rcases good_next (P := P) (ty := o.type) hrel (hf.opd it) he with ⟨hnm, hcnt, φ', w', hrel', hk, hr⟩ | ⟨_, hm, ix, hix, hcnt, w', v, cv, hrel', hk, rfl, hv, hrun⟩
        · rw [← heq] at hr
          have := after_ok (b := b) (k := k) (cs := cs) (cx := cx) (fr := fr) (w := w) (rest := rest) hE hs (hg.mono hk.ext) (hc.mono hk.ext) hrel' (hf.mono hk.ext) ho hwant hr (.inr (.inl fun c hc => by rw [hop] at hc; cases hc))
            (fun cs => np_op ho fun it' e _ => by rw [hop] at e; cases e; exact fun h => hnm ⟨rfl, h⟩)
          rw [hcnt] at this
          exact Op1Ok.later hk this
        · rw [← heq] at hrun
          refine ⟨φ, a.put o.dst cv, w', hk, hrel', hf.set _ hv, ?_⟩
          rw [setTm_rc, hcnt]
          refine hs.rel.pick (by rw [hix]; simp) ⟨b, a, ops, i, rest, k, _, w, o, it, rfl, ho, hop, hwant, hm⟩ (next_pick ho hop hwant hrun) ?_
          exact hk.tape
      · have hnx' : ∀ it, o.op ≠ .next it false := fun it h => hnx ⟨it, h⟩
        obtain ⟨φ', w', hrel', hk, hr⟩ := good_exec hE hrel o (fun x _ => hf.opd x) hnx' r s' he
        have hcnt := calm_exec (E := E) (s := s) o.op hnx' hrel.fresh0 r s' he
        rw [← hcnt]
        refine Op1Ok.later hk (after_ok hE hs (hg.mono hk.ext) (hc.mono hk.ext) hrel' (hf.mono hk.ext) ho (guard_yes hf hy) hr ?_ (fun cs => np_op ho fun it e => absurd e (hnx' it)))
        by_cases hd : ∃ c, o.op = .defer c
        · obtain ⟨c, hd⟩ := hd
          rw [hd] at he
          obtain ⟨d, rfl⟩ := opDefer_eval (E := E) he
          cases hrd : cx.rd with
          | none => have := hc.rd; rw [hrd] at this; exact .inl this
          | some x => exact .inr (.inr ⟨"defer in a round", by simp only [after, deferred, hrd]⟩)
        · exact .inr (.inl fun c hc => hd ⟨c, hc⟩)
  | false =>
    simp only [cond_false]
    cases hn : guardNot ops.toList fr o.guard with
    | false => trivial
    | true =>
      simp only [cond_true]
      have hw := guard_no hf hn
      refine ⟨φ, a.put o.dst undef, w, Keep.refl _ _, hrel, hf.set _ ⟨#[], rfl, rfl⟩, hs.rel.one ?_ (np_op ho fun it _ h => by rw [hw] at h; cases h)⟩
      have := st_unwanted (P := P) (b := b) (a := a) (k := k) (cs := csOf cx.pk fr.rc cs) (w := w) (ops := ops) (i := i) (rest := rest) (by simp [ho, hw])
      rw [setTm_rc, this, ho]; rfl

theorem evOps_ok (hE : EnvOk E P) (hs : SelfOk E P G self) : ∀ (l : List Oper) (i : Nat) (fr : Fr) (s : S) (φ : Map) (w : World) (a : Act),
    ops.toList.drop i = l → GlobOk E.ng φ → CtxOk φ cx b cs → Rel φ s w → FrR φ cx fr a →
    Arr E G b k cs cx φ w (lone (Frame.put b a (.inRegion ops (List.range' i l.length) :: k)) (csOf cx.pk fr.rc cs) w, cnt E s) (evOps E self cx ops.toList l fr s) := by
  intro l
  induction l with
  | nil =>
    intro i fr s φ w a _ hg hc hrel hf
    exact ⟨φ, a, w, Keep.refl _ _, hrel, hf, hs.rel.one st_regionEnd (np_todo (by simp [Frame.put]))⟩
  | cons o l ih =>
    intro i fr s φ w a hl hg hc hrel hf
    have ho : ops[i]? = some o := by
      have : (ops.toList.drop i)[0]? = some o := by rw [hl]; rfl
      simpa using this
    have hl' : ops.toList.drop (i + 1) = l := by
      rw [← List.tail_drop, hl]; rfl
    have h1 := exec1_ok (k := k) (rest := List.range' (i + 1) l.length) hE hs hg hc hrel hf ho
    have hr : List.range' i (o :: l).length = i :: List.range' (i + 1) l.length := by simp [List.range'_succ]
    rw [hr]
    unfold evOps
    cases he : exec1 E self cx ops.toList o fr s with
    | go fr' s' =>
      rw [he] at h1
      obtain ⟨φ', a', w', hk, hrel', hf', hst⟩ := h1
      exact Arr.later hk (Arr.of_steps hs.rel hst (ih (i + 1) fr' s' φ' w' a' hl' (hg.mono hk.ext) (hc.mono hk.ext) hrel' hf'))
    | pan v s' =>
      rw [he] at h1
      exact h1
    | fail why => trivial

end
end Go.AM

namespace Go.AM
open Go
set_option linter.unusedVariables false
set_option linter.unusedSimpArgs false

section
variable {P : Program} {E : Env} {self : Self} {b : Frame} {a : Act} {k : List Item} {cs : List Frame} {w : World} {ops : Array Oper} {φ : Map} {s : S} {cx : Cx} {fr : Fr} {G : MC → MC → Prop}

theorem run_getLoop {r : Nat} {x : Loop} (h : w.heap[r]? = some (.loop x)) : (Instr.getLoop r).run P w = .ok x w := by
  simp [Instr.getLoop, getObj, Sem.run, h]

theorem run_setLoop {r : Nat} {x : Loop} {o : Obj} (h : w.heap[r]? = some (.loop x)) : (setObj r o).run P w = .ok () { w with heap := w.heap.setIfInBounds r o } := by
  simp [setObj, Sem.run, h]

theorem run_endLoop {r : Nat} {x : Loop} (h : w.heap[r]? = some (.loop x)) (hs : x.state ≠ .busy) :
    (Instr.endLoop r).run P w = .ok x.pending { w with heap := w.heap.setIfInBounds r (.loop { x with state := .exhausted }) } := by
  have : (x.state == LoopState.busy) = false := by simpa using hs
  simp [Instr.endLoop, run_getLoop h, this, hs, run_setLoop h]

theorem run_beginRound {r : Nat} {x : Loop} (h : w.heap[r]? = some (.loop x)) (hs : x.state = .ready) :
    (Instr.beginRound r).run P w = .ok () { w with heap := w.heap.setIfInBounds r (.loop { x with state := .busy }) } := by
  simp [Instr.beginRound, run_getLoop h, run_setLoop h, hs]

theorem run_endRound {r : Nat} {x : Loop} (h : w.heap[r]? = some (.loop x)) (jump : Option Code) :
    (Instr.endRound r jump).run P w = .ok (.bool jump.isNone) { w with heap := w.heap.setIfInBounds r (.loop { x with state := if jump.isNone then .ready else .done, pending := jump }) } := by
  simp [Instr.endRound, run_getLoop h, run_setLoop h]

/-- one block of a loop is written -/
theorem loop_wr {id : Nat} {l ld : Loc} {st : LoopState} {pend : Option Code} {fn : Nat} {tm : Tr V} {nt : Nat} {ps : List Tmp} {asg body : Code} {df : Nat} {tms : Array Value}
    (h : Rel φ s w) (hl : φ id = some l) (hid : s.h.get id ≠ none) (hro : l.ro = false) (hd : φ df = some ld) (ht : TmR φ tm nt tms) :
    Rel φ (s.wr id (some (.loop st pend fn tm nt ps asg body df))) { w with heap := w.heap.setIfInBounds l.blk (.loop { state := st, pending := pend, fn, tmps := tms, params := ps.toArray, assign := asg, body, defers := ld.blk }) } ∧
    Keep φ w φ { w with heap := w.heap.setIfInBounds l.blk (.loop { state := st, pending := pend, fn, tmps := tms, params := ps.toArray, assign := asg, body, defers := ld.blk }) } := by
  have hb := h.bnd _ _ hl
  have hb' : ∀ x, x ≠ l.blk → ({ w with heap := w.heap.setIfInBounds l.blk (.loop { state := st, pending := pend, fn, tmps := tms, params := ps.toArray, assign := asg, body, defers := ld.blk }) } : World).heap[x]? = w.heap[x]? := by
    intro x hx
    simp only [Array.getElem?_setIfInBounds]
    rw [if_neg (fun h => hx h.symm)]
  refine ⟨h.wr hl hro hid (by simp) hb' ⟨hro, tms, ld, ?_, hd, ht⟩, Keep.wr hl hro (by simp) hb' rfl rfl rfl⟩
  simp [hb]

def jumpItems (j : Option Code) : List Item := (j.map Item.code).toList

theorem st_endRange {l : Nat} {j : Option Code} {w' : World} (h : (Instr.endLoop l).run P w = .ok j w') :
    step P (lone (Frame.put b a (.endRangeFunc l :: k)) cs w) = .next (lone (Frame.put b a (jumpItems j ++ k)) cs w') :=
  step_lone_go (by simp [stepG, stepG.exec, Frame.put, h, jumpItems])

theorem put_finish_range (b : Frame) (a : Act) (l : Nat) (k : List Item) (v : Value) : (Frame.put b a (.inRangeFunc l :: k)).finish v = Frame.put b a (.endRangeFunc l :: k) := rfl

theorem st_rangeFunc {f : Operand} {ps : Array Tmp} {asg body : Code} {l : Nat} {mark : List Deferred} {w' : World} {gf : FuncId} {first cap : Array Value} {fi : FI} (hE : EnvOk E P)
    (hen : (Instr.enterLoop b.fn a.tmps ps asg body b.roundOf).run P w = .ok (l, mark) w') (hv : a.eval f = .func (.func gf) first cap) (hfi : E.fn gf = some fi) :
    step P (lone (Frame.put b a (.code (.rangeFunc f ps asg body) :: k)) cs w) =
      .next (lone (Frame.enter P gf ((first.push (.func (.yield l) #[] #[])) ++ cap) .normal) (Frame.put b { a with defers := mark ++ a.defers } (.inRangeFunc l :: k) :: cs) w') := by
  have he := put_eval b { a with defers := mark ++ a.defers } (.inRangeFunc l :: k)
  simp only [Frame.put] at he
  have hev : ({ a with defers := mark ++ a.defers } : Act).eval = a.eval := by funext x; cases x <;> rfl
  have hres' : Sem.run P (resolve ({ tmps := a.tmps, defers := mark ++ a.defers } : Act).eval { callee := .value f, args := #[.const (.func (.yield l) #[] #[])], argTypes := #[] } 0) w' =
      .ok { target := .fn (.func gf) cap, args := first.push (.func (.yield l) #[] #[]) } w' := by
    have hcn : a.eval (.const (.func (.yield l) #[] #[])) = .func (.yield l) #[] #[] := rfl
    rw [hev]; simp [resolve, hv, Deferred.ofValue, hcn]
  have hinv : (invoke (.fn (.func gf) cap) (first.push (.func (.yield l) #[] #[]))).run P w' = .ok (.enter gf ((first.push (.func (.yield l) #[] #[])) ++ cap)) w' := by
    simp only [invoke]; exact callFunc_enter hE hfi _ w'
  exact step_lone_go (by
    simp [stepG, stepG.exec, Frame.put, Sem.runT_eq, hen, GStep.bare_after, stepG.apply, he, Sem.run_bind, hres', hinv, Result.andThen])

theorem VRL_one {φ : Map} {v : V} {c : Value} (h : VR φ v c) : VRL φ [v] [c] := ⟨c, [], rfl, h, rfl⟩

theorem jump_ok {φ' : Map} {w' : World} {m : MC} {s' : S} {j : Option Code} {cs' : List Frame} (hk : Keep φ w φ' w') (hrel : Rel φ' s' w') (hf : FrR φ' cx fr a) (hcs : cs' = csOf cx.pk fr.rc cs)
    (h : G m (lone (Frame.put b a (jumpItems j ++ k)) cs' w', cnt E s')) : Arr E G b k cs cx φ w m (jumpOf fr s' j) := by
  subst hcs
  cases j with
  | none => exact ⟨φ', a, w', hk, hrel, hf, h⟩
  | some c =>
    cases c <;> simp only [jumpOf] <;> try trivial
    · exact ⟨φ', a, w', hk, hrel, hf, k, rfl, h⟩
    · exact ⟨φ', a, w', hk, hrel, hf, k, rfl, h⟩
    · exact ⟨φ', a, w', hk, hrel, hf, k, h⟩

theorem stateOk_spec {st : LoopState} (h : stateOk st = true) : st ≠ .busy := by cases st <;> simp_all [stateOk]

/-- the iterator's call, and what is behind it -/
theorem iterIn_ok (hE : EnvOk E P) (hs : SelfOk E P G self) {f : Operand} {ps : Array Tmp} {asg body : Code} {gf : FuncId} {first cap : List V} {df : Nat} {fr : Fr} {a₀ : Act} {first' cap' : Array Value} {mark : List Deferred}
    {ld : Loc} {s₁ : S} {w₁ : World} {φ₁ : Map} (hg : GlobOk E.ng φ₁) (hc : CtxOk φ₁ cx b cs) (hrel : Rel φ₁ s₁ w₁) (hf : FrR φ₁ cx fr { a₀ with defers := mark ++ a₀.defers }) (hd : φ₁ df = some ld)
    (hen : (Instr.enterLoop b.fn a₀.tmps ps asg body b.roundOf).run P w = .ok (w₁.heap.size, mark) { w₁ with heap := w₁.heap.push (.loop { state := .ready, pending := none, fn := b.fn, tmps := a₀.tmps, params := ps, assign := asg, body, defers := ld.blk }) })
    (hv : a₀.eval f = .func (.func gf) first' cap') (h1 : VRL φ₁ first first'.toList) (h2 : VRL φ₁ cap cap'.toList) :
    Arr E G b k cs cx φ₁ w₁ (lone (Frame.put b a₀ (.code (.rangeFunc f ps asg body) :: k)) (csOf cx.pk fr.rc cs) w, cnt E s₁) (iterIn self ps asg body cx gf first cap df fr s₁) := by
  unfold iterIn
  have hc0 : cnt E (s₁.new (.loop .ready none cx.fn fr.tm cx.nt ps.toList asg body df)) = cnt E s₁ := cnt_new hrel.fresh0 rfl
  have hnp : ∀ cs w, ¬ IsPick (lone (Frame.put b a₀ (.code (.rangeFunc f ps asg body) :: k)) cs w) := fun cs w => np_todo (by simp [Frame.put])
  let L : Loc := ⟨w₁.heap.size, 0, 0, 0, false⟩
  have hob : ObB (φ₁.upd s₁.n L) L (.loop .ready none cx.fn fr.tm cx.nt ps.toList asg body df) (some (.loop { state := .ready, pending := none, fn := b.fn, tmps := a₀.tmps, params := ps, assign := asg, body, defers := ld.blk })) :=
    ⟨rfl, a₀.tmps, ld, by simp [hc.fn], Map.upd_ext hrel.fresh _ _ hd, hf.tm.mono (Map.upd_ext hrel.fresh)⟩
  have hrel' := hrel.alloc (l := L) rfl hob
  have hk' := Keep.alloc (ob := .loop { state := .ready, pending := none, fn := b.fn, tmps := a₀.tmps, params := ps, assign := asg, body, defers := ld.blk }) (l := L) hrel rfl
  generalize hw2 : ({ w₁ with heap := w₁.heap.push (.loop { state := .ready, pending := none, fn := b.fn, tmps := a₀.tmps, params := ps, assign := asg, body, defers := ld.blk }) } : World) = w₂ at *
  generalize hφ : φ₁.upd s₁.n L = φ₂ at *
  have hL : φ₂ s₁.n = some L := by rw [← hφ]; exact Map.upd_self
  cases hfi : E.fn gf with
  | none =>
    have := hs.fn (args := first ++ (.yield s₁.n :: cap)) (pk := none) (s := s₁.new (.loop .ready none cx.fn fr.tm cx.nt ps.toList asg body df)) hfi
    cases ht : self (.call gf (first ++ (.yield s₁.n :: cap)) none) (s₁.new (.loop .ready none cx.fn fr.tm cx.nt ps.toList asg body df)) with
    | ret v rc s'' => exact absurd ht (this v rc s'').1
    | pan v rc s'' => exact absurd ht (this v rc s'').2
    | code r => trivial
    | fail w => trivial
  | some fi =>
    have hargs : VRL φ₂ (first ++ (.yield s₁.n :: cap)) (first'.push (Value.func (.yield w₁.heap.size) #[] #[]) ++ cap').toList := by
      have : (first'.push (Value.func (.yield w₁.heap.size) #[] #[]) ++ cap').toList = first'.toList ++ (Value.func (.yield w₁.heap.size) #[] #[] :: cap'.toList) := by simp
      rw [this]
      exact (VRL.mono hk'.ext _ _ h1).append ⟨_, _, rfl, ⟨L, hL, rfl⟩, VRL.mono hk'.ext _ _ h2⟩
    have henter := st_rangeFunc (b := b) (a := a₀) (k := k) (cs := csOf cx.pk fr.rc cs) hE hen hv hfi
    generalize hcal : Frame.put b { a₀ with defers := mark ++ a₀.defers } (.inRangeFunc w₁.heap.size :: k) = caller at henter
    have hcall := hs.call (f := gf) (pk := none) (kind := .normal) (cs := caller :: csOf cx.pk fr.rc cs) (hg.mono hk'.ext) hrel' hargs (by intro fr hfr; simp [tryRecover, hfr]) (.inl rfl)
    rw [hc0] at hcall
    cases ht : self (.call gf (first ++ (.yield s₁.n :: cap)) none) (s₁.new (.loop .ready none cx.fn fr.tm cx.nt ps.toList asg body df)) with
    | ret v rc s'' =>
      rw [ht] at hcall
      cases rc with
      | true => trivial
      | false =>
        obtain ⟨φ', w', fr', c, k1, k2, k3, k4, k5, k6, k7, k8, k9⟩ := hcall
        simp only [afterIter, cond_false]
        cases hget : s''.h.get s₁.n with
        | none => trivial
        | some ob =>
          cases ob with
          | loop st pend fn tm nt ps' asg' body' df' =>
            simp only [endLoop]
            cases hst : stateOk st with
            | false => trivial
            | true =>
              simp only [cond_true]
              obtain ⟨l, hl, hro, tms, ld', hob', hd', htm⟩ := k2.obj _ _ hget
              have hl' := k1.ext _ _ hL
              rw [hl] at hl'; cases hl'
              obtain ⟨r1, r2⟩ := loop_wr (st := .exhausted) (pend := pend) (fn := fn) (ps := ps') (asg := asg') (body := body') k2 hl (by simp [hget]) hro hd' htm
              have hf' := hf.mono (fun i l h => (k1.ext i l (hk'.ext i l h)))
              have hret := step_leave_returned (P := P) (fr := fr') (c := caller) (cs := csOf cx.pk fr.rc cs) (w := w') (v := c) ⟨k5, k6, k7, by rw [k8]; exact k9⟩
              rw [← hcal, put_finish_range] at hret
              have hend := run_endLoop (P := P) hob' (stateOk_spec hst)
              have hlast := st_endRange (b := b) (a := { a₀ with defers := mark ++ a₀.defers }) (k := k) (cs := csOf cx.pk fr.rc cs) hend
              refine jump_ok ((hk'.trans k1).trans r2) r1 hf' rfl (hs.rel.head henter (hnp _ _) (hs.rel.trans k4 ?_))
              rw [← hcal, cnt_wr (.inr (by rw [hget]; rfl)) rfl]
              exact hs.rel.head hret (np_mode (by simp [k5])) (hs.rel.one hlast (np_todo (by simp [Frame.put])))
          | cells _ _ _ => trivial
          | map _ _ _ => trivial
          | mapIter _ _ _ _ => trivial
          | defd => trivial
          | cnt _ => trivial
    | pan v rc s'' =>
      rw [ht] at hcall
      cases rc with
      | true => trivial
      | false =>
        obtain ⟨φ', w', fr', c, k1, k2, k3, k4, k5, k6, k8, k9⟩ := hcall
        refine ⟨φ', _, w', hk'.trans k1, k2, hf.mono (fun i l h => (k1.ext i l (hk'.ext i l h))), .inRangeFunc w₁.heap.size :: k, c, k3, hs.rel.head henter (hnp _ _) (hs.rel.trans k4 (hs.rel.one ?_ (np_mode (by simp [k5]))))⟩
        rw [← raise_put, hcal]
        exact step_leave_panicked ⟨k5, k6, by rw [k8]; exact k9⟩
    | code r => trivial
    | fail w => trivial

end
end Go.AM

namespace Go.AM
open Go
set_option linter.unusedVariables false
set_option linter.unusedSimpArgs false

section
variable {P : Program} {E : Env} {self : Self} {b : Frame} {a : Act} {k : List Item} {cs : List Frame} {w : World} {ops : Array Oper} {φ : Map} {s : S} {cx : Cx} {fr : Fr} {G : MC → MC → Prop}

theorem evRange_ok (hE : EnvOk E P) (hs : SelfOk E P G self) {f : Operand} {ps : Array Tmp} {asg body : Code}
    (hg : GlobOk E.ng φ) (hc : CtxOk φ cx b cs) (hrel : Rel φ s w) (hf : FrR φ cx fr a) :
    Arr E G b k cs cx φ w (lone (Frame.put b a (.code (.rangeFunc f ps asg body) :: k)) (csOf cx.pk fr.rc cs) w, cnt E s) (evRange f ps asg body E self cx fr s) := by
  have hv := hf.opd f
  unfold evRange
  cases ho : opd f fr <;> try trivial
  rename_i gf first cap
  rw [ho] at hv
  obtain ⟨first', cap', hv, h1, h2⟩ := hv
  simp only
  cases hx : isNoneX (E.ext gf) with
  | false => trivial
  | true =>
    simp only [cond_true]
    cases hrd : cx.rd with
    | none =>
      have hb : b.roundOf = none := by have := hc.rd; rw [hrd] at this; exact this
      let L : Loc := ⟨w.heap.size, 0, 0, 0, false⟩
      have hob : ObB (φ.upd s.n L) L .defd (some (.deferred (some []))) := ⟨rfl, rfl⟩
      have hrel' := hrel.alloc (l := L) rfl hob
      have hk' := Keep.alloc (ob := .deferred (some [])) (l := L) hrel rfl
      have hL : φ.upd s.n L s.n = some L := Map.upd_self
      have hf' : FrR (φ.upd s.n L) cx ⟨fr.tm, .mark s.n :: fr.ds, fr.rc, fr.ng⟩ { a with defers := [{ target := .collected w.heap.size, args := #[] }] ++ a.defers } :=
        ⟨hf.tm.mono hk'.ext, ⟨_, _, rfl, ⟨L, hL, rfl⟩, hf.ds.mono hk'.ext⟩, hf.gl.mono hk'.ext⟩
      refine Arr.later hk' ?_
      have hc0 : cnt E (s.new .defd) = cnt E s := cnt_new hrel.fresh0 rfl
      rw [← hc0]
      refine iterIn_ok (ld := L) (a₀ := a) (mark := [{ target := .collected w.heap.size, args := #[] }]) hE hs (hg.mono hk'.ext) (hc.mono hk'.ext) hrel' hf' hL ?_ hv (VRL.mono hk'.ext _ _ h1) (VRL.mono hk'.ext _ _ h2)
      rw [hb]
      simp [Instr.enterLoop, L]
      rfl
    | some r =>
      have hb := hc.rd
      rw [hrd] at hb
      obtain ⟨lr, hlr, hb⟩ := hb
      simp only [outerLoop]
      cases hget : s.h.get r with
      | none => trivial
      | some ob =>
        cases ob <;> try trivial
        rename_i st pend fn tm nt ps' asg' body' df
        obtain ⟨l, hl, hro, tms, ld, hob, hd, htm⟩ := hrel.obj _ _ hget
        rw [hlr] at hl; cases hl
        have hf' : FrR φ cx fr { a with defers := [] ++ a.defers } := hf
        refine iterIn_ok (ld := ld) (a₀ := a) (mark := []) hE hs hg hc (hrel.rd r) hf' hd ?_ hv h1 h2
        rw [hb]
        simp [Instr.enterLoop, run_getLoop hob]

def DrawOk (E : Env) (G : MC → MC → Prop) (self : Self) : Prop :=
  ∀ {b : Frame} {a : Act} {k : List Item} {cs : List Frame} {w : World} {id : Nat} {ops : Array Oper} {φ : Map} {s : S} {cx : Cx} {fr : Fr}, oidOk E.oid s.n = true → opsOk ops.toList (beforeOf ops.toList) ops.toList 0 = true → GlobOk E.ng φ → CtxOk φ cx b cs → Rel φ s w → FrR φ cx fr a →
    Arr E G b k cs cx φ w (lone (Frame.put b a (.code (.region id ops true) :: k)) (csOf cx.pk fr.rc cs) w, cnt E s) (evDraw E self cx ops.toList s.n s.lg ops.toList 0 [] fr s)

theorem Exits.pass {x : Item} {m : MC} {n : Nat} {X : X} (h1 : ∀ id, exitTo id (x :: k) = exitTo id k) (h2 : ∀ l, gotoIn l (x :: k) = gotoIn l k) (hn : X ≠ .normal)
    (h : Exits G b (x :: k) cs φ m n a w X) : Exits G b k cs φ m n a w X := by
  cases X with
  | normal => exact absurd rfl hn
  | exit id => obtain ⟨k₀, e, r⟩ := h; exact ⟨k₀, e.trans (h1 id), r⟩
  | goto l => obtain ⟨k₀, e, r⟩ := h; exact ⟨k₀, e.trans (h2 l), r⟩
  | ret => exact h
  | panic v => exact h

theorem ev_ok (hE : EnvOk E P) (hs : SelfOk E P G self) (hd : DrawOk E G self) : ∀ (c : Code) (b : Frame) (a : Act) (k : List Item) (cs : List Frame) (w : World) (φ : Map) (s : S) (cx : Cx) (fr : Fr),
    GlobOk E.ng φ → CtxOk φ cx b cs → Rel φ s w → FrR φ cx fr a →
    Arr E G b k cs cx φ w (lone (Frame.put b a (.code c :: k)) (csOf cx.pk fr.rc cs) w, cnt E s) (ev c E self cx fr s)
  | .skip, b, a, k, cs, w, φ, s, cx, fr, hg, hc, hrel, hf => ⟨_, _, _, Keep.refl _ _, hrel, hf, hs.rel.one st_skip (np_todo (by simp [Frame.put]))⟩
  | .label _, b, a, k, cs, w, φ, s, cx, fr, hg, hc, hrel, hf => ⟨_, _, _, Keep.refl _ _, hrel, hf, hs.rel.one st_label (np_todo (by simp [Frame.put]))⟩
  | .exit id, b, a, k, cs, w, φ, s, cx, fr, hg, hc, hrel, hf => ⟨_, _, _, Keep.refl _ _, hrel, hf, _, rfl, hs.rel.refl _⟩
  | .goto l, b, a, k, cs, w, φ, s, cx, fr, hg, hc, hrel, hf => ⟨_, _, _, Keep.refl _ _, hrel, hf, _, rfl, hs.rel.refl _⟩
  | .ret, b, a, k, cs, w, φ, s, cx, fr, hg, hc, hrel, hf => ⟨_, _, _, Keep.refl _ _, hrel, hf, _, hs.rel.refl _⟩
  | .refuse _, b, a, k, cs, w, φ, s, cx, fr, hg, hc, hrel, hf => trivial
  | .region id ops draw, b, a, k, cs, w, φ, s, cx, fr, hg, hc, hrel, hf => by
    simp only [ev, evRegion]
    cases draw with
    | true =>
      cases hok : and (oidOk E.oid s.n) (opsOk ops.toList (beforeOf ops.toList) ops.toList 0) with
      | false => trivial
      | true =>
        rw [Bool.and_eq_true] at hok
        exact hd hok.1 hok.2 hg hc hrel hf
    | false =>
      refine Arr.of_steps hs.rel (hs.rel.one st_region (np_todo (by simp [Frame.put]))) ?_
      have := evOps_ok (k := k) hE hs ops.toList 0 fr s φ w a rfl hg hc hrel hf
      rw [Array.length_toList] at this
      rw [List.range_eq_range']
      exact this
  | .seq x y, b, a, k, cs, w, φ, s, cx, fr, hg, hc, hrel, hf => by
    have h1 := ev_ok hE hs hd x b a (.code y :: k) cs w φ s cx fr hg hc hrel hf
    refine Arr.of_steps hs.rel (hs.rel.one st_seq (np_todo (by simp [Frame.put]))) ?_
    simp only [ev, evSeq]
    cases he : ev x E self cx fr s with
    | fail w => trivial
    | ok X fr' s' =>
      rw [he] at h1
      obtain ⟨φ', a', w', k1, k2, k3, k4⟩ := h1
      cases X with
      | normal => exact Arr.later k1 (Arr.of_steps hs.rel k4 (ev_ok hE hs hd y _ _ _ _ _ _ _ _ _ (hg.mono k1.ext) (hc.mono k1.ext) k2 k3))
      | exit id => exact ⟨φ', a', w', k1, k2, k3, k4.pass (fun _ => rfl) (fun _ => rfl) (by simp)⟩
      | goto l => exact ⟨φ', a', w', k1, k2, k3, k4.pass (fun _ => rfl) (fun _ => rfl) (by simp)⟩
      | ret => exact ⟨φ', a', w', k1, k2, k3, k4⟩
      | panic v => exact ⟨φ', a', w', k1, k2, k3, k4⟩
  | .cond c x y, b, a, k, cs, w, φ, s, cx, fr, hg, hc, hrel, hf => by
    simp only [ev, evCond]
    have hv := hf.opd c
    cases ho : opd c fr <;> try trivial
    rename_i t
    rw [ho] at hv
    have hv : a.eval c = .bool t := hv
    refine Arr.of_steps hs.rel (hs.rel.one (st_cond hv) (np_todo (by simp [Frame.put]))) ?_
    cases t with
    | true => exact ev_ok hE hs hd x _ _ _ _ _ _ _ _ _ hg hc hrel hf
    | false => exact ev_ok hE hs hd y _ _ _ _ _ _ _ _ _ hg hc hrel hf
  | .block id c, b, a, k, cs, w, φ, s, cx, fr, hg, hc, hrel, hf => by
    have h1 := ev_ok hE hs hd c b a (.inBlock id :: k) cs w φ s cx fr hg hc hrel hf
    refine Arr.of_steps hs.rel (hs.rel.one st_block (np_todo (by simp [Frame.put]))) ?_
    simp only [ev, evBlock]
    cases he : ev c E self cx fr s with
    | fail w => trivial
    | ok X fr' s' =>
      rw [he] at h1
      obtain ⟨φ', a', w', k1, k2, k3, k4⟩ := h1
      cases X with
      | normal => exact ⟨φ', a', w', k1, k2, k3, hs.rel.trans k4 (hs.rel.one st_inBlock (np_todo (by simp [Frame.put])))⟩
      | exit i =>
        obtain ⟨k₀, e, r⟩ := k4
        simp only
        cases hi : Nat.beq i id with
        | true =>
          have : i = id := by simpa using hi
          subst this
          refine ⟨φ', a', w', k1, k2, k3, hs.rel.trans r (hs.rel.one (st_exit ?_) (np_todo (by simp [Frame.put])))⟩
          rw [e]; simp [exitTo]
        | false =>
          have : ¬ id = i := by
            intro h; subst h
            simp at hi
          refine ⟨φ', a', w', k1, k2, k3, k₀, ?_, r⟩
          rw [e]; simp [exitTo, this]
      | goto l =>
        obtain ⟨k₀, e, r⟩ := k4
        exact ⟨φ', a', w', k1, k2, k3, k₀, e, r⟩
      | ret => exact ⟨φ', a', w', k1, k2, k3, k4⟩
      | panic v => exact ⟨φ', a', w', k1, k2, k3, k4⟩
  | .loop c, b, a, k, cs, w, φ, s, cx, fr, hg, hc, hrel, hf => Arr.of_steps hs.rel (hs.rel.one st_loop (np_todo (by simp [Frame.put]))) (hs.loop hg hc hrel hf)
  | .scope c, b, a, k, cs, w, φ, s, cx, fr, hg, hc, hrel, hf => Arr.of_steps hs.rel (hs.rel.one st_scope (np_todo (by simp [Frame.put]))) (hs.scope hg hc hrel hf)
  | .rangeFunc f ps asg body, b, a, k, cs, w, φ, s, cx, fr, hg, hc, hrel, hf => evRange_ok hE hs hg hc hrel hf

end
end Go.AM

namespace Go.AM
open Go
set_option linter.unusedVariables false
set_option linter.unusedSimpArgs false

section
variable {P : Program} {E : Env} {self : Self} {φ : Map} {s : S} {w : World} {fr : Fr} {G : MC → MC → Prop}

def resF (tmps : Array Value) : ResultVar → Sem Value
  | .tmp t => pure (tmps.getD t undef)
  | .cell a t => do loadVar t (← asAddr (tmps.getD a undef))

theorem results_eq (fn : Func) (tmps : Array Value) : results fn tmps = (do
    let vs ← fn.results.mapM (resF tmps)
    pure (if h : vs.size = 1 then vs[0] else .tuple vs)) := by
  unfold results
  congr 1

theorem loadAt_eval (hE : EnvOk E P) (h : Rel φ s w) {t : TypeId} {a : V} {c : Value} (ha : VR φ a c) {r : OR} {s' : S} (he : (loadAt E t a).eval s = some (r, s')) :
    ∃ v x, r = .val v ∧ s'.h = s.h ∧ s'.n = s.n ∧ (do loadVar t (← asAddr c) : Sem Value).run P w = .ok x w ∧ VR φ v x := by
  unfold loadAt at he
  split at he
  · rename_i id off
    simp only [Q.eval] at he
    split at he
    · rename_i o ho
      split at he
      · rename_i cs opn ro
        split at he
        · rename_i ti hti
          obtain ⟨l, hl, rfl⟩ := ha
          obtain ⟨l', hl', hob⟩ := h.obj _ _ ho
          rw [hl] at hl'; cases hl'
          cases hp : partOf ti.agg ti.size (dropN off cs) with
          | none => rw [hp] at he; simp [Q.val, Q.eval] at he
          | some v =>
            rw [hp] at he
            simp only [Q.val, Q.eval, Option.some.injEq, Prod.mk.injEq] at he
            obtain ⟨rfl, rfl⟩ := he
            obtain ⟨c, hc, hv⟩ := run_loadVar_of (hE.ty _ _ hti) hob hp
            exact ⟨v, c, rfl, rfl, rfl, by simp [asAddr, hc], hv⟩
        · simp [Q.eval] at he
      · simp [Q.eval] at he
    · simp at he
  · simp [Q.eval] at he

theorem resultsOf_ok (hE : EnvOk E P) {nt : Nat} {tmps : Array Value} (ht : TmR φ fr.tm nt tmps) : ∀ (rs : List ResultVar) (s : S) (acc : List V) (k : List V → S → TR), Rel φ s w →
    (∃ why, resultsOf E fr rs s acc k = .fail why) ∨ ∃ vs s' cs, resultsOf E fr rs s acc k = k (acc.reverse ++ vs) s' ∧ s'.h = s.h ∧ s'.n = s.n ∧ (rs.mapM (resF tmps)).run P w = .ok cs w ∧ VRL φ vs cs := by
  intro rs
  induction rs with
  | nil => intro s acc k h; exact .inr ⟨[], s, [], by simp [resultsOf], rfl, rfl, by simp, rfl⟩
  | cons r rs ih =>
    intro s acc k h
    cases r with
    | tmp t =>
      simp only [resultsOf]
      rcases ih s (tmV fr.tm t :: acc) k h with hf | ⟨vs, s', cs, h1, h2, h3, h4, h5⟩
      · exact .inl hf
      · refine .inr ⟨tmV fr.tm t :: vs, s', tmps.getD t undef :: cs, ?_, h2, h3, ?_, ⟨_, _, rfl, ht.2 t, h5⟩⟩
        · rw [h1]; simp
        · simp only [List.mapM_cons, Sem.run_bind, resF, Sem.run_pure, Result.andThen_ok, h4]
    | cell a t =>
      simp only [resultsOf]
      rcases Q.run_cases TR.fail (fun r s => orRet TR.fail r s fun v s => resultsOf E fr rs s (v :: acc) k) (loadAt E t (tmV fr.tm a)) s with ⟨why, e⟩ | ⟨r, s₁, he, e⟩
      · exact .inl ⟨why, e⟩
      · rw [e]
        obtain ⟨v, x, rfl, g1, g2, g3, g4⟩ := loadAt_eval hE h (ht.2 a) he
        simp only [orRet]
        have h' : Rel φ s₁ w := by
          have := h.log s₁.lg
          rw [← g1, ← g2] at this
          exact this
        rcases ih s₁ (v :: acc) k h' with hf | ⟨vs, s', cs, h1, h2, h3, h4, h5⟩
        · exact .inl hf
        · refine .inr ⟨v :: vs, s', x :: cs, ?_, h2.trans g1, h3.trans g2, ?_, ⟨_, _, rfl, g4, h5⟩⟩
          · rw [h1]; simp
          · have g3' : (resF tmps (.cell a t)).run P w = .ok x w := g3
            simp only [List.mapM_cons, Sem.run_bind, g3', Sem.run_pure, Result.andThen_ok, h4]

theorem one_ok {vs : List V} {cs : List Value} (h : VRL φ vs cs) : VR φ (one vs) (if h : cs.toArray.size = 1 then cs.toArray[0] else .tuple cs.toArray) := by
  have hl := h.length
  match vs, cs, h with
  | [], _, h => cases h; exact ⟨#[], rfl, rfl⟩
  | [v], _, ⟨c, cs, e, r, rs⟩ => cases rs; subst e; exact r
  | v :: w :: vs, _, ⟨c, _, e, r, ⟨d, cs, e', r', rs⟩⟩ =>
    subst e'; subst e
    simp only [one]
    rw [dif_neg (by simp)]
    exact ⟨_, rfl, ⟨_, _, rfl, r, ⟨_, _, rfl, r', rs⟩⟩⟩

def ModeR (φ : Map) : Option V → FrameMode → Prop
  | none, m => m = .returning
  | some v, m => ∃ c, m = .panicking [{ v := c, recovered := false }] ∧ VR φ v c

theorem ModeR.mono {φ ψ : Map} (h : ∀ id l, φ id = some l → ψ id = some l) : ∀ {p : Option V} {m : FrameMode}, ModeR φ p m → ModeR ψ p m
  | none, _, r => r
  | some _, _, ⟨c, e, r⟩ => ⟨c, e, VR.mono h _ _ r⟩

theorem CallOk.of_steps (hG : StepRel E P G) {f : FuncId} {kind : CallKind} {cs : List Frame} {pk : Option V} {m m₁ : MC} (h : G m m₁) : ∀ {r : TR}, CallOk E P G φ w m₁ f kind cs pk r → CallOk E P G φ w m f kind cs pk r
  | .ret _ _ _, ⟨φ', w', fr, c, k1, k2, k3, k4, r⟩ => ⟨φ', w', fr, c, k1, k2, k3, hG.trans h k4, r⟩
  | .pan _ _ _, ⟨φ', w', fr, c, k1, k2, k3, k4, r⟩ => ⟨φ', w', fr, c, k1, k2, k3, hG.trans h k4, r⟩
  | .code _, _ => trivial
  | .fail _, _ => trivial

theorem CallOk.later {f : FuncId} {kind : CallKind} {cs : List Frame} {pk : Option V} {m : MC} {φ₁ : Map} {w₁ : World} (h : Keep φ w φ₁ w₁) : ∀ {r : TR}, CallOk E P G φ₁ w₁ m f kind cs pk r → CallOk E P G φ w m f kind cs pk r
  | .ret _ _ _, ⟨φ', w', fr, c, k1, r⟩ => ⟨φ', w', fr, c, h.trans k1, r⟩
  | .pan _ _ _, ⟨φ', w', fr, c, k1, r⟩ => ⟨φ', w', fr, c, h.trans k1, r⟩
  | .code _, _ => trivial
  | .fail _, _ => trivial

theorem stepG_unwind {fr0 : Frame} {cs : List Frame} (hm : fr0.mode ≠ .run) :
    stepG P true { frame := fr0, callers := cs, status := .running, dying := none } w = Go.unwind P true fr0 cs none w := by
  cases h : fr0.mode <;> simp_all [stepG]

theorem ModeR.notRun {p : Option V} {m : FrameMode} (h : ModeR φ p m) : m ≠ .run := by
  cases p with
  | none => rw [show m = .returning from h]; simp
  | some v => obtain ⟨c, e, _⟩ := h; rw [e]; simp

theorem st_mark {fr0 : Frame} {cs : List Frame} {blk : Nat} {ds : List Deferred} (hm : fr0.mode ≠ .run) (hd : fr0.defers = { target := .collected blk, args := #[] } :: ds) (hb : w.heap[blk]? = some (.deferred (some []))) :
    step P (lone fr0 cs w) = .next (lone { fr0 with defers := ds } cs { w with heap := w.heap.setIfInBounds blk (.deferred none) }) := by
  refine step_lone_go ?_
  rw [stepG_unwind hm]
  have : (Instr.takeDeferred blk).run P w = .ok [] { w with heap := w.heap.setIfInBounds blk (.deferred none) } := by
    simp [Instr.takeDeferred, getObj, setObj, Sem.run, hb]
  simp [Go.unwind, hd, Sem.runT_eq, this, GStep.bare_after]

theorem st_deferred {fr0 : Frame} {cs : List Frame} {f : FuncId} {cap as : Array Value} {ds : List Deferred} (hm : fr0.mode ≠ .run) (hd : fr0.defers = { target := .fn (.func f) cap, args := as } :: ds)
    (hc : (callFunc f (as ++ cap)).run P w = .ok (.enter f (as ++ cap)) w) :
    step P (lone fr0 cs w) = .next (lone (Frame.enter P f (as ++ cap) .deferred) ({ fr0 with defers := ds } :: cs) w) := by
  refine step_lone_go ?_
  rw [stepG_unwind hm]
  have : (invoke (.fn (.func f) cap) as).run P w = .ok (.enter f (as ++ cap)) w := by simp only [invoke]; exact hc
  simp [Go.unwind, hd, callDeferred, Sem.runT_eq, this, GStep.bare_after]

/-- a deferred call has come back -/
theorem st_deferredBack {fr0 caller : Frame} {cs : List Frame} {f : FuncId} {c : Value} (hc : caller.mode = .returning ∨ ∃ x, caller.mode = .panicking [{ v := x, recovered := false }])
    (h5 : fr0.mode = .returning) (h6 : fr0.defers = []) (h7 : fr0.kind = .deferred) (h8 : fr0.fn = f)
    (h9 : ∃ fn, P.funcs[f]? = some fn ∧ (results fn fr0.tmps).run P w = .ok c w) :
    step P (lone fr0 (caller :: cs) w) = .next (lone caller cs w) := by
  obtain ⟨fn, hf, hr⟩ := h9
  refine step_lone_go ?_
  rw [stepG_unwind (by rw [h5]; simp)]
  rcases hc with hc | ⟨x, hc⟩ <;> simp [Go.unwind, h5, h6, h8, hf, hr, doReturn, h7, hc]

theorem st_deferredBack' {fr0 caller : Frame} {cs : List Frame} {f : FuncId} {c x : Value} (hc : caller.mode = .panicking [{ v := x, recovered := true }])
    (h5 : fr0.mode = .returning) (h6 : fr0.defers = []) (h7 : fr0.kind = .deferred) (h8 : fr0.fn = f)
    (h9 : ∃ fn, P.funcs[f]? = some fn ∧ (results fn fr0.tmps).run P w = .ok c w) :
    step P (lone fr0 (caller :: cs) w) = .next (lone { caller with mode := .returning } cs w) := by
  obtain ⟨fn, hf, hr⟩ := h9
  refine step_lone_go ?_
  rw [stepG_unwind (by rw [h5]; simp)]
  simp [Go.unwind, h5, h6, h8, hf, hr, doReturn, h7, hc]

theorem csOf_none {rc : Bool} {cs : List Frame} : csOf none rc cs = cs := rfl
theorem csOf_false {v : V} {cs : List Frame} : csOf (some v) false cs = cs := rfl
theorem csOf_true {v : V} {caller : Frame} {cs : List Frame} {c : Value} (h : caller.mode = .panicking [{ v := c, recovered := false }]) :
    csOf (some v) true (caller :: cs) = { caller with mode := .panicking [{ v := c, recovered := true }] } :: cs := by
  simp [csOf, markC, h]

theorem unwind_ok (hE : EnvOk E P) (hs : SelfOk E P G self) {f : FuncId} {fi : FI} (hfi : E.fn f = some fi) {kind : CallKind} {cs : List Frame} {pk : Option V} : ∀ (ds : List D) (p : Option V) (s : S) (φ : Map) (w : World) (fr0 : Frame),
    GlobOk E.ng φ → Rel φ s w → TmR φ fr.tm fi.nt fr0.tmps → DsR φ ds fr0.defers → fr0.fn = f → fr0.kind = kind → ModeR φ p fr0.mode →
    CallOk E P G φ w (lone fr0 (csOf pk fr.rc cs) w, cnt E s) f kind cs pk (AM.unwind E self fi fr ds p s) := by
  obtain ⟨fn, h1, h2, h3, h4, h5⟩ := (hE.fn _ _ hfi).fn
  intro ds
  induction ds with
  | nil =>
    intro p s φ w fr0 hg hrel ht hd hfn hk hm
    have hd0 : fr0.defers = [] := hd
    cases p with
    | none =>
      simp only [AM.unwind]
      rcases resultsOf_ok hE ht fi.results s [] (fun vs s => .ret (one vs) fr.rc s) hrel with ⟨why, e⟩ | ⟨vs, s', xs, e, g1, g2, g3, g4⟩
      · rw [e]; trivial
      · rw [e]
        have hrel' : Rel φ s' w := by
          have := hrel.log s'.lg
          rw [← g1, ← g2] at this
          exact this
        refine ⟨φ, w, fr0, _, Keep.refl _ _, hrel', one_ok g4, (by rw [show cnt E s' = cnt E s by unfold cnt; rw [g1]]; exact hs.rel.refl _), hm, hd0, hk, hfn, fn, h1, ?_⟩
        rw [results_eq]
        rw [← h3] at g3
        have : (fn.results.mapM (resF fr0.tmps)).run P w = .ok xs.toArray w := by
          rw [Array.mapM_eq_mapM_toList]
          simp [g3]
        simp only [Sem.run_bind, this, Result.andThen_ok, Sem.run_pure]
    | some v =>
      obtain ⟨c, hm, hv⟩ := hm
      exact ⟨φ, w, fr0, c, Keep.refl _ _, hrel, hv, hs.rel.refl _, hm, hd0, hfn, fn, h1⟩
  | cons d ds ih =>
    intro p s φ w fr0 hg hrel ht hd hfn hk hm
    obtain ⟨e, es, hd', hde, hds⟩ := hd
    cases d with
    | mark id =>
      obtain ⟨l, hl, rfl⟩ := hde
      simp only [AM.unwind]
      cases hget : s.h.get id with
      | none => trivial
      | some ob =>
        cases ob <;> try trivial
        simp only [isDefd, cond_true]
        obtain ⟨l', hl', hro, hob⟩ := hrel.obj _ _ hget
        rw [hl] at hl'; cases hl'
        have hb := hrel.bnd _ _ hl
        have hoth : ∀ x, x ≠ l.blk → ({ w with heap := w.heap.setIfInBounds l.blk (.deferred none) } : World).heap[x]? = w.heap[x]? := by
          intro x hx
          simp only [Array.getElem?_setIfInBounds]
          rw [if_neg (fun h => hx h.symm)]
        have hk1 : Keep φ w φ { w with heap := w.heap.setIfInBounds l.blk (.deferred none) } := Keep.wr hl hro (by simp) hoth rfl rfl rfl
        have hrel1 : Rel φ (s.wr id none) { w with heap := w.heap.setIfInBounds l.blk (.deferred none) } := by
          have hkill := hrel.kill id
          refine ⟨?_, hkill.inj, hkill.dom, by simpa using hkill.bnd, hkill.un⟩
          intro j oj hj
          obtain ⟨k, hk, hok⟩ := hkill.obj j oj hj
          refine ⟨k, hk, ?_⟩
          have hjid : j ≠ id := by
            intro e; subst e
            simp [S.wr, Tr.get_put] at hj
          have hj' : s.h.get j ≠ none := by
            simp only [S.wr, Tr.get_put, if_neg hjid] at hj
            simp [hj]
          rw [hoth k.blk (fun e => by
            rcases hrel.inj j id k l hk hl hj' (by simp [hget]) e with e | ⟨_, e⟩
            · exact hjid e
            · rw [hro] at e; cases e)]
          exact hok
        have hcw : cnt E (s.wr id none) = cnt E s := cnt_wr (.inr (by rw [hget]; rfl)) rfl
        rw [← hcw]
        refine CallOk.of_steps hs.rel (hs.rel.one (st_mark hm.notRun hd' hob) (np_mode hm.notRun)) (CallOk.later hk1 ?_)
        exact ih p _ _ _ { fr0 with defers := es } hg hrel1 ht hds hfn hk hm
    | call g args =>
      obtain ⟨cap, as, rfl, hargs⟩ := hde
      simp only [AM.unwind]
      cases hx : isNoneX (E.ext g) with
      | false => trivial
      | true =>
        simp only [cond_true]
        cases hfg : E.fn g with
        | none =>
          have := hs.fn (args := args) (pk := p) (s := s) hfg
          cases hcall : self (.call g args p) s with
          | ret v rc s' => exact absurd hcall (this v rc s').1
          | pan v rc s' => trivial
          | code _ => trivial
          | fail _ => trivial
        | some fig =>
          have hst := st_deferred (cs := csOf pk fr.rc cs) hm.notRun hd' (callFunc_enter hE hfg (as ++ cap) w)
          have hpk : PkR φ p .deferred ({ fr0 with defers := es } :: csOf pk fr.rc cs) := by
            cases p with
            | none =>
              intro fr' hfr'
              have hm : fr0.mode = .returning := hm
              simp [tryRecover, hfr', hm]
            | some v =>
              obtain ⟨c, hm, hv⟩ := hm
              exact ⟨rfl, _, _, c, rfl, hm, hv⟩
          have hcall := hs.call (f := g) (kind := .deferred) hg hrel hargs hpk (.inr rfl)
          cases hc : self (.call g args p) s with
          | pan v rc s' => trivial
          | code _ => trivial
          | fail _ => trivial
          | ret v rc s' =>
            rw [hc] at hcall
            obtain ⟨φ', w', fr', c, k1, k2, k3, k4, k5, k6, k7, k8, k9⟩ := hcall
            simp only [afterDefer]
            refine CallOk.of_steps hs.rel (hs.rel.head hst (np_mode hm.notRun) k4) ?_
            refine CallOk.later k1 ?_
            have hg' := hg.mono k1.ext
            have ht' := ht.mono k1.ext
            have hds' := hds.mono k1.ext
            have hm' := hm.mono k1.ext
            cases p with
            | none =>
              rw [csOf_none]
              refine CallOk.of_steps hs.rel (hs.rel.one (st_deferredBack (caller := { fr0 with defers := es }) (.inl hm) k5 k6 k7 k8 k9) (np_mode (by simp [k5]))) ?_
              have : (bif rc then (none : Option V) else none) = none := by cases rc <;> rfl
              rw [this]
              exact ih none _ _ _ { fr0 with defers := es } hg' k2 ht' hds' hfn hk hm'
            | some v' =>
              obtain ⟨c0, hm0, hv0⟩ := hm
              cases rc with
              | false =>
                rw [csOf_false]
                refine CallOk.of_steps hs.rel (hs.rel.one (st_deferredBack (caller := { fr0 with defers := es }) (.inr ⟨c0, hm0⟩) k5 k6 k7 k8 k9) (np_mode (by simp [k5]))) ?_
                exact ih (some v') _ _ _ { fr0 with defers := es } hg' k2 ht' hds' hfn hk hm'
              | true =>
                rw [csOf_true (caller := { fr0 with defers := es }) (c := c0) hm0]
                refine CallOk.of_steps hs.rel (hs.rel.one (st_deferredBack' rfl k5 k6 k7 k8 k9) (np_mode (by simp [k5]))) ?_
                exact ih none _ _ _ { fr0 with defers := es, mode := .returning } hg' k2 ht' hds' hfn hk rfl

end
end Go.AM

namespace Go.AM
open Go
set_option linter.unusedVariables false
set_option linter.unusedSimpArgs false

section
variable {P : Program} {E : Env} {self : Self} {φ : Map} {s : S} {w : World} {fr : Fr} {b : Frame} {a : Act} {cs : List Frame} {k : List Item} {cx : Cx} {G : MC → MC → Prop}

theorem tmV_listTm : ∀ (args : List V) (i : Nat) (t : Tr V) (j : Nat), tmV (listTm args i t) j = if i ≤ j ∧ j < i + args.length then args.getD (j - i) undefV else tmV t j
  | [], i, t, j => by
    simp only [listTm, List.length_nil]
    rw [if_neg (by omega)]
  | v :: l, i, t, j => by
    simp only [listTm, tmV_listTm l (Nat.succ i), List.length_cons]
    by_cases h : Nat.succ i ≤ j ∧ j < Nat.succ i + l.length
    · rw [if_pos h, if_pos (by omega)]
      have : j - i = (j - Nat.succ i) + 1 := by omega
      rw [this]; rfl
    · rw [if_neg h]
      simp only [tmV, Tr.get_put]
      by_cases e : j = i
      · subst e
        rw [if_pos rfl, if_pos (by omega)]
        simp
      · rw [if_neg e, if_neg (by omega)]

theorem tmV_leaf (j : Nat) : tmV .leaf j = undefV := rfl

theorem enter_tm {args : List V} {cargs : Array Value} {nt : Nat} (h : VRL φ args cargs.toList) (hn : args.length ≤ nt) : TmR φ (listTm args 0 .leaf) nt (cargs ++ Array.replicate (nt - cargs.size) undef) := by
  have hl : args.length = cargs.size := by have := h.length; simpa using this
  refine ⟨by simp; omega, fun i => ?_⟩
  rw [tmV_listTm, tmV_leaf]
  by_cases hi : i < args.length
  · rw [if_pos ⟨by omega, by omega⟩]
    have hg : args[i]? = some (args.getD i undefV) := by simp [hi]
    obtain ⟨c, hc, hv⟩ := h.get hg
    have : (cargs ++ Array.replicate (nt - cargs.size) undef).getD i undef = c := by
      rw [Array.getElem?_toList] at hc
      rw [Array.getD_eq_getD_getElem?, Array.getElem?_append_left (by omega), hc]; rfl
    rw [this]; exact hv
  · rw [if_neg (by omega)]
    have : (cargs ++ Array.replicate (nt - cargs.size) undef).getD i undef = undef := by
      rw [Array.getD_eq_getD_getElem?, Array.getElem?_append_right (by omega)]
      cases e : (Array.replicate (nt - cargs.size) undef)[i - cargs.size]? with
      | none => rfl
      | some x =>
        rw [Array.getElem?_replicate] at e
        split at e <;> simp at e
        rw [← e]; rfl
    rw [this]; exact ⟨#[], rfl, rfl⟩

theorem st_end (h : b.roundOf = none) : step P (lone (Frame.put b a []) cs w) = .next (lone { Frame.put b a [] with mode := .returning } cs w) :=
  step_lone_go (by simp [stepG, stepG.exec, Frame.put, h])
theorem st_ret (h : b.roundOf = none) : step P (lone (Frame.put b a (.code .ret :: k)) cs w) = .next (lone { Frame.put b a (.code .ret :: k) with mode := .returning } cs w) :=
  step_lone_go (by simp [stepG, stepG.exec, Frame.put, h])

theorem callTask_ok (hE : EnvOk E P) (hs : SelfOk E P G self) (hd : DrawOk E G self) {f : FuncId} {args : List V} {pk : Option V} {cargs : Array Value} {kind : CallKind}
    (hg : GlobOk E.ng φ) (hrel : Rel φ s w) (ha : VRL φ args cargs.toList) (hpk : PkR φ pk kind cs) (hkind : kind = .normal ∨ kind = .deferred) :
    CallOk E P G φ w (lone (Frame.enter P f cargs kind) cs w, cnt E s) f kind cs pk (callTask E self f args pk s) := by
  unfold callTask
  cases hfi : E.fn f with
  | none => trivial
  | some fi =>
    simp only
    cases hn : Nat.ble args.length fi.nt with
    | false => trivial
    | true =>
      simp only [cond_true]
      have hn' := Nat.le_of_ble_eq_true hn
      obtain ⟨fn, h1, h2, h3, h4, h5⟩ := (hE.fn _ _ hfi).fn
      have hb : Frame.enter P f cargs kind = Frame.put (Frame.enter P f cargs kind) ⟨cargs ++ Array.replicate (fi.nt - cargs.size) undef, []⟩ [.code fi.body] := by
        simp [Frame.enter, Frame.put, h1, h2, h4]
      have hf : FrR φ ⟨f, fi.nt, none, pk⟩ ⟨listTm args 0 .leaf, [], false, E.ng⟩ ⟨cargs ++ Array.replicate (fi.nt - cargs.size) undef, []⟩ := ⟨enter_tm ha hn', rfl, hg⟩
      have hc : CtxOk φ ⟨f, fi.nt, none, pk⟩ (Frame.enter P f cargs kind) cs := ⟨rfl, rfl, hpk, hkind⟩
      have hbody := ev_ok hE hs hd fi.body _ _ [] cs w φ s ⟨f, fi.nt, none, pk⟩ ⟨listTm args 0 .leaf, [], false, E.ng⟩ hg hc hrel hf
      have hcs : csOf pk false cs = cs := by cases pk <;> rfl
      rw [← hb] at hbody
      simp only [hcs] at hbody
      have hbr : (Frame.enter P f cargs kind).roundOf = none := rfl
      have hbf : (Frame.enter P f cargs kind).fn = f := rfl
      have hbk : (Frame.enter P f cargs kind).kind = kind := rfl
      generalize Frame.enter P f cargs kind = b at *
      cases he : ev fi.body E self ⟨f, fi.nt, none, pk⟩ ⟨listTm args 0 .leaf, [], false, E.ng⟩ s with
      | fail w => trivial
      | ok X fr' s' =>
        rw [he] at hbody
        obtain ⟨φ', a', w', k1, k2, k3, k4⟩ := hbody
        cases X with
        | normal =>
          refine CallOk.of_steps hs.rel (hs.rel.trans k4 (hs.rel.one (st_end hbr) (np_todo (by simp [Frame.put])))) (CallOk.later k1 ?_)
          exact unwind_ok hE hs hfi fr'.ds none s' φ' w' _ (hg.mono k1.ext) k2 k3.tm k3.ds hbf hbk rfl
        | exit i => trivial
        | goto l => trivial
        | ret =>
          obtain ⟨k₀, k4⟩ := k4
          refine CallOk.of_steps hs.rel (hs.rel.trans k4 (hs.rel.one (st_ret hbr) (np_todo (by simp [Frame.put])))) (CallOk.later k1 ?_)
          exact unwind_ok hE hs hfi fr'.ds none s' φ' w' _ (hg.mono k1.ext) k2 k3.tm k3.ds hbf hbk rfl
        | panic v =>
          obtain ⟨todo, c, hv, k4⟩ := k4
          refine CallOk.of_steps hs.rel k4 (CallOk.later k1 ?_)
          exact unwind_ok hE hs hfi fr'.ds (some v) s' φ' w' _ (hg.mono k1.ext) k2 k3.tm k3.ds hbf hbk ⟨c, rfl, hv⟩

theorem loop_ok (hE : EnvOk E P) (hs : SelfOk E P G self) (hd : DrawOk E G self) {body : Code} (hg : GlobOk E.ng φ) (hc : CtxOk φ cx b cs) (hrel : Rel φ s w) (hf : FrR φ cx fr a) :
    Arr E G b k cs cx φ w (lone (Frame.put b a (.code body :: .inLoop body :: k)) (csOf cx.pk fr.rc cs) w, cnt E s) (asCode (task (.loop cx body fr) E self s)) := by
  have hbody := ev_ok hE hs hd body b a (.inLoop body :: k) cs w φ s cx fr hg hc hrel hf
  simp only [task]
  cases he : ev body E self cx fr s with
  | fail w => trivial
  | ok X fr' s' =>
    rw [he] at hbody
    obtain ⟨φ', a', w', k1, k2, k3, k4⟩ := hbody
    cases X with
    | normal => exact Arr.later k1 (Arr.of_steps hs.rel (hs.rel.trans k4 (hs.rel.one st_inLoop (np_todo (by simp [Frame.put])))) (hs.loop (hg.mono k1.ext) (hc.mono k1.ext) k2 k3))
    | exit i => exact ⟨φ', a', w', k1, k2, k3, k4.pass (fun _ => rfl) (fun _ => rfl) (by simp)⟩
    | goto l => exact ⟨φ', a', w', k1, k2, k3, k4.pass (fun _ => rfl) (fun _ => rfl) (by simp)⟩
    | ret => exact ⟨φ', a', w', k1, k2, k3, k4⟩
    | panic v => exact ⟨φ', a', w', k1, k2, k3, k4⟩

theorem scope_ok (hE : EnvOk E P) (hs : SelfOk E P G self) (hd : DrawOk E G self) {code body : Code} (hg : GlobOk E.ng φ) (hc : CtxOk φ cx b cs) (hrel : Rel φ s w) (hf : FrR φ cx fr a) :
    Arr E G b k cs cx φ w (lone (Frame.put b a (.code code :: .inScope body :: k)) (csOf cx.pk fr.rc cs) w, cnt E s) (asCode (task (.scope cx code body fr) E self s)) := by
  have hbody := ev_ok hE hs hd code b a (.inScope body :: k) cs w φ s cx fr hg hc hrel hf
  simp only [task]
  cases he : ev code E self cx fr s with
  | fail w => trivial
  | ok X fr' s' =>
    rw [he] at hbody
    obtain ⟨φ', a', w', k1, k2, k3, k4⟩ := hbody
    cases X with
    | normal => exact ⟨φ', a', w', k1, k2, k3, hs.rel.trans k4 (hs.rel.one st_inScope (np_todo (by simp [Frame.put])))⟩
    | exit i =>
      obtain ⟨k₀, e, r⟩ := k4
      exact ⟨φ', a', w', k1, k2, k3, k₀, e, r⟩
    | goto l =>
      obtain ⟨k₀, e, r⟩ := k4
      simp only [afterScope]
      cases hl : findLabel body l with
      | none => exact ⟨φ', a', w', k1, k2, k3, k₀, by rw [e]; simp [gotoIn, hl], r⟩
      | some rest =>
        simp only
        have : gotoIn l k₀ = some (.code rest :: .inScope body :: k) := by rw [e]; simp [gotoIn, hl]
        exact Arr.later k1 (Arr.of_steps hs.rel (hs.rel.trans r (hs.rel.one (st_goto this) (np_todo (by simp [Frame.put])))) (hs.scope (hg.mono k1.ext) (hc.mono k1.ext) k2 k3))
    | ret => exact ⟨φ', a', w', k1, k2, k3, k4⟩
    | panic v => exact ⟨φ', a', w', k1, k2, k3, k4⟩

/-! ## a round -/
theorem st_beginRound {l : Nat} {w' : World} (hl : b.roundOf = some l) (h : (Instr.beginRound l).run P w = .ok () w') :
    step P (lone (Frame.put b a (.beginRound :: k)) cs w) = .next (lone (Frame.put b a k) cs w') := by
  refine step_lone_go ?_
  have : (do b.roundOf.elim (stuck "beginRound: no round") Instr.beginRound; pure .skip : Sem Next).run P w = .ok .skip w' := by
    simp [hl, h]
  simp only [stepG, stepG.exec, Frame.put, stepG.apply, Sem.runT_eq, this, GStep.bare_after]
  simp [Frame.finish]

theorem st_leaveRound {l : Nat} {caller : Frame} {todo : List Item} {j : Option Code} {c : Value} {w' : World} (hl : b.roundOf = some l) (hk : b.kind = .normal)
    (ht : (todo = [] ∧ j = none) ∨ (∃ k₀, todo = .code .ret :: k₀ ∧ j = some .ret) ∨ (∃ k₀ id, todo = .code (.exit id) :: k₀ ∧ exitTo id k₀ = none ∧ j = some (.exit id)) ∨
      (∃ k₀ t, todo = .code (.goto t) :: k₀ ∧ gotoIn t k₀ = none ∧ j = some (.goto t)))
    (h : (Instr.endRound l j).run P w = .ok c w') : step P (lone (Frame.put b a todo) (caller :: cs) w) = .next (lone (caller.finish c) cs w') := by
  refine step_lone_go ?_
  rcases ht with ⟨rfl, rfl⟩ | ⟨k₀, rfl, rfl⟩ | ⟨k₀, id, rfl, he, rfl⟩ | ⟨k₀, t, rfl, he, rfl⟩
  · simp [stepG, stepG.exec, Frame.put, hl, Sem.runT_eq, h, GStep.bare_after, doReturn, hk]
  · simp [stepG, stepG.exec, Frame.put, hl, Sem.runT_eq, h, GStep.bare_after, doReturn, hk]
  · simp [stepG, stepG.exec, Frame.put, hl, Sem.runT_eq, h, GStep.bare_after, doReturn, hk, he]
  · simp [stepG, stepG.exec, Frame.put, hl, Sem.runT_eq, h, GStep.bare_after, doReturn, hk, he]

theorem paramTm_ok {nt : Nat} : ∀ (ps : List Tmp) (args : List V) (cargs : List Value) (t : Tr V) (tms : Array Value), VRL φ args cargs → TmR φ t nt tms →
    TmR φ (paramTm nt ps args t) nt ((ps.zip cargs).foldl (fun tmps (p : Tmp × Value) => tmps.setIfInBounds p.1 p.2) tms)
  | [], _, _, _, _, _, ht => ht
  | p :: ps, [], _, _, _, ha, ht => by cases ha; exact ht
  | p :: ps, v :: vs, _, t, tms, ⟨c, cs, e, hv, hvs⟩, ht => by
    subst e
    exact paramTm_ok ps vs cs _ _ hvs (ht.put p hv)

theorem run_yield {l : Nat} {x : Loop} {cargs : Array Value} (h : w.heap[l]? = some (.loop x)) (hn : cargs.size = x.params.size) :
    (Instr.yield l cargs).run P w = .ok (.round l x.fn ((x.params.zip cargs).foldl (fun tmps (t, a) => tmps.setIfInBounds t a) x.tmps) x.assign x.body) w := by
  simp [Instr.yield, run_getLoop h, hn]

theorem noDs_spec (h : noDs fr = true) : fr.ds = [] ∧ fr.rc = false := by
  unfold noDs at h
  split at h
  · rename_i e; exact ⟨e, by simpa using h⟩
  · simp at h

theorem round_ok (hE : EnvOk E P) (hs : SelfOk E P G self) (hd : DrawOk E G self) {l : Nat} {L : Loc} {args : List V} {cargs : Array Value} {c0 : Frame}
    (hg : GlobOk E.ng φ) (hrel : Rel φ s w) (hL : φ l = some L) (ha : VRL φ args cargs.toList) : RoundOk E P G φ w (cnt E s) L.blk cargs c0 cs (task (.round l args) E self s) := by
  simp only [task]
  cases hget : s.h.get l with
  | none => trivial
  | some ob =>
    cases ob <;> try trivial
    rename_i st pend fn tm nt ps asg body df
    simp only [roundIn]
    cases hlen : Nat.beq args.length ps.length with
    | false => trivial
    | true =>
      simp only [cond_true]
      have hlen' : args.length = ps.length := by simpa using hlen
      obtain ⟨L', hL', hro, tms, ld, hob, hdf, htm⟩ := hrel.obj _ _ hget
      rw [hL] at hL'; cases hL'
      have hal : args.length = cargs.size := by have := ha.length; simpa using this
      have hy := run_yield (P := P) (cargs := cargs) hob (by simp; omega)
      simp only at hy
      have htm' : TmR φ (paramTm nt ps args tm) nt ((ps.toArray.zip cargs).foldl (fun tmps (t, a) => tmps.setIfInBounds t a) tms) := by
        have := paramTm_ok ps args cargs.toList tm tms ha htm
        rw [← Array.foldl_toList]
        simpa using this
      generalize (ps.toArray.zip cargs).foldl (fun tmps (t, a) => tmps.setIfInBounds t a) tms = tms' at hy htm'
      have hb : Frame.round L.blk fn tms' asg body .normal = Frame.put (Frame.round L.blk fn tms' asg body .normal) ⟨tms', []⟩ (.code asg :: [.beginRound, .code body]) := rfl
      have hf : FrR φ ⟨fn, nt, some l, none⟩ ⟨paramTm nt ps args tm, [], false, E.ng⟩ ⟨tms', []⟩ := ⟨htm', rfl, hg⟩
      have hc : CtxOk φ ⟨fn, nt, some l, none⟩ (Frame.round L.blk fn tms' asg body .normal) (c0 :: cs) :=
        ⟨rfl, ⟨L, hL, rfl⟩, by intro fr hfr; simp [tryRecover, hfr, Frame.round], .inl rfl⟩
      have hasg := ev_ok hE hs hd asg _ _ [.beginRound, .code body] (c0 :: cs) w φ (s.rd l) ⟨fn, nt, some l, none⟩ _ hg hc (hrel.rd l) hf
      rw [← hb] at hasg
      simp only [csOf_none] at hasg
      have hbr : (Frame.round L.blk fn tms' asg body .normal).roundOf = some L.blk := rfl
      have hbk : (Frame.round L.blk fn tms' asg body .normal).kind = .normal := rfl
      generalize hbe : Frame.round L.blk fn tms' asg body .normal = b at *
      cases he : ev asg E self ⟨fn, nt, some l, none⟩ ⟨paramTm nt ps args tm, [], false, E.ng⟩ (s.rd l) with
      | fail w => trivial
      | ok X fr1 s1 =>
        rw [he] at hasg
        obtain ⟨φ1, a1, w1, k1, k2, k3, k4⟩ := hasg
        cases X <;> simp only [afterAssign] <;> try trivial
        cases hget1 : s1.h.get l with
        | none => trivial
        | some ob1 =>
          cases ob1 <;> try trivial
          rename_i st1 pend1 fn1 tm1 nt1 ps1 asg1 body1 df1
          cases st1 <;> simp only [beginRound] <;> try trivial
          obtain ⟨L1, hL1, hro1, tms1, ld1, hob1, hdf1, htm1⟩ := k2.obj _ _ hget1
          have hLe := k1.ext _ _ hL
          rw [hLe] at hL1; cases hL1
          obtain ⟨r1, r2⟩ := loop_wr (st := .busy) (pend := pend1) (fn := fn1) (ps := ps1) (asg := asg1) (body := body1) k2 hLe (by simp [hget1]) hro1 hdf1 htm1
          have hbegin := st_beginRound (P := P) (b := b) (a := a1) (k := [.code body]) (cs := c0 :: cs) hbr (run_beginRound hob1 rfl)
          simp only [Exits, csOf_none] at k4
          have hbody := ev_ok hE hs hd body b a1 [] (c0 :: cs) _ φ1 (s1.wr l (some (.loop .busy pend1 fn1 tm1 nt1 ps1 asg1 body1 df1))) ⟨fn, nt, some l, none⟩ fr1 (hg.mono k1.ext) (hc.mono k1.ext) r1 k3
          simp only [csOf_none] at hbody
          simp only [afterRound]
          cases hev : ev body E self ⟨fn, nt, some l, none⟩ fr1 (s1.wr l (some (.loop .busy pend1 fn1 tm1 nt1 ps1 asg1 body1 df1))) with
          | fail w => trivial
          | ok X2 fr2 s2 =>
            rw [hev] at hbody
            obtain ⟨φ2, a2, w2, m1, m2, m3, m4⟩ := hbody
            simp only
            cases hnd : noDs fr2 with
            | false => trivial
            | true =>
              simp only [cond_true]
              obtain ⟨hds, hrc⟩ := noDs_spec hnd
              have hdef : a2.defers = [] := by have := m3.ds; rw [hds] at this; exact this
              simp only [csOf_none] at m4
              have hkk := k1.trans (r2.trans m1)
              have hcb : cnt E (s1.wr l (some (.loop .busy pend1 fn1 tm1 nt1 ps1 asg1 body1 df1))) = cnt E s1 := cnt_wr (.inr (by rw [hget1]; rfl)) rfl
              have hpre : G (lone b (c0 :: cs) w, cnt E s) (lone (Frame.put b a1 [.code body]) (c0 :: cs) { w1 with heap := w1.heap.setIfInBounds L.blk (.loop { state := .busy, pending := pend1, fn := fn1, tmps := tms1, params := ps1.toArray, assign := asg1, body := body1, defers := ld1.blk }) }, cnt E s1) :=
                hs.rel.trans k4 (hs.rel.one hbegin (np_todo (by simp [Frame.put])))
              rw [hcb] at m4
              cases hget2 : s2.h.get l with
              | none => trivial
              | some ob2 =>
                cases ob2 <;> try trivial
                rename_i st2 pend2 fn2 tm2 nt2 ps2 asg2 body2 df2
                obtain ⟨L2, hL2, hro2, tms2, ld2, hob2, hdf2, htm2⟩ := m2.obj _ _ hget2
                have hLe2 := m1.ext _ _ hLe
                rw [hLe2] at hL2; cases hL2
                have hleave : ∀ (todo : List Item) (j : Option Code), G (lone (Frame.put b a1 [.code body]) (c0 :: cs) { w1 with heap := w1.heap.setIfInBounds L.blk (.loop { state := .busy, pending := pend1, fn := fn1, tmps := tms1, params := ps1.toArray, assign := asg1, body := body1, defers := ld1.blk }) }, cnt E s1)
                      (lone (Frame.put b a2 todo) (c0 :: cs) w2, cnt E s2) →
                    ((todo = [] ∧ j = none) ∨ (∃ k₀, todo = .code .ret :: k₀ ∧ j = some .ret) ∨ (∃ k₀ id, todo = .code (.exit id) :: k₀ ∧ exitTo id k₀ = none ∧ j = some (.exit id)) ∨
                      (∃ k₀ t, todo = .code (.goto t) :: k₀ ∧ gotoIn t k₀ = none ∧ j = some (.goto t))) →
                    RoundOk E P G φ w (cnt E s) L.blk cargs c0 cs (.ret (.bool j.isNone) false (s2.wr l (some (.loop (if j.isNone then .ready else .done) j fn2 tm2 nt2 ps2 asg2 body2 df2)))) := by
                  intro todo j hst htodo
                  obtain ⟨q1, q2⟩ := loop_wr (st := if j.isNone then .ready else .done) (pend := j) (fn := fn2) (ps := ps2) (asg := asg2) (body := body2) m2 hLe2 (by simp [hget2]) hro2 hdf2 htm2
                  refine ⟨fn, tms', asg, body, φ2, _, .bool j.isNone, hy, hkk.trans q2, q1, rfl, ?_⟩
                  rw [hbe]
                  rw [cnt_wr (.inr (by rw [hget2]; rfl)) rfl]
                  refine hs.rel.trans hpre (hs.rel.trans hst (hs.rel.one (st_leaveRound hbr hbk htodo (run_endRound hob2 j)) (np_todo ?_)))
                  rcases htodo with ⟨rfl, _⟩ | ⟨k₀, rfl, _⟩ | ⟨k₀, id, rfl, _⟩ | ⟨k₀, t, rfl, _⟩ <;> simp [Frame.put]
                simp only [AM.endRound]
                cases X2 with
                | normal => exact hleave [] none m4 (.inl ⟨rfl, rfl⟩)
                | ret =>
                  obtain ⟨k₀, m4⟩ := m4
                  exact hleave _ (some .ret) m4 (.inr (.inl ⟨k₀, rfl, rfl⟩))
                | exit i =>
                  obtain ⟨k₀, e, m4⟩ := m4
                  exact hleave _ (some (.exit i)) m4 (.inr (.inr (.inl ⟨k₀, i, rfl, e, rfl⟩)))
                | goto t =>
                  obtain ⟨k₀, e, m4⟩ := m4
                  exact hleave _ (some (.goto t)) m4 (.inr (.inr (.inr ⟨k₀, t, rfl, e, rfl⟩)))
                | panic v =>
                  obtain ⟨todo, c, hv, m4⟩ := m4
                  cases hfi : E.fn fn with
                  | none => trivial
                  | some fi =>
                    simp only
                    refine ⟨fn, tms', asg, body, φ2, w2, c, hy, hkk, m2.rd l, hv, ?_⟩
                    rw [hbe]
                    refine hs.rel.trans hpre (hs.rel.trans m4 (hs.rel.one ?_ (np_mode (by simp))))
                    have hfn : b.fn = fn := by rw [← hbe]; rfl
                    obtain ⟨fnn, f1, _⟩ := (hE.fn _ _ hfi).fn
                    exact step_leave_panicked ⟨rfl, hdef, fnn, by rw [← f1, ← hfn]; rfl⟩

theorem task_ok (hE : EnvOk E P) (hs : SelfOk E P G self) (hd : DrawOk E G self) : SelfOk E P G (fun t s => task t E self s) where
  rel := hs.rel
  fn := by
    intro f args pk s h v rc s'
    simp [task, callTask, h]
  call hg hrel ha hpk hk := callTask_ok hE hs hd hg hrel ha hpk hk
  round hg hrel hL ha := round_ok hE hs hd hg hrel hL ha
  loop hg hc hrel hf := loop_ok hE hs hd hg hc hrel hf
  scope hg hc hrel hf := scope_ok hE hs hd hg hc hrel hf

theorem fail_ok (hG : StepRel E P G) : SelfOk E P G (run E 0) where
  rel := hG
  fn := by intro f args pk s h v rc s'; simp [run]
  call _ _ _ _ _ := trivial
  round _ _ _ _ := trivial
  loop _ _ _ _ := trivial
  scope _ _ _ _ := trivial

end
end Go.AM

