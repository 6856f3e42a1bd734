/- An abstract machine for the model's programs, its runs, and what they say of the model (part AmA). No condition. -/
import GoSem.Step
set_option linter.unusedVariables false
set_option linter.unusedSimpArgs false
set_option linter.unusedSectionVars false
namespace Go.AM
open Go

/-! ## data -/

inductive Cap where
  | exact (c : Nat)
  | opn (skip : Nat)
  deriving Inhabited

inductive V where
  | bool (b : Bool)
  | int (k : IntKind) (n : Int)
  | str (s : List UInt8)
  | ptr (a : Option (Nat × Nat))
  | slice (a : Option (Nat × Nat)) (len : Nat) (cap : Cap)
  | esl
  | map (r : Option Nat)
  | func (f : FuncId) (first captured : List V)
  | yield (l : Nat)
  | nilFunc
  | iface (t : TypeId) (v : V)
  | nilIface
  | agg (cs : List V)
  | tuple (vs : List V)
  | bad
  deriving Inhabited

/-- a tree keyed by numbers -/
inductive Tr (α : Type) where
  | leaf
  | node (l : Tr α) (v : Option α) (r : Tr α)
  deriving Inhabited

def Tr.get {α : Type} : Tr α → Nat → Option α
  | .leaf => fun _ => none
  | .node l v r => fun n => bif Nat.beq n 0 then v else bif Nat.beq (Nat.mod n 2) 1 then l.get (Nat.div n 2) else r.get (Nat.pred (Nat.div n 2))

def Tr.one {α : Type} (a : Option α) : Nat → Nat → Tr α
  | 0 => fun _ => .leaf
  | k + 1 => fun n => bif Nat.beq n 0 then .node .leaf a .leaf else bif Nat.beq (Nat.mod n 2) 1 then .node (Tr.one a k (Nat.div n 2)) none .leaf else .node .leaf none (Tr.one a k (Nat.pred (Nat.div n 2)))

def Tr.put {α : Type} : Tr α → Nat → Option α → Tr α
  | .leaf => fun n a => Tr.one a (n + 1) n
  | .node l v r => fun n a => bif Nat.beq n 0 then .node l a r else bif Nat.beq (Nat.mod n 2) 1 then .node (l.put (Nat.div n 2) a) v r else .node l v (r.put (Nat.pred (Nat.div n 2)) a)

inductive Ob where
  | cells (cs : List V) (opn : Nat) (ro : Bool)
  | map (es : List (V × V × Nat)) (clock : Nat) (ord : Bool)
  | mapIter (m : Option Nat) (since : Nat) (seen : List Nat) (stepped : Nat)
  | loop (st : LoopState) (pend : Option Code) (fn : Nat) (tm : Tr V) (nt : Nat) (ps : List Tmp) (asg body : Code) (df : Nat)
  | defd
  | cnt (c : Nat)
  deriving Inhabited

structure S where
  h : Tr Ob
  n : Nat
  lg : List (Nat × Bool)
  deriving Inhabited

inductive D where
  | call (f : FuncId) (args : List V)
  | mark (id : Nat)
  deriving Inhabited

/-- what is the same throughout a frame -/
structure Cx where
  fn : Nat
  nt : Nat
  rd : Option Nat
  pk : Option V
  deriving Inhabited

structure Fr where
  tm : Tr V
  ds : List D
  rc : Bool
  ng : Nat
  deriving Inhabited

/-- what a type is -/
structure TI where
  d : TypeDesc
  size : Nat
  bytes : Nat
  zero : List V
  agg : Bool
  eqo : Bool     -- its values may be compared part by part
  deriving Inhabited

inductive XK where
  | none | mapsClone | noEscape | idxB | cntB | other
  deriving Inhabited

structure FI where
  body : Code
  results : List ResultVar
  nt : Nat
  deriving Inhabited

structure Env where
  ty : Nat → Option TI
  fn : Nat → Option FI
  ext : Nat → XK
  ng : Nat       -- how many globals
  orc : Nat → Nat := fun _ => 0     -- which entry of a map comes next, where several may
  oid : Option Nat := none          -- the object that counts those choices

inductive X where
  | normal
  | exit (id : Nat)
  | goto (l : Nat)
  | ret
  | panic (v : V)
  deriving Inhabited

inductive R where
  | ok (x : X) (fr : Fr) (s : S)
  | fail (why : String)
  deriving Inhabited

/-- an operation's answer -/
inductive OR where
  | val (v : V)
  | pan (v : V)
  | defer (d : D)
  | recover
  | call (f : FuncId) (args : List V)
  | round (l : Nat) (args : List V)
  deriving Inhabited

inductive TR where
  | ret (v : V) (rc : Bool) (s : S)
  | pan (v : V) (rc : Bool) (s : S)
  | code (r : R)
  | fail (why : String)
  deriving Inhabited

inductive Task where
  | call (f : FuncId) (args : List V) (pk : Option V)
  | round (l : Nat) (args : List V)
  | loop (cx : Cx) (body : Code) (fr : Fr)
  | scope (cx : Cx) (code body : Code) (fr : Fr)
  deriving Inhabited

abbrev Self := Task → S → TR

/-- what is done to the heap, as a tree -/
inductive Q (α : Type) where
  | ret (a : α)
  | fail (why : String)
  | rd (id : Nat) (k : Ob → Q α)
  | wr (id : Nat) (o : Ob) (k : Q α)
  | kill (id : Nat) (k : Q α)
  | new (o : Ob) (k : Nat → Q α)

def S.wr (s : S) (id : Nat) (o : Option Ob) : S := ⟨s.h.put id o, s.n, (id, true) :: s.lg⟩
def S.rd (s : S) (id : Nat) : S := ⟨s.h, s.n, (id, false) :: s.lg⟩
def S.new (s : S) (o : Ob) : S := ⟨s.h.put s.n (some o), s.n + 1, (s.n, true) :: s.lg⟩

/-- go on with what a tree gives -/
def Q.run {α β : Type} (z : String → β) : Q α → S → (α → S → β) → β
  | .ret a => fun s k => k a s
  | .fail w => fun _ _ => z w
  | .rd id f => fun s k => match s.h.get id with
    | some o => Q.run z (f o) (s.rd id) k
    | none => z "no object"
  | .wr id o q => fun s k => Q.run z q (s.wr id (some o)) k
  | .kill id q => fun s k => Q.run z q (s.wr id none) k
  | .new o f => fun s k => Q.run z (f s.n) (s.new o) k

/-! ## values -/
mutual
def ofV : Value → V
  | .bool b => .bool b
  | .int k n => .int k n
  | .string s => .str s.data.toList
  | .pointer none => .ptr none
  | .slice none l c => .slice none l (.exact c)
  | .map none => .map none
  | .func (.func f) a c => .func f (ofVA a) (ofVA c)
  | .nilFunc => .nilFunc
  | .iface t v => .iface t (ofV v)
  | .nilIface => .nilIface
  | .agg cs => .agg (ofVA cs)
  | .tuple cs => .tuple (ofVA cs)
  | _ => .bad
def ofVA : Array Value → List V
  | ⟨l⟩ => ofVL l
def ofVL : List Value → List V
  | [] => []
  | v :: l => ofV v :: ofVL l
end

def V.cells : V → List V
  | .agg cs => cs
  | v => [v]

def V.isCell : V → Bool
  | .agg _ => false
  | .tuple _ => false
  | _ => true

def allCells : List V → Bool
  | [] => true
  | v :: l => bif v.isCell then allCells l else false

def undefV : V := .tuple []

def tmV (t : Tr V) (i : Nat) : V := match t.get i with
  | some v => v
  | none => undefV

def opd : Operand → Fr → V
  | .tmp t => fun fr => tmV fr.tm t
  | .const v => fun _ => ofV v
  | .global g => fun fr => bif Nat.ble (Nat.succ g) fr.ng then .ptr (some (g, 0)) else .bad
  | .func f => fun _ => .func f [] []

def opds : List Operand → Fr → List V
  | [] => fun _ => []
  | x :: l => fun fr => opd x fr :: opds l fr

/-! ## lists of cells -/
/-- 'n' of them from the begin -/
def takeN : Nat → List V → Option (List V)
  | 0 => fun _ => some []
  | n + 1 => fun
    | [] => none
    | c :: cs => match takeN n cs with
      | some l => some (c :: l)
      | none => none

def dropN : Nat → List V → List V
  | 0 => fun cs => cs
  | n + 1 => fun
    | [] => []
    | _ :: cs => dropN n cs

/-- 'vs' over the first ones -/
def over : List V → List V → Option (List V)
  | [] => fun cs => some cs
  | v :: vs => fun
    | [] => none
    | _ :: cs => match over vs cs with
      | some l => some (v :: l)
      | none => none

def splice : Nat → List V → List V → Option (List V)
  | 0 => fun cs vs => over vs cs
  | n + 1 => fun
    | [] => fun _ => none
    | c :: cs => fun vs => match splice n cs vs with
      | some l => some (c :: l)
      | none => none

def partOf (agg : Bool) (size : Nat) (cs : List V) : Option V :=
  bif agg then (match takeN size cs with | some l => some (.agg l) | none => none) else match cs with
    | c :: _ => some c
    | [] => none

def repl : Nat → List V → List V
  | 0 => fun _ => []
  | n + 1 => fun z => z ++ repl n z

def Q.opt {α : Type} (why : String) : Option α → Q α
  | some a => .ret a
  | none => .fail why

def Q.val (why : String) : Option V → Q OR
  | some a => .ret (.val a)
  | none => .fail why

def retV (v : V) : Q OR := .ret (.val v)

def Env.desc (E : Env) (t : Nat) : Option TypeDesc := match E.ty t with | some ti => some ti.d | none => none

/-! ## memory -/
def loadAt (E : Env) (t : TypeId) (a : V) : Q OR :=
  match a with
  | .ptr (some (id, off)) => .rd id fun o => match o with
    | .cells cs _ _ => (match E.ty t with
      | some ti => .val "load: cells" (partOf ti.agg ti.size (dropN off cs))
      | none => .fail "load: type")
    | _ => .fail "load: object"
  | _ => .fail "load: no address"

def putCells (id off : Nat) (vs : List V) (v : V) : Q OR :=
  .rd id fun o => match o with
    | .cells cs opn false => bif allCells vs then (match splice off cs vs with
      | some cs' => .wr id (.cells cs' opn false) (retV v)
      | none => .fail "store: cells") else .fail "store: no cell's value"
    | _ => .fail "store: object"

def storeAt (E : Env) (t : TypeId) (a x : V) : Q OR :=
  match a with
  | .ptr (some (id, off)) => (match E.ty t with
    | some ti => bif Nat.beq x.cells.length ti.size then putCells id off x.cells undefV else .fail "store: size"
    | none => .fail "store: type")
  | _ => .fail "store: no address"

/-! ## numbers -/
def lim : IntKind → Nat
  | .i8 => 127 | .i16 => 32767 | .i32 => 2147483647 | .i64 => 9223372036854775807
  | .u8 => 255 | .u16 => 65535 | .u32 => 4294967295 | .u64 => 18446744073709551615

def wrapQ (k : IntKind) (n : Int) : Int :=
  match n with
  | .ofNat m => bif Nat.ble m (lim k) then .ofNat m else k.wrap (.ofNat m)
  | .negSucc m => k.wrap (.negSucc m)

def ltI : Int → Int → Bool
  | .ofNat a => fun | .ofNat b => Nat.ble (Nat.succ a) b | .negSucc _ => false
  | .negSucc a => fun | .ofNat _ => true | .negSucc b => Nat.ble (Nat.succ b) a

def eqI : Int → Int → Bool
  | .ofNat a => fun | .ofNat b => Nat.beq a b | .negSucc _ => false
  | .negSucc a => fun | .ofNat _ => false | .negSucc b => Nat.beq a b

def bitQ (f : Nat → Nat → Nat) (slow : Int) (k : IntKind) (a b : Int) : V :=
  match a, b with
  | .ofNat x, .ofNat y => bif Nat.ble x (lim k) then (bif Nat.ble y (lim k) then .int k (.ofNat (f x y)) else .int k slow) else .int k slow
  | _, _ => .int k slow

def iAdd (k : IntKind) (a b : Int) : Option V := some (.int k (wrapQ k (Int.add a b)))
def iSub (k : IntKind) (a b : Int) : Option V := some (.int k (wrapQ k (Int.sub a b)))
def iMul (k : IntKind) (a b : Int) : Option V := some (.int k (wrapQ k (Int.mul a b)))
def iQuo (k : IntKind) (a b : Int) : Option V := bif eqI b 0 then none else some (.int k (wrapQ k (Int.tdiv a b)))
def iRem (k : IntKind) (a b : Int) : Option V := bif eqI b 0 then none else some (.int k (Int.tmod a b))
def iAnd (k : IntKind) (a b : Int) : Option V := some (bitQ Nat.land (k.wrap (BitVec.ofInt k.bits a &&& BitVec.ofInt k.bits b).toNat) k a b)
def iOr (k : IntKind) (a b : Int) : Option V := some (bitQ Nat.lor (k.wrap (BitVec.ofInt k.bits a ||| BitVec.ofInt k.bits b).toNat) k a b)
def iXor (k : IntKind) (a b : Int) : Option V := some (bitQ Nat.xor (k.wrap (BitVec.ofInt k.bits a ^^^ BitVec.ofInt k.bits b).toNat) k a b)
def iAndNot (k : IntKind) (a b : Int) : Option V := some (.int k (k.wrap (BitVec.ofInt k.bits a &&& ~~~BitVec.ofInt k.bits b).toNat))
def iShl (k : IntKind) (a b : Int) : Option V := bif ltI b 0 then none else some (.int k (wrapQ k (Int.mul a (.ofNat (Nat.pow 2 (Nat.min b.toNat k.bits))))))
def iShr (k : IntKind) (a b : Int) : Option V := bif ltI b 0 then none else some (.int k (Int.fdiv a (.ofNat (Nat.pow 2 (Nat.min b.toNat k.bits)))))
def iEql (_ : IntKind) (a b : Int) : Option V := some (.bool (eqI a b))
def iNeq (_ : IntKind) (a b : Int) : Option V := some (.bool (not (eqI a b)))
def iLss (_ : IntKind) (a b : Int) : Option V := some (.bool (ltI a b))
def iLeq (_ : IntKind) (a b : Int) : Option V := some (.bool (not (ltI b a)))
def iGtr (_ : IntKind) (a b : Int) : Option V := some (.bool (ltI b a))
def iGeq (_ : IntKind) (a b : Int) : Option V := some (.bool (not (ltI a b)))

def intOp : BinOp → IntKind → Int → Int → Option V
  | .add => iAdd
  | .sub => iSub
  | .mul => iMul
  | .quo => iQuo
  | .rem => iRem
  | .and => iAnd
  | .or => iOr
  | .xor => iXor
  | .andNot => iAndNot
  | .shl => iShl
  | .shr => iShr
  | .eql => iEql
  | .neq => iNeq
  | .lss => iLss
  | .leq => iLeq
  | .gtr => iGtr
  | .geq => iGeq

def isShift : BinOp → Bool
  | .shl => true
  | .shr => true
  | _ => false

def kindEq : IntKind → IntKind → Bool
  | .i8 => fun | .i8 => true | _ => false
  | .i16 => fun | .i16 => true | _ => false
  | .i32 => fun | .i32 => true | _ => false
  | .i64 => fun | .i64 => true | _ => false
  | .u8 => fun | .u8 => true | _ => false
  | .u16 => fun | .u16 => true | _ => false
  | .u32 => fun | .u32 => true | _ => false
  | .u64 => fun | .u64 => true | _ => false

def eqB : List UInt8 → List UInt8 → Bool
  | [] => fun | [] => true | _ :: _ => false
  | a :: x => fun | [] => false | b :: y => bif Nat.beq a.toNat b.toNat then eqB x y else false

def ltB : List UInt8 → List UInt8 → Bool
  | [] => fun
    | [] => false
    | _ :: _ => true
  | a :: x => fun
    | [] => false
    | b :: y => bif Nat.ble (Nat.succ a.toNat) b.toNat then true else bif Nat.beq a.toNat b.toNat then ltB x y else false

def strOp : BinOp → List UInt8 → List UInt8 → Option V
  | .add => fun a b => bif Nat.ble (a.length + b.length) 4611686018427387904 then some (.str (a ++ b)) else none
  | .eql => fun a b => some (.bool (eqB a b))
  | .neq => fun a b => some (.bool (not (eqB a b)))
  | .lss => fun a b => some (.bool (ltB a b))
  | .leq => fun a b => some (.bool (or (ltB a b) (eqB a b)))
  | .gtr => fun a b => some (.bool (not (or (ltB a b) (eqB a b))))
  | .geq => fun a b => some (.bool (not (ltB a b)))
  | _ => fun _ _ => none

def partV (E : Env) (t : TypeId) (cs : List V) (off : Nat) : Option V :=
  match E.ty t with
  | none => none
  | some ti => partOf ti.agg ti.size (dropN off cs)

def eqFs (E : Env) (r : TypeId → V → V → Option Bool) (xs ys : List V) : List Field → Option Bool
  | [] => some true
  | f :: fs =>
    bif f.name == "_" then eqFs E r xs ys fs else
    match partV E f.type xs f.offset with
    | none => none
    | some a => match partV E f.type ys f.offset with
      | none => none
      | some b => match r f.type a b with
        | none => none
        | some false => some false
        | some true => eqFs E r xs ys fs

def eqEs (agg : Bool) (size : Nat) (r : V → V → Option Bool) : Nat → List V → List V → Option Bool
  | 0 => fun _ _ => some true
  | n + 1 => fun xs ys =>
    match partOf agg size xs with
    | none => none
    | some a => match partOf agg size ys with
      | none => none
      | some b => match r a b with
        | none => none
        | some false => some false
        | some true => eqEs agg size r n (dropN size xs) (dropN size ys)

def eqInt : V → V → Option Bool
  | .int k a => fun
    | .int k' b => bif kindEq k k' then some (eqI a b) else none
    | _ => none
  | _ => fun _ => none
def eqBool : V → V → Option Bool
  | .bool a => fun
    | .bool b => some (a == b)
    | _ => none
  | _ => fun _ => none
def eqStr : V → V → Option Bool
  | .str a => fun
    | .str b => some (eqB a b)
    | _ => none
  | _ => fun _ => none
def eqPtr : V → V → Option Bool
  | .ptr none => fun
    | .ptr none => some true
    | .ptr (some _) => some false
    | _ => none
  | .ptr (some _) => fun
    | .ptr none => some false
    | _ => none
  | _ => fun _ => none
def eqIface : V → V → Option Bool
  | .nilIface => fun
    | .nilIface => some true
    | .iface _ _ => some false
    | _ => none
  | .iface _ _ => fun
    | .nilIface => some false
    | _ => none
  | _ => fun _ => none
def eqSlice : V → V → Option Bool
  | .slice none _ _ => fun
    | .slice none _ _ => some true
    | .slice (some _) _ _ => some false
    | .esl => some false
    | _ => none
  | .slice (some _) _ _ => fun
    | .slice none _ _ => some false
    | _ => none
  | .esl => fun
    | .slice none _ _ => some false
    | _ => none
  | _ => fun _ => none
def eqMap : V → V → Option Bool
  | .map none => fun
    | .map none => some true
    | .map (some _) => some false
    | _ => none
  | .map (some _) => fun
    | .map none => some false
    | _ => none
  | _ => fun _ => none
def eqFunc : V → V → Option Bool
  | .nilFunc => fun
    | .nilFunc => some true
    | .func _ _ _ => some false
    | _ => none
  | .func _ _ _ => fun
    | .nilFunc => some false
    | _ => none
  | _ => fun _ => none
def eqAgg (f : List V → List V → Option Bool) : V → V → Option Bool
  | .agg xs => fun
    | .agg ys => f xs ys
    | _ => none
  | _ => fun _ => none

/-- two values of a type that may be compared: are they the same? -/
def eqV (E : Env) : Nat → TypeId → V → V → Option Bool
  | 0 => fun _ _ _ => none
  | d + 1 => fun t =>
    match E.ty t with
    | none => fun _ _ => none
    | some ti =>
      match ti.d with
      | .bool => eqBool
      | .int _ => eqInt
      | .string => eqStr
      | .pointer _ => eqPtr
      | .interface _ => eqIface
      | .slice _ => eqSlice
      | .map _ _ => eqMap
      | .func _ _ _ => eqFunc
      | .struct fs => bif ti.eqo then eqAgg fun xs ys => eqFs E (eqV E d) xs ys fs.toList else fun _ _ => none
      | .array n e => bif ti.eqo then (match E.ty e with
        | some te => eqAgg (eqEs te.agg te.size (eqV E d e) n)
        | none => fun _ _ => none) else fun _ _ => none
      | _ => fun _ _ => none

def eqOp (E : Env) : BinOp → TypeId → V → V → Option V
  | .eql => fun t x y => match eqV E 100 t x y with
    | some b => some (.bool b)
    | none => none
  | .neq => fun t x y => match eqV E 100 t x y with
    | some b => some (.bool (not b))
    | none => none
  | _ => fun _ _ _ => none

def binInt (op : BinOp) (k : IntKind) (a : Int) (y : V) : Option V :=
  match y with
  | .int k' b => bif or (isShift op) (kindEq k k') then intOp op k a b else none
  | _ => none

def binStr (op : BinOp) (a : List UInt8) (y : V) : Option V :=
  match y with
  | .str b => strOp op a b
  | _ => none

def binOf (E : Env) (op : BinOp) (t : TypeId) (x y : V) : Option V :=
  match x with
  | .int k a => binInt op k a y
  | .str a => binStr op a y
  | x => eqOp E op t x y

def isConst : Operand → Bool
  | .const _ => true
  | _ => false

def isNilIface : V → Bool
  | .nilIface => true
  | _ => false

def binAt (E : Env) (op : BinOp) (t : TypeId) (x y : Operand) (a b : V) : Q OR :=
  bif and (and (isNilIface a) (isNilIface b)) (not (or (isConst x) (isConst y))) then .fail "binOp: two nils" else .val "binOp" (binOf E op t a b)

def unOf (op : UnOp) (x : V) : Option V :=
  match x with
  | .int k n => (match op with
    | .neg => some (.int k (k.wrap (0 - n)))
    | .xor => some (.int k (k.wrap (BitVec.ofInt k.bits (if k.signed then -1 else k.max) ^^^ BitVec.ofInt k.bits n).toNat))
    | _ => none)
  | .bool b => (match op with
    | .not => some (.bool (not b))
    | _ => none)
  | _ => none

def bytesOf : List V → Option (List UInt8)
  | [] => some []
  | .int .u8 n :: l => (match bytesOf l with
    | some m => some (UInt8.ofNat n.toNat :: m)
    | none => none)
  | _ :: _ => none

def byteCells : List UInt8 → List V
  | [] => []
  | b :: l => .int .u8 (.ofNat b.toNat) :: byteCells l

def isU8 : Option TypeDesc → Bool
  | some (.int .u8) => true
  | _ => false

def convOf (E : Env) (src dst : TypeId) (x : V) : Q OR :=
  match E.desc dst with
  | some (.int k) => (match x with
    | .int _ n => (match E.desc src with
      | some _ => retV (.int k (wrapQ k n))
      | none => .fail "convert")
    | _ => .fail "convert: int")
  | some .string => (match x with
    | .str l => (match E.desc src with
      | some _ => retV (.str l)
      | none => .fail "convert")
    | .slice a len _ => (match E.desc src with
      | some (.slice e) => bif isU8 (E.desc e) then (match a with
        | none => retV (.str [])
        | some (id, off) => .rd id fun o => match o with
          | .cells cs _ _ => (match takeN len (dropN off cs) with
            | some l => (match bytesOf l with
              | some l => retV (.str l)
              | none => .fail "convert: bytes")
            | none => .fail "convert: cells")
          | _ => .fail "convert: object") else .fail "convert: no bytes"
      | _ => .fail "convert: slice")
    | _ => .fail "convert: string")
  | some (.slice e) => (match x with
    | .str l => (match E.desc src with
      | some .string => bif isU8 (E.desc e) then (match l with
        | [] => .fail "convert: no bytes"
        | b :: l => .new (.cells (byteCells (b :: l)) 1 false) fun id => retV (.slice (some (id, 0)) (Nat.succ l.length) (.opn 0))) else .fail "convert: to what"
      | _ => .fail "convert: to bytes")
    | _ => .fail "convert: from what")
  | _ => .fail "convert"

/-! ## aggregates -/
def fillV (place : Nat → Option (Nat × Nat)) : List (Nat × V) → List V → Option (List V)
  | [] => fun cells => some cells
  | (i, v) :: rest => fun cells =>
    match place i with
    | none => none
    | some (off, size) => bif Nat.beq v.cells.length size then (match splice off cells v.cells with
      | some cs => fillV place rest cs
      | none => none) else none

def placeOfField (E : Env) (fields : List Field) (i : Nat) : Option (Nat × Nat) :=
  match fields[i]? with
  | some f => (match E.ty f.type with
    | some tf => some (f.offset, tf.size)
    | none => none)
  | none => none

/-- are all fields' types known? -/
def knownFs (E : Env) : List Field → Bool
  | [] => true
  | f :: fs => match E.ty f.type with
    | some _ => knownFs E fs
    | none => false

def elemPlace (size : Nat) (i : Nat) : Option (Nat × Nat) := some (i * size, size)

def aggOpt : Option (List V) → Option V
  | some l => some (.agg l)
  | none => none

def buildOf (E : Env) (t : TypeId) (parts : List (Nat × V)) : Option V :=
  match E.ty t with
  | some ti => (match ti.d with
    | .struct fields => bif knownFs E fields.toList then aggOpt (fillV (placeOfField E fields.toList) parts ti.zero) else none
    | .array _ e => (match E.ty e with
      | some te => aggOpt (fillV (elemPlace te.size) parts ti.zero)
      | none => none)
    | _ => none)
  | none => none

def fieldAddrOf (E : Env) (t : TypeId) (a : V) (f : Nat) : Option V :=
  match a with
  | .ptr (some (id, off)) => (match E.desc t with
    | some (.struct fields) => (match fields.toList[f]? with
      | some fd => (match E.ty fd.type with
        | some tf => bif Nat.beq tf.size 0 then none else some (.ptr (some (id, off + fd.offset)))
        | none => none)
      | none => none)
    | _ => none)
  | _ => none

def fieldOf (E : Env) (t : TypeId) (x : V) (f : Nat) : Option V :=
  match x with
  | .agg cs => (match E.desc t with
    | some (.struct fields) => (match fields.toList[f]? with
      | some fd => partV E fd.type cs fd.offset
      | none => none)
    | _ => none)
  | _ => none

/-- a number from 0 on below a bound -/
def inside (i : Int) (n : Nat) : Option Nat :=
  match i with
  | .ofNat m => bif Nat.ble (Nat.succ m) n then some m else none
  | .negSucc _ => none

def indexAddrOf (E : Env) (t : TypeId) (x ix : V) : Option V :=
  match ix with
  | .int _ i => (match x with
    | .ptr (some (id, off)) => (match E.desc t with
      | some (.array len e) => (match E.ty e with
        | some te => (match inside i len with
          | some m => some (.ptr (some (id, off + m * te.size)))
          | none => none)
        | none => none)
      | _ => none)
    | .slice (some (id, off)) len _ => (match E.desc t with
      | some (.slice e) => (match E.ty e with
        | some te => (match inside i len with
          | some m => some (.ptr (some (id, off + m * te.size)))
          | none => none)
        | none => none)
      | _ => none)
    | _ => none)
  | _ => none

def indexOf (E : Env) (t : TypeId) (x ix : V) : Option V :=
  match ix with
  | .int _ i => (match x with
    | .agg cs => (match E.desc t with
      | some (.array len e) => (match E.ty e with
        | some te => (match inside i len with
          | some m => partOf te.agg te.size (dropN (m * te.size) cs)
          | none => none)
        | none => none)
      | _ => none)
    | .str l => (match E.desc t with
      | some .string => (match inside i l.length with
        | some m => (match l[m]? with
          | some b => some (.int .u8 (.ofNat b.toNat))
          | none => none)
        | none => none)
      | _ => none)
    | _ => none)
  | _ => none

/-- a bound of a slice expression: from 0 to 'most' -/
def boundOf (x : Option V) (dflt most : Nat) : Option Nat :=
  match x with
  | none => some dflt
  | some (.int _ (.ofNat m)) => bif Nat.ble m most then some m else none
  | some _ => none

def bothOr : Option V → Option V → Bool
  | some _, none => false
  | _, _ => true

def bounds3 (lo hi mx : Option V) (len cap : Nat) : Option (Nat × Nat × Nat) :=
  match boundOf mx cap cap with
  | none => none
  | some m => bif not (bothOr mx hi) then none else match boundOf hi len m with
    | none => none
    | some h => match boundOf lo 0 h with
      | none => none
      | some l => some (l, h, m)

def sub3 (id off size : Nat) : Option (Nat × Nat × Nat) → Q OR
  | none => .fail "slice: bounds"
  | some (l, h, m) => retV (.slice (some (id, bif Nat.beq m l then off else off + l * size)) (h - l) (.exact (m - l)))

def sliceStr (lo hi mx : Option V) (l : List UInt8) : Q OR :=
  match mx with
  | some _ => .fail "slice: string"
  | none => match bounds3 lo hi none l.length l.length with
    | none => .fail "slice: bounds"
    | some (a, b, _) => retV (.str ((l.take b).drop a))

def sliceSl (E : Env) (e : TypeId) (a : Option (Nat × Nat)) (len : Nat) (cap : Cap) (lo hi mx : Option V) : Q OR :=
  match a with
  | none => (match E.ty e with
    | none => .fail "slice"
    | some _ => (match cap with
      | .exact c => (match bounds3 lo hi mx len c with
        | some (l, h, m) => retV (.slice none (h - l) (.exact (m - l)))
        | none => .fail "slice: bounds")
      | _ => .fail "slice: nil"))
  | some (id, off) => (match E.ty e with
    | none => .fail "slice"
    | some te => (match cap with
      | .exact c => sub3 id off te.size (bounds3 lo hi mx len c)
      | .opn skip => .rd id fun o => match o with
        | .cells cs opn _ =>
          bif or (Nat.beq te.size 0) (not (and (Nat.beq opn te.size) (Nat.beq off (skip * te.size)))) then .fail "slice: size" else
          (match mx with
          | some _ => sub3 id off te.size (bounds3 lo hi mx len ((cs.length - off) / te.size))
          | none => match bounds3 lo hi none len ((cs.length - off) / te.size) with
            | some (l, h, m) => bif Nat.ble m l then (bif Nat.ble h l then retV .esl else .fail "slice: at an open end") else retV (.slice (some (id, off + l * te.size)) (h - l) (.opn (skip + l)))
            | none => .fail "slice: bounds")
        | _ => .fail "slice: object"))

def sliceArr (E : Env) (t : TypeId) (id off : Nat) (lo hi mx : Option V) : Q OR :=
  match E.desc t with
  | some (.array n e) => (match E.ty e with
    | some te => sub3 id off te.size (bounds3 lo hi mx n n)
    | none => .fail "slice")
  | _ => .fail "slice: array"

def sliceOf (E : Env) (t : TypeId) (x : V) (lo hi mx : Option V) : Q OR :=
  match x with
  | .str l => (match E.desc t with
    | some .string => sliceStr lo hi mx l
    | _ => .fail "slice: string")
  | .slice a len cap => (match E.desc t with
    | some (.slice e) => sliceSl E e a len cap lo hi mx
    | _ => .fail "slice: slice")
  | .ptr (some (id, off)) => (match E.desc t with
    | some (.array _ _) => sliceArr E t id off lo hi mx
    | some (.pointer arr) => sliceArr E arr id off lo hi mx
    | _ => .fail "slice: array")
  | _ => .fail "slice: kind"

/-! ## maps -/
/-- cells that are numbers, bools, strings alone: are they the same? -/
def eqFlat : List V → List V → Option Bool
  | [] => fun | [] => some true | _ => none
  | x :: xs => fun
    | [] => none
    | y :: ys => (match eqFlat xs ys with
      | none => none
      | some b => match x with
        | .int _ _ => (match eqInt x y with | some c => some (and c b) | none => none)
        | .bool _ => (match eqBool x y with | some c => some (and c b) | none => none)
        | .str _ => (match eqStr x y with | some c => some (and c b) | none => none)
        | _ => none)

def isIntV : V → Bool
  | .int _ _ => true
  | _ => false

def allInt : List V → Bool
  | [] => true
  | v :: l => bif isIntV v then allInt l else false

def isIntT : Option TypeDesc → Bool
  | some (.int _) => true
  | _ => false

def intFields (E : Env) : List Field → Bool
  | [] => true
  | f :: fs => bif isIntT (E.desc f.type) then intFields E fs else false

/-- both say so -/
def eqBoth (a b : Option Bool) : Option Bool :=
  match a with
  | some x => (match b with
    | some y => bif x == y then some x else none
    | none => none)
  | none => none

/-- structs of whole numbers as keys -/
def keyEqS (E : Env) (kt : TypeId) : V → V → Option Bool
  | .agg xs => fun
    | .agg ys => bif and (allInt xs) (allInt ys) then eqBoth (eqV E 90 kt (.agg xs) (.agg ys)) (eqFlat xs ys) else none
    | _ => none
  | _ => fun _ => none

/-- are two keys of a map the same? -/
def keyEq (E : Env) (kt : TypeId) : V → V → Option Bool :=
  match E.desc kt with
  | some (.int _) => eqInt
  | some .string => eqStr
  | some .bool => eqBool
  | some (.struct fs) => bif intFields E fs.toList then keyEqS E kt else fun _ _ => none
  | _ => fun _ _ => none

/-- may a value be a key? (numbers, bools, strings; structs of them) -/
def keyOk (E : Env) (kt : TypeId) (x : V) : Bool :=
  match keyEq E kt x x with
  | some b => b
  | none => false

def findV (eq : V → Option Bool) : List (V × V × Nat) → Option (Option (V × Nat))
  | [] => some none
  | (k', v, b) :: es =>
    match eq k' with
    | some true => some (some (v, b))
    | some false => findV eq es
    | none => none

def setV (eq : V → Option Bool) (k v : V) (clock : Nat) : List (V × V × Nat) → Option (List (V × V × Nat) × Nat)
  | [] => some ([(k, v, clock)], Nat.succ clock)
  | (k', v', b) :: es =>
    match eq k' with
    | some true => some ((k, v, b) :: es, clock)
    | some false => (match setV eq k v clock es with
      | some (l, c) => some ((k', v', b) :: l, c)
      | none => none)
    | none => none

def zeroOf (te : TI) : V := bif te.agg then .agg te.zero else match te.zero with
  | z :: _ => z
  | [] => undefV

def okV (ok : Bool) (v : V) (is : Bool) : V := bif ok then .tuple [v, .bool is] else v

/-- are keys numbers, bools or strings? -/
def plainKey : Option TypeDesc → Bool
  | some (.int _) => true
  | some .string => true
  | some .bool => true
  | _ => false

def lookupIn (E : Env) (kt : TypeId) (te : TI) (k : V) (ok : Bool) : Ob → Q OR
  | .map es _ ord => bif or ord (plainKey (E.desc kt)) then (match findV (keyEq E kt k) es with
    | some (some (v, _)) => retV (okV ok v true)
    | some none => retV (okV ok (zeroOf te) false)
    | none => .fail "lookup: key") else .fail "lookup: unordered"
  | _ => .fail "lookup: object"

def lookupAt (E : Env) (t : TypeId) (x k : V) (ok : Bool) : Q OR :=
  match E.desc t with
  | some (.map kt et) => (match E.ty et with
    | none => .fail "lookup"
    | some te => bif keyOk E kt k then (match x with
      | .map none => retV (okV ok (zeroOf te) false)
      | .map (some r) => .rd r (lookupIn E kt te k ok)
      | _ => .fail "lookup: map") else .fail "lookup: key")
  | _ => .fail "lookup: type"

def mapSetIn (E : Env) (kt : TypeId) (r : Nat) (k v : V) : Ob → Q OR
  | .map es clock true => (match setV (keyEq E kt k) k v clock es with
    | some (es', clock') => .wr r (.map es' clock' true) (retV undefV)
    | none => .fail "mapUpdate: key")
  | _ => .fail "mapUpdate: object"

def noEntry : List (V × V × Nat) → Bool
  | [] => true
  | _ :: _ => false

def atMost1 : List (V × V × Nat) → Bool
  | [] => true
  | _ :: l => noEntry l

/-- an entry of a literal: a key that is not there yet -/
def insertIn (E : Env) (kt : TypeId) (r : Nat) (k v : V) : Ob → Q OR
  | .map es clock ord => bif and ord (not (atMost1 es)) then .fail "insert: order" else (match findV (keyEq E kt k) es with
    | some none => .wr r (.map (es ++ [(k, v, clock)]) (Nat.succ clock) (and ord (noEntry es))) (retV undefV)
    | _ => .fail "insert: key")
  | _ => .fail "insert: object"

def insertAt (E : Env) (t : TypeId) (x k v : V) : Q OR :=
  match x with
  | .map (some r) => (match E.desc t with
    | some (.map kt _) => bif and (plainKey (E.desc kt)) (keyOk E kt k) then .rd r (insertIn E kt r k v) else .fail "insert: key"
    | _ => .fail "insert: type")
  | _ => .fail "insert: map"

def mapSetAt (E : Env) (t : TypeId) (x k v : V) : Q OR :=
  match x with
  | .map (some r) => (match E.desc t with
    | some (.map kt _) => bif keyOk E kt k then .rd r (mapSetIn E kt r k v) else .fail "mapUpdate: key"
    | _ => .fail "mapUpdate: type")
  | _ => .fail "mapUpdate: map"

def mapEntryIn (E : Env) (kt : TypeId) (te : TI) (r : Nat) (k : V) : Ob → Q OR
  | .map es clock true => (match findV (keyEq E kt k) es with
    | some (some (v, b)) => retV (.tuple [v, .int .i64 (.ofNat b)])
    | some none => .wr r (.map (es ++ [(k, zeroOf te, clock)]) (Nat.succ clock) true) (retV (.tuple [zeroOf te, .int .i64 (.ofNat clock)]))
    | none => .fail "mapEntry: key")
  | _ => .fail "mapEntry: object"

/-- '(value, stamp)' of a key, made if it is not there -/
def mapEntryAt (E : Env) (t : TypeId) (x k : V) : Q OR :=
  match x with
  | .map (some r) => (match E.desc t with
    | some (.map kt et) => (match E.ty et with
      | some te => bif keyOk E kt k then .rd r (mapEntryIn E kt te r k) else .fail "mapEntry: key"
      | none => .fail "mapEntry")
    | _ => .fail "mapEntry: type")
  | _ => .fail "mapEntry: map"

def bornSet (b : Nat) (v : V) : List (V × V × Nat) → Option (List (V × V × Nat))
  | [] => none
  | (k, w, c) :: es => bif Nat.beq c b then some ((k, v, c) :: es) else (match bornSet b v es with
    | some l => some ((k, w, c) :: l)
    | none => none)

def entryStoreIn (r b : Nat) (v : V) : Ob → Q OR
  | .map es clock true => (match bornSet b v es with
    | some es' => .wr r (.map es' clock true) (retV undefV)
    | none => .fail "entryStore: gone")
  | _ => .fail "entryStore: object"

def entryStoreAt (x st v : V) : Q OR :=
  match x with
  | .map (some r) => (match st with
    | .int _ (.ofNat b) => .rd r (entryStoreIn r b v)
    | _ => .fail "entryStore: stamp")
  | _ => .fail "entryStore: map"

def rangeAt (E : Env) (t : TypeId) (x : V) : Q OR :=
  match E.desc t with
  | some (.map _ _) => (match x with
    | .map none => .new (.mapIter none 0 [] 0) fun id => retV (.ptr (some (id, 0)))
    | .map (some m) => .rd m fun o => match o with
      | .map _ clock true => .new (.mapIter (some m) clock [] clock) fun id => retV (.ptr (some (id, 0)))
      | _ => .fail "range: object"
    | _ => .fail "range: map")
  | _ => .fail "range: type"

def overV : V := .tuple [.bool false]

/-- is a number among some? -/
def seenN (n : Nat) : List Nat → Bool
  | [] => false
  | m :: l => bif Nat.beq m n then true else seenN n l

/-- no entry is newer than the range -/
def allOld (since : Nat) : List (V × V × Nat) → Bool
  | [] => true
  | e :: es => bif Nat.ble (Nat.succ e.2.2) since then allOld since es else false

/-- one of them was there at the last step -/
def wasThere (last : Nat) : List (V × V × Nat) → Bool
  | [] => false
  | e :: _ => Nat.ble (Nat.succ e.2.2) last

def leftOf (seen : List Nat) : List (V × V × Nat) → List (V × V × Nat)
  | [] => []
  | e :: es => bif seenN e.2.2 seen then leftOf seen es else e :: leftOf seen es

def takeEnt (r m since clock : Nat) (seen : List Nat) (e : V × V × Nat) : Q OR :=
  .wr r (.mapIter (some m) since (seen ++ [e.2.2]) clock) (retV (.tuple [.bool true, e.1, e.2.1]))

/-- the entry of a number, or the last one -/
def pickAt : List (V × V × Nat) → Nat → Option (V × V × Nat)
  | [], _ => none
  | e :: l, n => match l with
    | [] => some e
    | _ :: _ => match n with
      | 0 => some e
      | k + 1 => pickAt l k

/-- one of several, as the oracle says -/
def pickEnt (E : Env) (r m since clock : Nat) (seen : List Nat) (left : List (V × V × Nat)) : Q OR :=
  match E.oid with
  | none => .fail "next: no oracle"
  | some i => .rd i fun o => match o with
    | .cnt c => (match pickAt left (E.orc c) with
      | some e => .wr i (.cnt (Nat.succ c)) (takeEnt r m since clock seen e)
      | none => .fail "next: oracle")
    | _ => .fail "next: no counter"

def nextMany (E : Env) (r m since : Nat) (seen : List Nat) (last clock : Nat) (es : List (V × V × Nat)) : Q OR :=
  bif and (allOld since es) (wasThere last es) then (match leftOf seen es with
    | [] => retV overV
    | e :: l => match l with
      | [] => takeEnt r m since clock seen e
      | _ :: _ => pickEnt E r m since clock seen (e :: l)) else .fail "next: new entries"

/-- a map of at most one entry goes in one order -/
def nextIn (E : Env) (r m since : Nat) (seen : List Nat) (last : Nat) : Ob → Q OR
  | .map es clock true => (match es with
    | [] => retV overV
    | (k, v, b) :: es => (match es with
      | [] => (match seen with
        | [] => bif Nat.ble (Nat.succ b) since then .wr r (.mapIter (some m) since [b] clock) (retV (.tuple [.bool true, k, v])) else .fail "next: new"
        | b' :: more => (match more with
          | [] => bif and (Nat.beq b b') (Nat.ble (Nat.succ b) last) then retV overV else .fail "next: another one"
          | _ :: _ => .fail "next: seen"))
      | e :: es => nextMany E r m since seen last clock ((k, v, b) :: e :: es)))
  | _ => .fail "next: map"

def nextAt (E : Env) (it : V) (isString : Bool) : Q OR :=
  match it with
  | .ptr (some (r, 0)) => bif isString then .fail "next: string" else .rd r fun o => match o with
    | .mapIter none _ _ _ => retV overV
    | .mapIter (some m) since seen last => .rd m (nextIn E r m since seen last)
    | _ => .fail "next: object"
  | _ => .fail "next"

def bornFind (b : Nat) : List (V × V × Nat) → Option V
  | [] => none
  | (k, w, c) :: es => bif Nat.beq c b then some (.tuple [k, w]) else bornFind b es

def lastN : List Nat → Option Nat
  | [] => none
  | b :: l => match l with
    | [] => some b
    | _ :: _ => lastN l

def entryAt (it : V) : Q OR :=
  match it with
  | .ptr (some (r, 0)) => .rd r fun o => match o with
    | .mapIter (some m) _ seen st => .rd m fun o => match o with
      | .map es clock true => bif Nat.beq clock st then (match lastN seen with
        | some b => .val "entry: gone" (bornFind b es)
        | none => .fail "entry: no step") else .fail "entry: clock"
      | _ => .fail "entry: map"
    | _ => .fail "entry: object"
  | _ => .fail "entry"

/-! ## builtins -/
def lenAt (E : Env) (t : TypeId) (x : V) : Q OR :=
  match E.desc t with
  | some .string => (match x with
    | .str l => retV (.int .i64 (.ofNat l.length))
    | _ => .fail "len: string")
  | some (.array n _) => retV (.int .i64 (.ofNat n))
  | some (.pointer a) => (match E.desc a with
    | some (.array n _) => retV (.int .i64 (.ofNat n))
    | _ => .fail "len: pointer")
  | some (.slice _) => (match x with
    | .slice _ n _ => retV (.int .i64 (.ofNat n))
    | .esl => retV (.int .i64 (.ofNat 0))
    | _ => .fail "len: slice")
  | some (.map _ _) => (match x with
    | .map none => retV (.int .i64 0)
    | .map (some r) => .rd r fun o => match o with
      | .map es _ _ => retV (.int .i64 (.ofNat es.length))
      | _ => .fail "len: object"
    | _ => .fail "len: map")
  | _ => .fail "len"

def capAt (E : Env) (t : TypeId) (x : V) : Q OR :=
  match E.desc t with
  | some (.slice _) => (match x with
    | .slice _ _ (.exact n) => retV (.int .i64 (.ofNat n))
    | _ => .fail "cap: open")
  | some (.array n _) => retV (.int .i64 (.ofNat n))
  | _ => .fail "cap"

/-- the first 'n' elements of what is appended or copied -/
def srcOf (size n : Nat) (x : V) (k : List V → Q OR) : Q OR :=
  match x with
  | .slice none _ _ => bif Nat.beq n 0 then k [] else .fail "elements: nil"
  | .esl => bif Nat.beq n 0 then k [] else .fail "elements: nil"
  | .slice (some (id, off)) _ _ => .rd id fun o => match o with
    | .cells cs _ _ => (match takeN (n * size) (dropN off cs) with
      | some l => k l
      | none => .fail "elements: cells")
    | _ => .fail "elements: object"
  | .str l => bif and (Nat.beq size 1) (Nat.ble n l.length) then k (byteCells (l.take n)) else .fail "elements: string"
  | _ => .fail "elements"

def lenOf : V → Option Nat
  | .slice _ n _ => some n
  | .esl => some 0
  | .str l => some l.length
  | _ => none

def roomOk (n bytes : Nat) : Bool := Nat.ble (n * Nat.succ bytes) 4294967296

def appendNew (size : Nat) (old new : List V) (need : Nat) : Q OR :=
  .new (.cells (old ++ new) size false) fun id => retV (.slice (some (id, 0)) need (.opn 0))

/-- 'n' elements (n is not 0) behind a slice -/
def appendOn (size : Nat) (a : Option (Nat × Nat)) (len : Nat) (cap : Cap) (n : Nat) (new : List V) : Q OR :=
  match a with
  | none => (match cap with
    | .exact 0 => bif Nat.beq len 0 then appendNew size [] new n else .fail "append: nil"
    | _ => .fail "append: nil")
  | some (id, off) => .rd id fun o => match o with
    | .cells cs opn ro => (match cap with
      | .exact c => bif Nat.ble (len + n) c then
          (bif ro then .fail "append: not to be written" else match splice (off + len * size) cs new with
            | some cs' => .wr id (.cells cs' opn ro) (retV (.slice (some (id, off)) (len + n) (.exact c)))
            | none => .fail "append: cells")
        else (match takeN (len * size) (dropN off cs) with
          | some old => appendNew size old new (len + n)
          | none => .fail "append: old cells")
      | .opn skip => bif ro then .fail "append: not to be written" else match splice (off + len * size) cs new with
        | some cs' => bif not (and (Nat.beq opn size) (Nat.beq off (skip * size))) then .fail "append: end" else .wr id (.cells cs' opn ro) (retV (.slice (some (id, off)) (len + n) (.opn skip)))
        | none => bif and (Nat.ble 1 (len + n)) (and (Nat.beq opn size) (Nat.beq off (skip * size))) then (match takeN (len * size) (dropN off cs) with
          | some old => .kill id (appendNew size old new (len + n))
          | none => .fail "append: old cells") else .fail "append: end")
    | _ => .fail "append: object"

/-- nothing comes, and the end is known -/
def noMore (n len : Nat) : Cap → Bool
  | .exact c => and (Nat.beq n 0) (Nat.ble len c)
  | .opn _ => false

def appendAt (te : TI) (a : Option (Nat × Nat)) (len : Nat) (cap : Cap) (n : Nat) (new : List V) : Q OR :=
  bif roomOk (len + n) te.bytes then
    (bif noMore n len cap then retV (.slice a len cap) else bif allCells new then (bif Nat.beq te.size 0 then .fail "append: size" else appendOn te.size a len cap n new) else .fail "append: no cell's value")
  else .fail "append: room"

def isIntD : Option TypeDesc → Bool
  | some (.int _) => true
  | _ => false

def builtinAppend (E : Env) (ts : TypeId) (tx : Option TypeId) (x y : V) : Q OR :=
  match x with
  | .slice a len cap => (match E.desc ts with
    | some (.slice e) => (match E.ty e with
      | none => .fail "append: type"
      | some te => (match tx with
        | some t => bif isIntD (E.desc t) then (match y with
            | .int _ (.ofNat n) => bif Nat.ble n 1048576 then appendAt te a len cap n (repl n te.zero) else .fail "append: make"
            | _ => .fail "append: make")
          else (match E.desc t with
            | none => .fail "append: type"
            | some _ => (match lenOf y with
              | none => .fail "append: what"
              | some n => srcOf te.size n y (appendAt te a len cap n)))
        | none => .fail "append: types"))
    | _ => .fail "append: slice")
  | _ => .fail "append"

def builtinCopy (E : Env) (td : TypeId) (x y : V) : Q OR :=
  match x with
  | .slice a len _ => (match E.desc td with
    | some (.slice e) => (match E.ty e with
      | none => .fail "copy: type"
      | some te => (match lenOf y with
        | none => .fail "copy: what"
        | some m => srcOf te.size (Nat.min m len) y fun new => (match a with
          | none => retV (.int .i64 (.ofNat (Nat.min m len)))
          | some (id, off) => putCells id off new (.int .i64 (.ofNat (Nat.min m len))))))
    | _ => .fail "copy: slice")
  | _ => .fail "copy"

def minI (a b : V) : Option V :=
  match a with
  | .int k x => (match b with | .int _ y => some (.int k (bif ltI y x then y else x)) | _ => none)
  | _ => none
def maxI (a b : V) : Option V :=
  match a with
  | .int k x => (match b with | .int _ y => some (.int k (bif ltI x y then y else x)) | _ => none)
  | _ => none
def foldV (f : V → V → Option V) : List V → V → Option V
  | [] => fun x => some x
  | y :: l => fun x => match f x y with
    | some z => foldV f l z
    | none => none

def makeSliceOf (E : Env) (t : TypeId) (l c : V) : Q OR :=
  match E.desc t with
  | some (.slice e) => (match E.ty e with
    | some te => (match l with
      | .int _ (.ofNat l) => (match c with
        | .int _ (.ofNat c) => bif and (Nat.ble l c) (and (Nat.ble c 4294967296) (roomOk c te.bytes)) then
            .new (.cells (repl c te.zero) 0 false) fun id => retV (.slice (some (id, 0)) l (.exact c))
          else .fail "makeSlice: bounds"
        | _ => .fail "makeSlice")
      | _ => .fail "makeSlice")
    | none => .fail "makeSlice: type")
  | _ => .fail "makeSlice"

def buildSliceOf (E : Env) (t : TypeId) (len : Nat) (parts : List (Nat × V)) : Q OR :=
  match E.desc t with
  | some (.slice e) => (match E.ty e with
    | some te => bif Nat.ble (len * te.size) 65536 then
        (match fillV (elemPlace te.size) parts (repl len te.zero) with
        | some cells => .new (.cells cells 0 false) fun id => retV (.slice (some (id, 0)) len (.exact len))
        | none => .fail "buildSlice: parts")
      else .fail "buildSlice: size"
    | none => .fail "buildSlice: type")
  | _ => .fail "buildSlice"

def isIface : TypeDesc → Bool
  | .interface _ => true
  | _ => false

def assertOf (E : Env) (x : V) (asserted : TypeId) (ok : Bool) : Option V :=
  match E.ty asserted with
  | some ti => bif isIface ti.d then none else (match x with
    | .nilIface => bif ok then some (okV true (zeroOf ti) false) else none
    | .iface t v => bif Nat.beq t asserted then some (okV ok v true) else bif ok then some (okV true (zeroOf ti) false) else none
    | _ => none)
  | none => none

def panicOf (x : V) : Q OR :=
  match x with
  | .iface t v => .ret (.pan (.iface t v))
  | _ => .fail "panic"

def head1 (f : V → Q OR) : List V → Q OR
  | x :: _ => f x
  | [] => .fail "builtin: no argument"
def head2 (f : V → V → Q OR) : List V → Q OR
  | x :: l => (match l with
    | [y] => f x y
    | _ => .fail "builtin: two arguments")
  | [] => .fail "builtin: no argument"
def type1 (f : TypeId → List V → Q OR) : List TypeId → List V → Q OR
  | t :: _ => f t
  | [] => fun _ => .fail "builtin: no type"

def type2 : List TypeId → Option TypeId
  | _ :: t :: _ => some t
  | _ => none

def builtinOf : Builtin → Env → List TypeId → List V → Q OR
  | .len => fun E => type1 fun t => head1 (lenAt E t)
  | .cap => fun E => type1 fun t => head1 (capAt E t)
  | .append => fun E ts => type1 (fun t => head2 (builtinAppend E t (type2 ts))) ts
  | .copy => fun E => type1 fun t => head2 (builtinCopy E t)
  | .min => fun _ _ l => (match l with | x :: l => .val "min" (foldV minI l x) | [] => .fail "min")
  | .max => fun _ _ l => (match l with | x :: l => .val "max" (foldV maxI l x) | [] => .fail "max")
  | .panic => fun _ _ => head1 panicOf
  | .recover => fun _ _ _ => .ret .recover
  | _ => fun _ _ _ => .fail "builtin"

def clonedMap (t : TypeId) : Ob → Q OR
  | .map es clock ord => .new (.map es clock ord) fun id => retV (.iface t (.map (some id)))
  | _ => .fail "maps.clone: object"

/-- where a byte first stands -/
def idxOfB (m : Nat) : List UInt8 → Nat → Option Nat
  | [] => fun _ => none
  | b :: l => fun i => bif Nat.beq b.toNat m then some i else idxOfB m l (Nat.succ i)

def idxVal : Option Nat → V
  | some i => .int .i64 (.ofNat i)
  | none => .int .i64 (.negSucc 0)

/-- how often a byte stands there -/
def cntOfB (m : Nat) : List UInt8 → Nat → Nat
  | [] => fun n => n
  | b :: l => fun n => cntOfB m l (bif Nat.beq b.toNat m then Nat.succ n else n)

def byteCall (f : List UInt8 → Nat → V) : List V → Q OR
  | [.str s, .int .u8 (.ofNat m)] => bif Nat.ble m 255 then retV (f s m) else .fail "extern: byte"
  | _ => .fail "extern: string"

def extCall (k : XK) (f : FuncId) (args : List V) : Q OR :=
  match k with
  | .none => .ret (.call f args)
  | .noEscape => (match args with
    | [x] => retV x
    | _ => .fail "noEscape")
  | .mapsClone => (match args with
    | [.iface t (.map (some r))] => .rd r (clonedMap t)
    | _ => .fail "maps.clone")
  | .idxB => byteCall (fun s m => idxVal (idxOfB m s 0)) args
  | .cntB => byteCall (fun s m => .int .i64 (.ofNat (cntOfB m s 0))) args
  | .other => .fail "extern"

def callOf (E : Env) (f : V) (args : List V) : Q OR :=
  match f with
  | .func f first cap => extCall (E.ext f) f (first ++ (args ++ cap))
  | .yield l => .ret (.round l args)
  | _ => .fail "call: no function"

def deferOf (f : V) (args : List V) : Q OR :=
  match f with
  | .func f first cap => .ret (.defer (.call f (first ++ (args ++ cap))))
  | _ => .fail "defer"

/-! ## operations -/
def pairs : List (Nat × Operand) → Fr → List (Nat × V)
  | [] => fun _ => []
  | (i, x) :: l => fun fr => (i, opd x fr) :: pairs l fr

def optV : Option Operand → Fr → Option V
  | none => fun _ => none
  | some x => fun fr => some (opd x fr)

def pickOf (c a b : V) : Q OR :=
  match c with
  | .bool t => retV (bif t then a else b)
  | _ => .fail "pick"

def allocOf (E : Env) (e : TypeId) : Q OR :=
  match E.ty e with
  | some ti => .new (.cells ti.zero 0 false) fun id => retV (.ptr (some (id, 0)))
  | none => .fail "alloc"

def boxOf (v : V) : Q OR := .new (.cells v.cells 0 false) fun id => retV (.ptr (some (id, 0)))

def nilCheckOf (v : V) : Q OR :=
  match v with
  | .ptr (some a) => retV (.ptr (some a))
  | .func f a b => retV (.func f a b)
  | .yield l => retV (.yield l)
  | .slice a b c => retV (.slice a b c)
  | .map m => retV (.map m)
  | .iface t v => retV (.iface t v)
  | _ => .fail "nilCheck"

def ifaceOf (E : Env) (t : TypeId) (v : V) : Q OR :=
  match E.desc t with
  | some d => bif isIface d then .fail "makeInterface" else retV (.iface t v)
  | none => .fail "makeInterface: type"

def makeMapOf : Option Operand → Q OR
  | none => .new (.map [] 0 true) fun id => retV (.map (some id))
  | some _ => .fail "makeMap"

def extractOf (x : V) (i : Nat) : Q OR :=
  match x with
  | .tuple vs => .val "extract" vs[i]?
  | _ => .fail "extract"

def opMove (x : Operand) (_ : Env) (fr : Fr) : Q OR := retV (opd x fr)
def opPick (c a b : Operand) (_ : Env) (fr : Fr) : Q OR := pickOf (opd c fr) (opd a fr) (opd b fr)
def opAlloc (e : TypeId) (E : Env) (_ : Fr) : Q OR := allocOf E e
def opBox (x : Operand) (_ : Env) (fr : Fr) : Q OR := boxOf (opd x fr)
def opBuild (t : TypeId) (ps : Array (Nat × Operand)) (E : Env) (fr : Fr) : Q OR := .val "build" (buildOf E t (pairs ps.toList fr))
def opBuildSlice (t : TypeId) (n : Nat) (ps : Array (Nat × Operand)) (E : Env) (fr : Fr) : Q OR := buildSliceOf E t n (pairs ps.toList fr)
def opLoad (t : TypeId) (a : Operand) (E : Env) (fr : Fr) : Q OR := loadAt E t (opd a fr)
def opStore (t : TypeId) (a x : Operand) (E : Env) (fr : Fr) : Q OR := storeAt E t (opd a fr) (opd x fr)
def opNilCheck (x : Operand) (_ : Env) (fr : Fr) : Q OR := nilCheckOf (opd x fr)
def opBin (op : BinOp) (t : TypeId) (x y : Operand) (E : Env) (fr : Fr) : Q OR := binAt E op t x y (opd x fr) (opd y fr)
def opUn (op : UnOp) (x : Operand) (_ : Env) (fr : Fr) : Q OR := .val "unOp" (unOf op (opd x fr))
def opConvert (a b : TypeId) (x : Operand) (E : Env) (fr : Fr) : Q OR := convOf E a b (opd x fr)
def opIface (t : TypeId) (x : Operand) (E : Env) (fr : Fr) : Q OR := ifaceOf E t (opd x fr)
def opMakeFunc (fn : Fn) (first cap : Array Operand) (_ : Env) (fr : Fr) : Q OR :=
  match fn with
  | .func f => retV (.func f (opds first.toList fr) (opds cap.toList fr))
  | _ => .fail "makeFunc"
def opMakeSlice (t : TypeId) (l c : Operand) (E : Env) (fr : Fr) : Q OR := makeSliceOf E t (opd l fr) (opd c fr)
def opSlice (t : TypeId) (x : Operand) (lo hi mx : Option Operand) (E : Env) (fr : Fr) : Q OR := sliceOf E t (opd x fr) (optV lo fr) (optV hi fr) (optV mx fr)
def opFieldAddr (t : TypeId) (x : Operand) (f : Nat) (E : Env) (fr : Fr) : Q OR := .val "fieldAddr" (fieldAddrOf E t (opd x fr) f)
def opField (t : TypeId) (x : Operand) (f : Nat) (E : Env) (fr : Fr) : Q OR := .val "field" (fieldOf E t (opd x fr) f)
def opIndexAddr (t : TypeId) (x i : Operand) (E : Env) (fr : Fr) : Q OR := .val "indexAddr" (indexAddrOf E t (opd x fr) (opd i fr))
def opIndex (t : TypeId) (x i : Operand) (E : Env) (fr : Fr) : Q OR := .val "index" (indexOf E t (opd x fr) (opd i fr))
def opLookup (t : TypeId) (x k : Operand) (ok : Bool) (E : Env) (fr : Fr) : Q OR := lookupAt E t (opd x fr) (opd k fr) ok
def opMapUpdate (t : TypeId) (m k x : Operand) (E : Env) (fr : Fr) : Q OR := mapSetAt E t (opd m fr) (opd k fr) (opd x fr)
def opInsert (t : TypeId) (m k x : Operand) (E : Env) (fr : Fr) : Q OR := insertAt E t (opd m fr) (opd k fr) (opd x fr)
def opMapEntry (t : TypeId) (m k : Operand) (E : Env) (fr : Fr) : Q OR := mapEntryAt E t (opd m fr) (opd k fr)
def opEntryStore (m st x : Operand) (_ : Env) (fr : Fr) : Q OR := entryStoreAt (opd m fr) (opd st fr) (opd x fr)
def opRange (t : TypeId) (x : Operand) (E : Env) (fr : Fr) : Q OR := rangeAt E t (opd x fr)
def opNext (it : Operand) (str : Bool) (E : Env) (fr : Fr) : Q OR := nextAt E (opd it fr) str
def opEntry (it : Operand) (_ : Env) (fr : Fr) : Q OR := entryAt (opd it fr)
def opAssert (x : Operand) (t : TypeId) (ok : Bool) (E : Env) (fr : Fr) : Q OR := .val "typeAssert" (assertOf E (opd x fr) t ok)
def opExtract (t : Operand) (i : Nat) (_ : Env) (fr : Fr) : Q OR := extractOf (opd t fr) i
def opCall (c : Call) (E : Env) (fr : Fr) : Q OR :=
  match c.callee with
  | .value f => callOf E (opd f fr) (opds c.args.toList fr)
  | .builtin b => builtinOf b E c.argTypes.toList (opds c.args.toList fr)
  | .invoke _ _ => .fail "invoke"
def opDefer (c : Call) (_ : Env) (fr : Fr) : Q OR :=
  match c.callee with
  | .value f => deferOf (opd f fr) (opds c.args.toList fr)
  | _ => .fail "defer"
def opPanic (x : Operand) (_ : Env) (fr : Fr) : Q OR := panicOf (opd x fr)
def opNone (_ : Env) (_ : Fr) : Q OR := .fail "operation"

def exec : Op → Env → Fr → Q OR
  | .move x => opMove x
  | .assign x => opMove x
  | .pick c a b => opPick c a b
  | .alloc e => opAlloc e
  | .box _ x => opBox x
  | .build t ps => opBuild t ps
  | .buildSlice t n ps => opBuildSlice t n ps
  | .load t a => opLoad t a
  | .store t a x => opStore t a x
  | .nilCheck x => opNilCheck x
  | .binOp op t x y _ => opBin op t x y
  | .unOp op _ x => opUn op x
  | .convert a b x => opConvert a b x
  | .makeInterface t x => opIface t x
  | .makeFunc fn first cap => opMakeFunc fn first cap
  | .makeMap _ r => fun _ _ => makeMapOf r
  | .makeSlice t l c => opMakeSlice t l c
  | .slice t x lo hi mx => opSlice t x lo hi mx
  | .fieldAddr t x f => opFieldAddr t x f
  | .field t x f => opField t x f
  | .indexAddr t x i => opIndexAddr t x i
  | .index t x i => opIndex t x i
  | .lookup t x k ok => opLookup t x k ok
  | .mapUpdate t m k x => opMapUpdate t m k x
  | .insert t m k x => opInsert t m k x
  | .mapEntry t m k => opMapEntry t m k
  | .entryStore _ m st x => opEntryStore m st x
  | .range t x => opRange t x
  | .next it str => opNext it str
  | .entry it => opEntry it
  | .typeAssert x _ t ok => opAssert x t ok
  | .extract t i => opExtract t i
  | .call c => opCall c
  | .defer c => opDefer c
  | .panic x => opPanic x
  | _ => opNone

def boolIs : Option V → Bool → Bool
  | some (.bool c) => fun b => c == b
  | _ => fun _ => false

def guardOk (ops : List Oper) (fr : Fr) : Option (Nat × Bool) → Bool
  | none => true
  | some (j, b) => match ops[j]? with
    | some o => (match o.dst with
      | some d => boolIs (fr.tm.get d) b
      | none => false)
    | none => false

/-- surely not that bool -/
def notIs : V → Bool → Bool
  | .bool c => fun b => xor c b
  | .bad => fun _ => false
  | _ => fun _ => true

def guardNot (ops : List Oper) (fr : Fr) : Option (Nat × Bool) → Bool
  | none => false
  | some (j, b) => match ops[j]? with
    | some o => (match o.dst with
      | some d => notIs (tmV fr.tm d) b
      | none => true)
    | none => true

def putTm (nt : Nat) (t : Tr V) (d : Tmp) (v : V) : Tr V := bif Nat.ble (Nat.succ d) nt then t.put d (some v) else t

def setTm (cx : Cx) (fr : Fr) (v : V) : Option Tmp → Fr
  | none => fr
  | some d => ⟨putTm cx.nt fr.tm d v, fr.ds, fr.rc, fr.ng⟩

/-- one operation: the frame and state behind it, or a panic -/
inductive O1 where
  | go (fr : Fr) (s : S)
  | pan (v : V) (s : S)
  | fail (why : String)

def afterCall (cx : Cx) (fr : Fr) (dst : Option Tmp) : TR → O1
  | .ret v rc s => bif rc then .fail "call" else .go (setTm cx fr v dst) s
  | .pan v rc s => bif rc then .fail "call" else .pan v s
  | .fail w => .fail w
  | .code _ => .fail "call"

def recovered (cx : Cx) (fr : Fr) (dst : Option Tmp) (s : S) : O1 :=
  match cx.rd with
  | some _ => .fail "recover in a round"
  | none => (match cx.pk with
    | some v => bif fr.rc then .go (setTm cx fr .nilIface dst) s else .go (setTm cx ⟨fr.tm, fr.ds, true, fr.ng⟩ v dst) s
    | none => .go (setTm cx fr .nilIface dst) s)

def deferred (cx : Cx) (fr : Fr) (dst : Option Tmp) (d : D) (s : S) : O1 :=
  match cx.rd with
  | some _ => .fail "defer in a round"
  | none => .go (setTm cx ⟨fr.tm, d :: fr.ds, fr.rc, fr.ng⟩ undefV dst) s

def after (self : Self) (cx : Cx) (fr : Fr) (dst : Option Tmp) : OR → S → O1
  | .val v => fun s => .go (setTm cx fr v dst) s
  | .pan v => fun s => .pan v s
  | .defer d => fun s => deferred cx fr dst d s
  | .recover => fun s => recovered cx fr dst s
  | .call f args => fun s => afterCall cx fr dst (self (.call f args none) s)
  | .round l args => fun s => afterCall cx fr dst (self (.round l args) s)

def exec1 (E : Env) (self : Self) (cx : Cx) (ops : List Oper) (o : Oper) (fr : Fr) (s : S) : O1 :=
  bif guardOk ops fr o.guard then Q.run O1.fail (exec o.op E fr) s (after self cx fr o.dst)
  else bif guardNot ops fr o.guard then .go (setTm cx fr undefV o.dst) s else .fail "guard"

def evOps (E : Env) (self : Self) (cx : Cx) (ops : List Oper) : List Oper → Fr → S → R
  | [] => fun fr s => .ok .normal fr s
  | o :: l => fun fr s =>
    match exec1 E self cx ops o fr s with
    | .go fr s => evOps E self cx ops l fr s
    | .pan v s => .ok (.panic v) fr s
    | .fail why => .fail why

/-! ### a region whose order is drawn -/
/-- what an operation has touched: its number, where its own new numbers begin and end, the log -/
structure Seg where
  i : Nat
  lo : Nat
  hi : Nat
  lg : List (Nat × Bool)
  ins : Option Nat
  le : Option (Bool × Nat × Nat × V)
  deriving Inhabited

/-- what was there ahead of the operation -/
def oldOf (lo : Nat) : List (Nat × Bool) → List (Nat × Bool)
  | [] => []
  | (id, w) :: l => bif Nat.ble lo id then oldOf lo l else (id, w) :: oldOf lo l

def hits (id : Nat) : List (Nat × Bool) → Bool
  | [] => false
  | (i, _) :: l => bif Nat.beq i id then true else hits id l

/-- does one write what the other touches? -/
def clash : List (Nat × Bool) → List (Nat × Bool) → Bool
  | [] => fun _ => false
  | (id, w) :: l => fun m => bif and w (hits id m) then true else clash l m

def within (lo hi : Nat) : List (Nat × Bool) → Bool
  | [] => false
  | (id, _) :: l => bif and (Nat.ble lo id) (Nat.ble (Nat.succ id) hi) then true else within lo hi l

/-- two entries of one literal -/
def sameIns : Option Nat → Option Nat → Bool
  | none => fun _ => false
  | some r => fun
    | none => false
    | some r' => Nat.beq r r'

/-- two keys, just the same -/
def sameFlat : V → V → Bool
  | .int k n => fun
    | .int k' m => and (kindEq k k') (eqI n m)
    | _ => false
  | .str a => fun
    | .str b => eqB a b
    | _ => false
  | .bool a => fun
    | .bool b => a == b
    | _ => false
  | .agg xs => fun
    | .agg ys => and (allInt xs) (match eqFlat xs ys with
      | some b => b
      | none => false)
    | _ => false
  | _ => fun _ => false

/-- a look-up, and, later in the text, the same entry made -/
def lookEnt : Option (Bool × Nat × Nat × V) → Option (Bool × Nat × Nat × V) → Bool
  | some (true, t, r, k) => fun
    | some (false, t', r', k') => and (Nat.beq t t') (and (Nat.beq r r') (sameFlat k k'))
    | _ => false
  | _ => fun _ => false

/-- two operations of no order between them may change places -/
def apartOk (a b : Seg) : Bool :=
  or (or (sameIns a.ins b.ins) (lookEnt a.le b.le)) (not (or (within a.lo a.hi b.lg) (or (within b.lo b.hi a.lg) (or (clash a.lg b.lg) (clash b.lg a.lg)))))

/-- the map into which an operation has put an entry, and done nothing else -/
def insLg : List (Nat × Bool) → Option Nat
  | [(r, true), (r', false)] => bif Nat.beq r r' then some r else none
  | _ => none

def isInsert : Op → Bool
  | .insert _ _ _ _ => true
  | _ => false

def noDst : Option Tmp → Bool
  | none => true
  | some _ => false

/-- the map that was looked into, and nothing else -/
def lookLg : List (Nat × Bool) → Option Nat
  | [(r, false)] => some r
  | _ => none

def leMk (b : Bool) (t : Nat) (k : V) : Option Nat → Option (Bool × Nat × Nat × V)
  | some r => some (b, t, r, k)
  | none => none

def leOf (o : Oper) (fr : Fr) (lg : List (Nat × Bool)) : Option (Bool × Nat × Nat × V) :=
  match o.op with
  | .lookup t _ k ok => bif ok then none else leMk true t (opd k fr) (lookLg lg)
  | .mapEntry t _ k => leMk false t (opd k fr) (insLg lg)
  | _ => none

def insOf (o : Oper) (lg : List (Nat × Bool)) : Option Nat := bif and (isInsert o.op) (noDst o.dst) then insLg lg else none

/-- which ones come ahead of each in every order, as bits -/
def befores (after : List (List Nat)) : List Nat → List Nat
  | acc => match after with
    | [] => acc
    | es :: rest => befores rest (acc ++ [es.foldl (fun s j => Nat.lor s (Nat.lor (Nat.pow 2 j) (acc.getD j 0))) 0])

def bindsAny (e : Edge) : Bool :=
  match e.ground with
  | .textOnly _ => false
  | .gcOnly _ => false
  | _ => true

def edgesOf (o : Oper) : List Nat := (o.after.toList.filter bindsAny).map (·.on)

def beforeOf (ops : List Oper) : List Nat := befores (ops.map edgesOf) []

def ordered (bf : List Nat) (i j : Nat) : Bool := Nat.testBit (bf.getD j 0) i

def segOk (bf : List Nat) (b : Seg) : List Seg → Bool
  | [] => true
  | a :: l => bif or (ordered bf a.i b.i) (apartOk a b) then segOk bf b l else false

/-- the operands that an operation looks at -/
def opsOf : Op → List Operand
  | .move x => [x]
  | .assign x => [x]
  | .pick c a b => [c, a, b]
  | .box _ x => [x]
  | .build _ ps => ps.toList.map (·.2)
  | .buildSlice _ _ ps => ps.toList.map (·.2)
  | .load _ a => [a]
  | .store _ a x => [a, x]
  | .nilCheck x => [x]
  | .binOp _ _ x y _ => [x, y]
  | .unOp _ _ x => [x]
  | .convert _ _ x => [x]
  | .makeInterface _ x => [x]
  | .makeFunc _ first cap => first.toList ++ cap.toList
  | .makeSlice _ l c => [l, c]
  | .slice _ x lo hi mx => x :: (lo.toList ++ (hi.toList ++ mx.toList))
  | .fieldAddr _ x _ => [x]
  | .field _ x _ => [x]
  | .indexAddr _ x i => [x, i]
  | .index _ x i => [x, i]
  | .lookup _ x k _ => [x, k]
  | .mapUpdate _ m k x => [m, k, x]
  | .insert _ m k x => [m, k, x]
  | .mapEntry _ m k => [m, k]
  | .entryStore _ m st x => [m, st, x]
  | .range _ x => [x]
  | .next it _ => [it]
  | .entry it => [it]
  | .typeAssert x _ _ _ => [x]
  | .extract t _ => [t]
  | .panic x => [x]
  | .call c => (match c.callee with | .value f => [f] | _ => []) ++ c.args.toList
  | .defer c => (match c.callee with | .value f => [f] | _ => []) ++ c.args.toList
  | _ => []

def tmpsOf : List Operand → List Tmp
  | [] => []
  | x :: l => match x with
    | .tmp t => t :: tmpsOf l
    | _ => tmpsOf l

def optL : Option Tmp → List Tmp
  | none => []
  | some t => [t]

def guardTmp (ops : List Oper) : Option (Nat × Bool) → List Tmp
  | none => []
  | some (j, _) => match ops[j]? with
    | some o => optL o.dst
    | none => []

/-- the temporaries that an operation names -/
def namesOf (ops : List Oper) (o : Oper) : List Tmp := optL o.dst ++ (guardTmp ops o.guard ++ tmpsOf (opsOf o.op))

def hasN (n : Nat) : List Nat → Bool
  | [] => false
  | m :: l => bif Nat.beq m n then true else hasN n l

def notNamed : Option Tmp → List Tmp → Bool
  | none => fun _ => true
  | some t => fun l => not (hasN t l)

def apartT (ops : List Oper) (a b : Oper) : Bool := and (notNamed a.dst (namesOf ops b)) (notNamed b.dst (namesOf ops a))

/-- operation j against those ahead of it -/
def tempsAt (ops : List Oper) (bf : List Nat) (j : Nat) (o : Oper) : List Oper → Nat → Bool
  | [] => fun _ => true
  | a :: l => fun i => bif or (Nat.ble j i) (or (ordered bf i j) (apartT ops a o)) then tempsAt ops bf j o l (Nat.succ i) else false

def below (j : Nat) : List Nat → Bool
  | [] => true
  | i :: l => bif Nat.ble (Nat.succ i) j then below j l else false

def plainOp : Op → Bool
  | .defer _ => false
  | .call c => (match c.callee with
    | .builtin .recover => false
    | _ => true)
  | _ => true

/-- a region whose order may be drawn -/
def opsOk (ops : List Oper) (bf : List Nat) : List Oper → Nat → Bool
  | [] => fun _ => true
  | o :: l => fun j => bif and (plainOp o.op) (and (below j (edgesOf o)) (tempsAt ops bf j o ops 0)) then opsOk ops bf l (Nat.succ j) else false

/-- was there what was touched? -/
def aliveOk (h : Tr Ob) (lo : Nat) : List (Nat × Bool) → Bool
  | [] => true
  | (id, _) :: l => bif Nat.ble lo id then aliveOk h lo l else match h.get id with
    | some _ => aliveOk h lo l
    | none => false

/-- all segments, the last one ahead -/
def segsOk (bf : List Nat) : List Seg → Bool
  | [] => true
  | b :: l => bif segOk bf b l then segsOk bf l else false

def logs : List Seg → List (Nat × Bool) → List (Nat × Bool)
  | [] => fun acc => acc
  | b :: l => fun acc => b.lg ++ logs l acc

def consSeg (i lo hi : Nat) (lg : List (Nat × Bool)) (ins : Option Nat) (le : Option (Bool × Nat × Nat × V)) (segs : List Seg) : List Seg :=
  match lg with
  | [] => bif Nat.beq lo hi then segs else ⟨i, lo, hi, [], ins, le⟩ :: segs
  | e :: lg => ⟨i, lo, hi, e :: lg, ins, le⟩ :: segs

/-- is each other operation ahead of number i or behind it, in every order? -/
def fixedAt (bf : List Nat) (i : Nat) : Nat → Bool
  | 0 => true
  | j + 1 => bif or (Nat.beq j i) (or (ordered bf j i) (ordered bf i j)) then fixedAt bf i j else false

/-- neither defers nor recovers -/
def drawCx (cx : Cx) : Cx := ⟨cx.fn, cx.nt, some 0, cx.pk⟩

def evDraw (E : Env) (self : Self) (cx : Cx) (ops : List Oper) (n0 : Nat) (lg0 : List (Nat × Bool)) : List Oper → Nat → List Seg → Fr → S → R
  | [] => fun _ segs fr s => bif segsOk (beforeOf ops) segs then .ok .normal fr ⟨s.h, s.n, oldOf n0 (logs segs []) ++ lg0⟩ else .fail "region: an order that matters"
  | o :: l => fun i segs fr s =>
    match exec1 E self (drawCx cx) ops o fr ⟨s.h, s.n, []⟩ with
    | .go fr' s' => bif aliveOk s.h s.n s'.lg then evDraw E self cx ops n0 lg0 l (Nat.succ i) (consSeg i s.n s'.n s'.lg (insOf o s'.lg) (leOf o fr s'.lg) segs) fr' s' else .fail "region: not alive"
    | .pan v s' => bif and (fixedAt (beforeOf ops) i ops.length) (segsOk (beforeOf ops) segs) then .ok (.panic v) fr ⟨s'.h, s'.n, oldOf n0 (s'.lg ++ logs segs []) ++ lg0⟩ else .fail "region: a panic that may come ahead"
    | .fail why => .fail why

/-- the counter is older than the region -/
def oidOk : Option Nat → Nat → Bool
  | none => fun _ => true
  | some i => fun n => Nat.ble (Nat.succ i) n

def evRegion (ops : Array Oper) (draw : Bool) (E : Env) (self : Self) (cx : Cx) (fr : Fr) (s : S) : R :=
  bif draw then (bif and (oidOk E.oid s.n) (opsOk ops.toList (beforeOf ops.toList) ops.toList 0) then evDraw E self cx ops.toList s.n s.lg ops.toList 0 [] fr s else .fail "region: no drawn order") else evOps E self cx ops.toList ops.toList fr s

def evSeq (a b : Fr → S → R) (fr : Fr) (s : S) : R :=
  match a fr s with
  | .ok x fr s => (match x with
    | .normal => b fr s
    | x => .ok x fr s)
  | .fail w => .fail w

def evCond (c : Operand) (a b : Fr → S → R) (fr : Fr) (s : S) : R :=
  match opd c fr with
  | .bool t => bif t then a fr s else b fr s
  | _ => .fail "cond"

def evBlock (id : Nat) (c : Fr → S → R) (fr : Fr) (s : S) : R :=
  match c fr s with
  | .ok x fr s => (match x with
    | .exit i => bif Nat.beq i id then .ok .normal fr s else .ok (.exit i) fr s
    | x => .ok x fr s)
  | .fail w => .fail w

def asCode : TR → R
  | .code r => r
  | .fail w => .fail w
  | _ => .fail "code"

def jumpOf (fr : Fr) (s : S) : Option Code → R
  | none => .ok .normal fr s
  | some (.exit i) => .ok (.exit i) fr s
  | some (.goto i) => .ok (.goto i) fr s
  | some .ret => .ok .ret fr s
  | some _ => .fail "rangeFunc: jump"

def stateOk : LoopState → Bool
  | .busy => false
  | _ => true

/-- behind the iterator -/
def endLoop (l : Nat) (fr : Fr) (s : S) : Option Ob → R
  | some (.loop st pend fn tm nt ps asg body df) => bif stateOk st then jumpOf fr (s.wr l (some (.loop .exhausted pend fn tm nt ps asg body df))) pend else .fail "rangeFunc: busy"
  | _ => .fail "rangeFunc: loop"

def afterIter (l : Nat) (fr : Fr) : TR → R
  | .ret _ rc s => bif rc then .fail "rangeFunc" else endLoop l fr s (s.h.get l)
  | .pan v rc s => bif rc then .fail "rangeFunc" else .ok (.panic v) fr s
  | .fail w => .fail w
  | .code _ => .fail "rangeFunc"

def iterIn (self : Self) (ps : Array Tmp) (asg body : Code) (cx : Cx) (gf : FuncId) (first cap : List V) (df : Nat) (fr : Fr) (s : S) : R :=
  afterIter s.n fr (self (.call gf (first ++ (.yield s.n :: cap)) none) (s.new (.loop .ready none cx.fn fr.tm cx.nt ps.toList asg body df)))

def outerLoop (self : Self) (ps : Array Tmp) (asg body : Code) (cx : Cx) (gf : FuncId) (first cap : List V) (fr : Fr) (s : S) (r : Nat) : Option Ob → R
  | some (.loop _ _ _ _ _ _ _ _ df) => iterIn self ps asg body cx gf first cap df fr (s.rd r)
  | _ => .fail "rangeFunc: outer"

def isNoneX : XK → Bool
  | .none => true
  | _ => false

def evRange (f : Operand) (ps : Array Tmp) (asg body : Code) (E : Env) (self : Self) (cx : Cx) (fr : Fr) (s : S) : R :=
  match opd f fr with
  | .func gf first cap => bif isNoneX (E.ext gf) then (match cx.rd with
    | none => iterIn self ps asg body cx gf first cap s.n ⟨fr.tm, .mark s.n :: fr.ds, fr.rc, fr.ng⟩ (s.new .defd)
    | some r => outerLoop self ps asg body cx gf first cap fr s r (s.h.get r)) else .fail "rangeFunc: extern"
  | _ => .fail "rangeFunc: function"

def ev : Code → Env → Self → Cx → Fr → S → R
  | .skip => fun _ _ _ fr s => .ok .normal fr s
  | .region _ ops draw => evRegion ops draw
  | .seq a b => fun E self cx => evSeq (ev a E self cx) (ev b E self cx)
  | .cond c a b => fun E self cx => evCond c (ev a E self cx) (ev b E self cx)
  | .block id c => fun E self cx => evBlock id (ev c E self cx)
  | .loop c => fun _ self cx fr s => asCode (self (.loop cx c fr) s)
  | .rangeFunc f ps asg body => evRange f ps asg body
  | .exit id => fun _ _ _ fr s => .ok (.exit id) fr s
  | .scope c => fun _ self cx fr s => asCode (self (.scope cx c c fr) s)
  | .label _ => fun _ _ _ fr s => .ok .normal fr s
  | .goto l => fun _ _ _ fr s => .ok (.goto l) fr s
  | .ret => fun _ _ _ fr s => .ok .ret fr s
  | .refuse w => fun _ _ _ _ _ => .fail w

def orRet (z : String → TR) : OR → S → (V → S → TR) → TR
  | .val v => fun s k => k v s
  | _ => fun _ _ => z "results"

def resultsOf (E : Env) (fr : Fr) : List ResultVar → S → List V → (List V → S → TR) → TR
  | [] => fun s acc k => k acc.reverse s
  | .tmp t :: l => fun s acc k => resultsOf E fr l s (tmV fr.tm t :: acc) k
  | .cell a t :: l => fun s acc k => Q.run TR.fail (loadAt E t (tmV fr.tm a)) s fun r s => orRet TR.fail r s fun v s => resultsOf E fr l s (v :: acc) k

def one : List V → V
  | [v] => v
  | vs => .tuple vs

def isDefd : Option Ob → Bool
  | some .defd => true
  | _ => false

def afterDefer (p : Option V) (next : Option V → S → TR) : TR → TR
  | .ret _ rc s => next (bif rc then none else p) s
  | .fail w => .fail w
  | _ => .fail "a panic in a deferred call"

/-- behind the body: what was deferred; 'p' is what panics -/
def unwind (E : Env) (self : Self) (fi : FI) (fr : Fr) : List D → Option V → S → TR
  | [] => fun p s => (match p with
    | none => resultsOf E fr fi.results s [] fun vs s => .ret (one vs) fr.rc s
    | some v => .pan v fr.rc s)
  | .mark d :: ds => fun p s => bif isDefd (s.h.get d) then unwind E self fi fr ds p (s.wr d none) else .fail "mark"
  | .call f args :: ds => fun p s => bif isNoneX (E.ext f) then afterDefer p (unwind E self fi fr ds) (self (.call f args p) s) else .fail "defer: extern"

def listTm : List V → Nat → Tr V → Tr V
  | [] => fun _ t => t
  | v :: l => fun i t => listTm l (Nat.succ i) (t.put i (some v))

def afterBody (E : Env) (self : Self) (fi : FI) : R → TR
  | .ok x fr s => (match x with
    | .normal => unwind E self fi fr fr.ds none s
    | .ret => unwind E self fi fr fr.ds none s
    | .panic v => unwind E self fi fr fr.ds (some v) s
    | _ => .fail "call: a jump out of the body")
  | .fail w => .fail w

def callTask (E : Env) (self : Self) (f : FuncId) (args : List V) (pk : Option V) (s : S) : TR :=
  match E.fn f with
  | none => .fail "call: no such function"
  | some fi => bif Nat.ble args.length fi.nt then
      afterBody E self fi (ev fi.body E self ⟨f, fi.nt, none, pk⟩ ⟨listTm args 0 .leaf, [], false, E.ng⟩ s)
    else .fail "call: arguments"

def paramTm (nt : Nat) : List Tmp → List V → Tr V → Tr V
  | [] => fun _ t => t
  | p :: ps => fun
    | [] => fun t => t
    | v :: vs => fun t => paramTm nt ps vs (putTm nt t p v)

/-- behind a round's body -/
def endRound (E : Env) (cx : Cx) (l : Nat) (x : X) (s : S) : Option Ob → TR
  | some (.loop _ _ fn tm nt ps asg body df) => (match x with
    | .normal => .ret (.bool true) false (s.wr l (some (.loop .ready none fn tm nt ps asg body df)))
    | .ret => .ret (.bool false) false (s.wr l (some (.loop .done (some .ret) fn tm nt ps asg body df)))
    | .exit i => .ret (.bool false) false (s.wr l (some (.loop .done (some (.exit i)) fn tm nt ps asg body df)))
    | .goto i => .ret (.bool false) false (s.wr l (some (.loop .done (some (.goto i)) fn tm nt ps asg body df)))
    | .panic v => (match E.fn cx.fn with
      | some _ => .pan v false (s.rd l)
      | none => .fail "round: function"))
  | _ => .fail "round: loop"

def noDs (fr : Fr) : Bool :=
  match fr.ds with
  | [] => not fr.rc
  | _ => false

def afterRound (E : Env) (cx : Cx) (l : Nat) : R → TR
  | .ok x fr s => bif noDs fr then endRound E cx l x s (s.h.get l) else .fail "round: deferred"
  | .fail w => .fail w

def beginRound (E : Env) (self : Self) (cx : Cx) (l : Nat) (todo : Code) (fr : Fr) (s : S) : Option Ob → TR
  | some (.loop .ready pend fn tm nt ps asg body df) => afterRound E cx l (ev todo E self cx fr (s.wr l (some (.loop .busy pend fn tm nt ps asg body df))))
  | _ => .fail "round: not ready"

def afterAssign (E : Env) (self : Self) (cx : Cx) (l : Nat) (todo : Code) : R → TR
  | .ok x fr s => (match x with
    | .normal => beginRound E self cx l todo fr s (s.h.get l)
    | _ => .fail "round: assign")
  | .fail w => .fail w

def roundIn (E : Env) (self : Self) (l : Nat) (args : List V) (s : S) : Option Ob → TR
  | some (.loop _ _ fn tm nt ps asg body _) => bif Nat.beq args.length ps.length then
      afterAssign E self ⟨fn, nt, some l, none⟩ l body (ev asg E self ⟨fn, nt, some l, none⟩ ⟨paramTm nt ps args tm, [], false, E.ng⟩ (s.rd l))
    else .fail "round: arguments"
  | _ => .fail "round: no loop"

def afterLoop (self : Self) (cx : Cx) (body : Code) : R → TR
  | .ok x fr s => (match x with
    | .normal => self (.loop cx body fr) s
    | x => .code (.ok x fr s))
  | .fail w => .fail w

def afterScope (self : Self) (cx : Cx) (body : Code) : R → TR
  | .ok x fr s => (match x with
    | .goto l => (match findLabel body l with
      | some rest => self (.scope cx rest body fr) s
      | none => .code (.ok (.goto l) fr s))
    | x => .code (.ok x fr s))
  | .fail w => .fail w

def task : Task → Env → Self → S → TR
  | .call f args pk => fun E self s => callTask E self f args pk s
  | .round l args => fun E self s => roundIn E self l args s (s.h.get l)
  | .loop cx body fr => fun E self s => afterLoop self cx body (ev body E self cx fr s)
  | .scope cx code body fr => fun E self s => afterScope self cx body (ev code E self cx fr s)

def run (E : Env) : Nat → Self
  | 0 => fun _ _ => .fail "fuel"
  | n + 1 => fun t s => task t E (run E n) s

end Go.AM

