/-
The ideal machine: a total evaluator with fuel over the model's code. Ideal values carry no address and no capacity that the tape chooses.
-/
import Derived.RangeFuncLeaves
import Derived.RecoverIn
import Derived.LoopNIn
import Derived.OrdersIn
namespace Go.Ev

/-- A binary tree of slots: the slot 0 at the root, odd slots to the left, even ones to the right. -/
inductive T (α : Type) where
  | lf
  | nd (l : T α) (v : Option α) (r : T α)

namespace T
variable {α : Type}
def get : T α → Nat → Option α
  | .lf, _ => none
  | .nd l v r, i => if Nat.beq i 0 then v else if Nat.beq (i % 2) 1 then l.get (i / 2) else r.get (i / 2 - 1)
def setF : Nat → T α → Nat → α → T α
  | 0, t, _, _ => t
  | f + 1, t, i, x =>
    match t with
    | .lf => if Nat.beq i 0 then .nd .lf (some x) .lf else if Nat.beq (i % 2) 1 then .nd (setF f .lf (i / 2) x) none .lf else .nd .lf none (setF f .lf (i / 2 - 1) x)
    | .nd l v r => if Nat.beq i 0 then .nd l (some x) r else if Nat.beq (i % 2) 1 then .nd (setF f l (i / 2) x) v r else .nd l v (setF f r (i / 2 - 1) x)
def set (t : T α) (i : Nat) (x : α) : T α := setF (i + 1) t i x
end T

/-- Ideal values. -/
inductive IV where
  | raw (v : Value)
  | agg (cs : List IV)
  | tup (vs : List IV)
  | ptr (id off ep ext : Nat)
  | sl (id off len : Nat) (cap : Option Nat) (ep s : Nat)
  | emp
  | map (id : Nat)
  | fn (f : Fn) (first captured : List IV)
  | yld (id : Nat)
  | ifc (t : TypeId) (v : IV)
  | tree (s : Nat) (es : List IV)
  | tptr (cs : List IV)
  deriving Inhabited

def IV.undef : IV := .raw Go.undef
abbrev IV.bool (b : Bool) : IV := .raw (.bool b)
abbrev IV.int (n : Int) : IV := .raw (.int .i64 n)

/-- Ideal objects. -/
inductive Ob where
  | cells (cs : List IV) (ep mn : Nat)
  | map (es : List (Value × IV × Nat)) (clock : Nat)
  | siter (s : ByteArray) (pos : Nat)
  | miter (m : Option Nat) (since : Nat) (seen : List Nat) (stepped : Nat)
  | loop (state : LoopState) (pending : Option Code) (f : FuncId) (tm : T IV) (ntm : Nat) (params : List Tmp) (assign body : Code) (dfs : Nat)
  | dfd (taken : Bool)
  deriving Inhabited

/-- Deferred calls. -/
inductive Df where
  | coll (id : Nat)
  | call (f : FuncId) (args : List IV)

structure St where
  n : Nat
  t : T Ob

def St.add (σ : St) (o : Ob) : St := ⟨σ.n + 1, σ.t.set σ.n o⟩
def St.put (σ : St) (id : Nat) (o : Ob) : St := ⟨σ.n, σ.t.set id o⟩
def St.at (σ : St) (id : Nat) : Option Ob := σ.t.get id

/-- The frame's temporaries: n slots. -/
structure Env where
  n : Nat
  t : T IV
def Env.at (e : Env) (i : Nat) : IV := (e.t.get i).getD .undef
def Env.put (e : Env) (dst : Option Tmp) (v : IV) : Env :=
  match dst with
  | none => e
  | some d => if Nat.blt d e.n then ⟨e.n, e.t.set d v⟩ else e

/-- The outcome of a computation that asks nothing of the memory. -/
def pureRun {α : Type} (P : Program) : Sem α → Option α
  | .pure a => some a
  | .program k => pureRun P (k P)
  | .mark _ k => pureRun P k
  | _ => none

def lift : Value → IV
  | .agg cs => .agg (cs.toList.map .raw)
  | v => .raw v

def rawCell : IV → Option Value
  | .raw v => some v
  | _ => none
def rawCells : List IV → Option (List Value)
  | [] => some []
  | c :: cs => match c with
    | .raw v => match rawCells cs with
      | some vs => some (v :: vs)
      | none => none
    | _ => none
def toRaw1 : IV → Option Value
  | .raw v => some v
  | .agg cs => match rawCells cs with
    | some vs => some (.agg vs.toArray)
    | none => none
  | _ => none
def toRaw : IV → Option Value
  | .ifc t v => match toRaw1 v with
    | some u => some (.iface t u)
    | none => none
  | v => toRaw1 v

def cellsOf : IV → List IV
  | .agg cs => cs
  | v => [v]
/-- May stand in one cell. -/
def cellOk : IV → Bool
  | .raw (.agg _) | .raw (.tuple _) | .agg _ | .tup _ => false
  | _ => true

section ops
variable (P : Program)
def sizeOf? (t : TypeId) : Option Nat := (P.info? t).map (·.size)
def zeroOf? (t : TypeId) : Option Value := (P.info? t).bind (·.zero)
def aggT (t : TypeId) : Option Bool := (P.underlying t).map fun | .struct _ | .array _ _ => true | _ => false
/-- A part of a row of cells, as a value. -/
def partOf (t : TypeId) (cs : List IV) (off : Nat) : Option IV :=
  match aggT P t, sizeOf? P t with
  | some true, some s => if off + s ≤ cs.length then some (.agg ((cs.drop off).take s)) else none
  | some false, some s => if s = 1 then cs[off]? else none
  | _, _ => none
/-- Some cells of a row laid over others. -/
def splice (cs : List IV) (off : Nat) (new : List IV) : List IV := cs.take off ++ new ++ cs.drop (off + new.length)
def fillI (place : Nat → Option (Nat × Nat)) : List IV → List (Nat × IV) → Option (List IV)
  | cells, [] => some cells
  | cells, (i, v) :: rest =>
    match place i with
    | none => none
    | some (off, size) =>
      if (cellsOf v).length = size ∧ off + size ≤ cells.length ∧ (cellsOf v).all cellOk then fillI place (splice cells off (cellsOf v)) rest else none
def cycle (zero : List IV) (n : Nat) : List IV :=
  match zero with
  | [z] => List.replicate n z
  | _ => (List.replicate (n / zero.length) zero).flatten

def intOf? : IV → Option Int
  | .raw (.int _ n) => some n
  | _ => none

/-- The cells of a slice's first n elements. -/
def firstC (size n : Nat) (σ : St) : IV → Option (List IV)
  | .raw (.slice none _ _) => if n = 0 then some [] else none
  | .emp => if n = 0 then some [] else none
  | .raw (.string s) => if n ≤ s.size then some ((s.data.toList.take n).map fun b => .raw (.int .u8 b.toNat)) else none
  | .sl id off len _ ep s => if s = size ∧ n ≤ len then match σ.at id with
      | some (.cells cs cep mn) => if mn ≤ ep ∧ ep ≤ cep ∧ off + n * size ≤ cs.length then some ((cs.drop off).take (n * size)) else none
      | _ => none
    else none
  | .tree s es => if s = size ∧ n ≤ es.length then some ((es.take n).flatMap cellsOf) else none
  | _ => none
def lenI : IV → Option Nat
  | .raw (.slice none l _) => if l = 0 then some 0 else none
  | .raw (.string s) => some s.size
  | .emp => some 0
  | .sl _ _ len _ _ _ => some len
  | .tree _ es => some es.length
  | _ => none

inductive OpOut where
  | val (v : IV) (σ : St)
  | enter (f : FuncId) (args : List IV)
  | round (id : Nat) (args : List IV)
  | dfr (d : Df)
  | pan (v : IV)

def ret (v : IV) (σ : St) : Option OpOut := some (.val v σ)

/-- What append appends: how many elements, and their cells. -/
def appendArg (size : Nat) (zero : Value) (xd : TypeDesc) (σ : St) (x : IV) : Option (Nat × List IV) :=
  match xd with
  | .int _ => match x with
    | .raw (.int .i64 l) => if 0 ≤ l ∧ l ≤ 1000000 then some (l.toNat, cycle (zero.cells.toList.map .raw) (l.toNat * size)) else none
    | _ => none
  | _ => match lenI x with
    | some n => match firstC size n σ x with
      | some cs => some (n, cs)
      | none => none
    | none => none

/-- A row of its own for what append gives. -/
def appendNew (size sLen n : Nat) (new : List IV) (s : IV) (σ : St) : Option OpOut :=
  match firstC size sLen σ s with
  | some old => if old.length = sLen * size then ret (.sl σ.n 0 (sLen + n) none 0 size) (σ.add (.cells (old ++ new) 0 0)) else none
  | none => none

def appendTo (ro size sLen n : Nat) (new : List IV) (s : IV) (σ : St) : Option OpOut :=
  match s with
  | .raw (.slice none l c) => if l = 0 ∧ c = 0 then (if n = 0 then ret s σ else appendNew size sLen n new s σ) else none
  | .emp => if n = 0 then ret s σ else appendNew size sLen n new s σ
  | .tree _ _ => if n = 0 then ret s σ else none
  | .sl id off len cap ep st =>
    if st ≠ size then none else
    if n = 0 then ret (.sl id off len cap ep st) σ else
    match cap with
    | some c => if len + n ≤ c then
         match σ.at id with
         | some (.cells cs cep _) => if ro ≤ id ∧ ep = cep ∧ off + (len + n) * size ≤ cs.length then
             ret (.sl id off (len + n) cap ep st) (σ.put id (.cells (splice cs (off + len * size) new) cep cep)) else none
         | _ => none
      else appendNew size sLen n new s σ
    | none => match σ.at id with
      | some (.cells cs cep mn) => if ro ≤ id ∧ ep = cep ∧ off = 0 ∧ len * size = cs.length then
          ret (.sl id 0 (len + n) none (ep + 1) st) (σ.put id (.cells (cs ++ new) (cep + 1) mn))
        else if ro ≤ id ∧ ep = cep ∧ off = 0 ∧ len * size ≤ cs.length then
          ret (.sl id 0 (len + n) none (ep + 1 + 1) st) ((σ.put id (.cells (cs.take (len * size)) (cep + 1) (cep + 1))).put id (.cells (cs.take (len * size) ++ new) (cep + 1 + 1) (cep + 1)))
        else none
      | _ => none
  | _ => none

def appendI (ro : Nat) (argTypes : Array TypeId) (s x : IV) (σ : St) : Option OpOut :=
  match argTypes[0]?, argTypes[1]? with
  | some sT, some xT =>
    match P.underlying sT, P.underlying xT with
    | some (.slice elem), some xd =>
      match sizeOf? P elem, zeroOf? P elem, (P.info? elem).map (·.bytes) with
      | some size, some zero, some bytes =>
        if size = 0 ∨ zero.cells.size ≠ size then none else
        match appendArg size zero xd σ x, lenI s with
        | some (n, new), some sLen =>
          if new.length = n * size ∧ new.all cellOk = true ∧ (4 * (sLen + n) + 4096) * bytes ≤ 2 ^ 47 ∧ sLen + n ≤ 2 ^ 40 then appendTo ro size sLen n new s σ else none
        | _, _ => none
      | _, _, _ => none
    | _, _ => none
  | _, _ => none

/-- A bound of a slice expression. -/
def numI : Option IV → Option (Option Nat)
  | none => some none
  | some (.raw (.int _ i)) => if 0 ≤ i then some (some i.toNat) else none
  | _ => none

def sliceI (t : TypeId) (x : IV) (lo hi mx : Option IV) : Option IV :=
  match numI lo, numI hi, numI mx with
  | some lo, some hi, some mx =>
    if mx.isSome = true ∧ hi.isSome = false then none else
    match P.underlying t with
    | some .string => match x with
      | .raw (.string s) =>
        if mx = none ∧ lo.getD 0 ≤ hi.getD s.size ∧ hi.getD s.size ≤ s.size then some (.raw (.string ⟨((s.data.toList.drop (lo.getD 0)).take (hi.getD s.size - lo.getD 0)).toArray⟩)) else none
      | _ => none
    | some (.slice elem) => match sizeOf? P elem with
      | none => none
      | some sz => match x with
        | .raw (.slice none 0 0) => if lo.getD 0 = 0 ∧ hi.getD 0 = 0 ∧ mx.getD 0 = 0 then some (.raw (.slice none 0 0)) else none
        | .emp => if lo.getD 0 = 0 ∧ hi.getD 0 = 0 ∧ mx.getD 0 = 0 then some .emp else none
        | .sl id off len cap ep s =>
          if sz ≠ s then none else
          match mx, cap with
          | some m, cap => if lo.getD 0 ≤ hi.getD len ∧ hi.getD len ≤ m ∧ m ≤ cap.getD len then
              (if m = lo.getD 0 then some .emp else some (.sl id (off + lo.getD 0 * s) (hi.getD len - lo.getD 0) (some (m - lo.getD 0)) ep s)) else none
          | none, some m => if lo.getD 0 ≤ hi.getD len ∧ hi.getD len ≤ m then
              (if m = lo.getD 0 then some .emp else some (.sl id (off + lo.getD 0 * s) (hi.getD len - lo.getD 0) (some (m - lo.getD 0)) ep s)) else none
          | none, none => if lo.getD 0 ≤ hi.getD len ∧ hi.getD len ≤ len then some (.sl id (off + lo.getD 0 * s) (hi.getD len - lo.getD 0) none ep s) else none
        | .tree s es =>
          if sz ≠ s then none else
          match mx with
          | none => if lo.getD 0 ≤ hi.getD es.length ∧ hi.getD es.length ≤ es.length then some (.tree s ((es.take (hi.getD es.length)).drop (lo.getD 0))) else none
          | some m => if m = 0 ∧ lo.getD 0 = 0 ∧ hi.getD es.length = 0 then some (.tree s []) else none
        | _ => none
    | some (.array n elem) => match x, sizeOf? P elem with
      | .ptr id off ep ext, some s =>
        if s ≠ 0 ∧ n * s ≤ ext ∧ mx = none ∧ lo.getD 0 ≤ hi.getD n ∧ hi.getD n ≤ n then
          (if n = lo.getD 0 then some .emp else some (.sl id (off + lo.getD 0 * s) (hi.getD n - lo.getD 0) (some (n - lo.getD 0)) ep s)) else none
      | _, _ => none
    | _ => none
  | _, _, _ => none

/-- The place of a key among the entries of a map. -/
def keyAt (empty : Bool) (kt : TypeId) (k : Value) (es : List (Value × IV × Nat)) : Option (Option Nat) :=
  match pureRun P (do
      Instr.checkKey empty 10000 kt k
      Instr.findKey kt k (es.map fun e => { key := e.1, val := Go.undef, born := e.2.2 })) with
  | some (some (i, _)) => some (some i)
  | some none => some none
  | none => none

def entriesOf (σ : St) : IV → Option (List (Value × IV × Nat))
  | .raw (.map none) => some []
  | .map id => match σ.at id with
    | some (.map es _) => some es
    | _ => none
  | _ => none

def mapSet (ro : Nat) (kt : TypeId) (m k v : IV) (σ : St) : Option St :=
  match m, toRaw k with
  | .map id, some key =>
    match σ.at id with
    | some (.map es clock) =>
      if ¬ ro ≤ id then none else
      match keyAt P false kt key es with
      | some (some i) => match es[i]? with
        | some e => if Instr.sameBits 10000 e.1 key then some (σ.put id (.map (es.set i (key, v, e.2.2)) clock)) else none
        | none => none
      | some none => some (σ.put id (.map (es ++ [(key, v, clock)]) (clock + 1)))
      | none => none
    | _ => none
  | _, _ => none

/-- One of the two is nil, the other one is not. -/
def nilEq1 (t : TypeId) : IV → IV → Bool
  | .raw (.pointer none), .ptr .. | .raw (.pointer none), .tptr _ => match P.underlying t with | some (.pointer _) => true | _ => false
  | .raw (.slice none _ _), .sl .. | .raw (.slice none _ _), .emp | .raw (.slice none _ _), .tree _ (_ :: _) => match P.underlying t with | some (.slice _) => true | _ => false
  | .raw (.map none), .map _ => match P.underlying t with | some (.map _ _) => true | _ => false
  | .raw .nilFunc, .fn .. | .raw .nilFunc, .yld _ => match P.underlying t with | some (.func _ _ _) => true | _ => false
  | .raw .nilIface, .ifc .. => match P.underlying t with | some (.interface _) => true | _ => false
  | _, _ => false
def nilEq (t : TypeId) (a b : IV) : Bool := nilEq1 P t a b || nilEq1 P t b a
def ptrEq (t : TypeId) : IV → IV → Option Bool
  | .ptr i o e _, .ptr j p f _ => match P.underlying t with
    | some (.pointer el) => match sizeOf? P el with
      | some s => if i = j ∧ e = f ∧ s ≠ 0 then some (o == p) else none
      | none => none
    | _ => none
  | _, _ => none

def binI (op : BinOp) (t : TypeId) (x y : Operand) (a b : IV) : Option IV :=
  match op, a, b with
  | .eql, .raw (.string s), .raw (.string u) => some (.bool (s.data.toList == u.data.toList))
  | .neq, .raw (.string s), .raw (.string u) => some (.bool (!(s.data.toList == u.data.toList)))
  | .lss, .raw (.string s), .raw (.string u) => some (.bool (Op.bytesLess s.data.toList u.data.toList))
  | .gtr, .raw (.string s), .raw (.string u) => some (.bool (!(Op.bytesLess s.data.toList u.data.toList || s.data.toList == u.data.toList)))
  | .leq, .raw (.string s), .raw (.string u) => some (.bool (Op.bytesLess s.data.toList u.data.toList || s.data.toList == u.data.toList))
  | .geq, .raw (.string s), .raw (.string u) => some (.bool (!(Op.bytesLess s.data.toList u.data.toList)))
  | .add, .raw (.string s), .raw (.string u) => if s.size + u.size ≤ 2 ^ 40 then some (.raw (.string ⟨(s.data.toList ++ u.data.toList).toArray⟩)) else none
  | op, a, b =>
    match toRaw a, toRaw b with
    | some u, some v => (pureRun P (do eqGuard op t x y u v; binOp op t u v)).map lift
    | _, _ =>
      if nilEq P t a b then
        match op with
        | .eql => some (.bool false)
        | .neq => some (.bool true)
        | _ => none
      else match op, ptrEq P t a b with
        | .eql, some c => some (.bool c)
        | .neq, some c => some (.bool !c)
        | _, _ => none

def calleeI (f : IV) (args : List IV) : Option OpOut :=
  match f with
  | .fn (.func f) first cap =>
    match P.funcs[f]? with
    | some fn => if fn.body.isSome && fn.name != "runtime.NumGoroutine" then some (.enter f (first ++ args ++ cap)) else none
    | none => none
  | .raw (.func (.func f) a b) =>
    if a.size = 0 ∧ b.size = 0 then
      match P.funcs[f]? with
      | some fn => if fn.body.isSome && fn.name != "runtime.NumGoroutine" then some (.enter f args) else none
      | none => none
    else none
  | .yld id => some (.round id args)
  | _ => none

/-- A method of an interface value: declared on the dynamic type itself. -/
def invokeI (recv : IV) (name : String) (args : List IV) : Option OpOut :=
  match recv with
  | .ifc t v => match P.info? t, P.underlying t with
    | some i, some (.pointer _) => match i.methods.find? (·.name == name) with
      | some m => match m.func with
        | some (f, pr) =>
          if m.path.toList.isEmpty = true ∧ pr = true then
            match P.funcs[f]? with
            | some fn => if fn.body.isSome && fn.name != "runtime.NumGoroutine" then some (.enter f (v :: args)) else none
            | none => none
          else none
        | none => none
      | none => none
    | _, _ => none
  | _ => none

def lenB (argTypes : Array TypeId) (x : IV) (σ : St) : Option IV :=
  match (argTypes[0]?).bind P.underlying, x with
  | some (.slice _), .sl _ _ len _ _ _ => some (.int len)
  | some (.slice _), .emp => some (.int 0)
  | some (.slice _), .tree _ es => some (.int es.length)
  | some (.slice _), .raw (.slice none l _) => some (.int l)
  | some .string, .raw (.string s) => some (.int s.size)
  | some (.map _ _), .raw (.map none) => some (.int 0)
  | some (.map _ _), .map id => match σ.at id with
    | some (.map es _) => some (.int es.length)
    | _ => none
  | some (.array n _), _ => some (.int n)
  | _, _ => none
def capB (argTypes : Array TypeId) (x : IV) : Option IV :=
  match (argTypes[0]?).bind P.underlying, x with
  | some (.slice _), .sl _ _ _ (some c) _ _ => some (.int c)
  | some (.slice _), .emp => some (.int 0)
  | some (.slice _), .raw (.slice none _ c) => some (.int c)
  | some (.array n _), _ => some (.int n)
  | _, _ => none
def minB (args : List IV) : Option IV :=
  match rawCells args with
  | some vs => (pureRun P (Builtin.min_ #[] 0 vs.toArray)).map lift
  | none => none
def maxB (args : List IV) : Option IV :=
  match rawCells args with
  | some vs => (pureRun P (Builtin.max_ #[] 0 vs.toArray)).map lift
  | none => none
def deleteB (ro : Nat) (argTypes : Array TypeId) (m k : IV) (σ : St) : Option OpOut :=
  match (argTypes[0]?).bind P.underlying, m, toRaw k with
  | some (.map kt _), .map id, some key =>
    match σ.at id with
    | some (.map es clock) =>
      if ¬ ro ≤ id then none else
      match keyAt P es.isEmpty kt key es with
      | some (some i) => ret .undef (σ.put id (.map (es.eraseIdx i) clock))
      | some none => ret .undef (σ.put id (.map es clock))
      | none => none
    | _ => none
  | _, _, _ => none
def clearB (ro : Nat) (argTypes : Array TypeId) (x : IV) (σ : St) : Option OpOut :=
  match (argTypes[0]?).bind P.underlying, x with
  | some _, .raw (.slice none _ _) | some _, .raw (.map none) | some _, .emp => ret .undef σ
  | some (.map _ _), .map id => match σ.at id with
    | some (.map _ clock) => if ro ≤ id then ret .undef (σ.put id (.map [] clock)) else none
    | _ => none
  | some (.slice elem), .sl id off len _ ep s => if len = 0 then ret .undef σ else
    match σ.at id with
    | some (.cells cs cep _) =>
      match zeroOf? P elem with
      | some z => if s ≠ 0 ∧ z.cells.size = s ∧ (cycle (z.cells.toList.map .raw) (len * s)).all cellOk = true ∧ ro ≤ id ∧ ep = cep ∧ off + len * s ≤ cs.length then
          ret .undef (σ.put id (.cells (splice cs off (cycle (z.cells.toList.map .raw) (len * s))) cep cep)) else none
      | none => none
    | _ => none
  | _, _ => none
def copyB (ro : Nat) (argTypes : Array TypeId) (d s : IV) (σ : St) : Option OpOut :=
  match (argTypes[0]?).bind P.underlying with
  | some (.slice elem) => match sizeOf? P elem, lenI d, lenI s with
    | some size, some dl, some sl => match firstC size (Nat.min sl dl) σ s with
      | some new =>
        if new.length ≠ Nat.min sl dl * size ∨ new.all cellOk = false then none else
        match d with
        | .raw (.slice none 0 0) => ret (.int (Nat.min sl dl)) σ
        | .emp => ret (.int (Nat.min sl dl)) σ
        | .sl id off len _ ep st =>
          if Nat.min sl dl = 0 then ret (.int 0) σ else
          match σ.at id with
          | some (.cells cs cep _) => if st = size ∧ ro ≤ id ∧ ep = cep ∧ off + Nat.min sl dl * size ≤ cs.length then
              ret (.int (Nat.min sl dl)) (σ.put id (.cells (splice cs off new) cep cep)) else none
          | _ => none
        | _ => none
      | none => none
    | _, _, _ => none
  | _ => none

def builtinI (ro : Nat) (b : Builtin) (argTypes : Array TypeId) (args : List IV) (σ : St) : Option OpOut :=
  match b with
  | .append => match args with
    | [s, x] => appendI P ro argTypes s x σ
    | _ => none
  | .len => match args with
    | [x] => (lenB P argTypes x σ).map fun v => .val v σ
    | _ => none
  | .cap => match args with
    | [x] => (capB P argTypes x).map fun v => .val v σ
    | _ => none
  | .min => (minB P args).map fun v => .val v σ
  | .max => (maxB P args).map fun v => .val v σ
  | .delete => match args with
    | [m, k] => deleteB P ro argTypes m k σ
    | _ => none
  | .clear => match args with
    | [x] => clearB P ro argTypes x σ
    | _ => none
  | .copy => match args with
    | [d, s] => copyB P ro argTypes d s σ
    | _ => none
  | _ => none

def evOp (ro : Nat) (ρ : Operand → IV) (o : Oper) (σ : St) : Option OpOut :=
  match o.op with
  | .move x | .assign x => ret (ρ x) σ
  | .pick c a b => match ρ c with
    | .raw (.bool t) => ret (if t then ρ a else ρ b) σ
    | _ => none
  | .alloc elem => match zeroOf? P elem with
    | some z => ret (.ptr σ.n 0 0 z.cells.size) (σ.add (.cells (z.cells.toList.map .raw) 0 0))
    | none => none
  | .box _ x => if (cellsOf (ρ x)).all cellOk then ret (.ptr σ.n 0 0 (cellsOf (ρ x)).length) (σ.add (.cells (cellsOf (ρ x)) 0 0)) else none
  | .build t parts => match zeroOf? P t, P.underlying t with
    | some z, some (.struct fields) => match fillI (fun i => (fields[i]?).bind fun f => (sizeOf? P f.type).map fun s => (f.offset, s)) (z.cells.toList.map .raw) (parts.toList.map fun (i, x) => (i, ρ x)) with
      | some cs => if fields.all fun f => (sizeOf? P f.type).isSome then ret (.agg cs) σ else none
      | none => none
    | some z, some (.array _ elem) => match sizeOf? P elem with
      | some s => match fillI (fun i => some (i * s, s)) (z.cells.toList.map .raw) (parts.toList.map fun (i, x) => (i, ρ x)) with
        | some cs => ret (.agg cs) σ
        | none => none
      | none => none
    | _, _ => none
  | .buildSlice t len parts => match P.underlying t with
    | some (.slice elem) => match sizeOf? P elem, zeroOf? P elem with
      | some s, some z =>
        if s = 0 ∨ z.cells.size ≠ s ∨ len * s > 2 ^ 20 then none else
        match fillI (fun i => some (i * s, s)) (cycle (z.cells.toList.map .raw) (len * s)) (parts.toList.map fun (i, x) => (i, ρ x)) with
        | some cs => if cs.length = len * s ∧ cs.all cellOk then (if len = 0 then ret .emp σ else ret (.sl σ.n 0 len (some len) 0 s) (σ.add (.cells cs 0 0))) else none
        | none => none
      | _, _ => none
    | _ => none
  | .load t a => match ρ a with
    | .ptr id off ep ext => match sizeOf? P t, σ.at id with
      | some s, some (.cells cs cep mn) => if s ≤ ext ∧ mn ≤ ep ∧ ep ≤ cep then (match partOf P t cs off with | some v => ret v σ | none => none) else none
      | _, _ => none
    | .tptr cs => match partOf P t cs 0 with
      | some v => ret v σ
      | none => none
    | _ => none
  | .store t a x => match ρ a with
    | .ptr id off ep ext => match sizeOf? P t, σ.at id with
      | some s, some (.cells cs cep mn) =>
        if ro ≤ id ∧ (cellsOf (ρ x)).length = s ∧ s ≤ ext ∧ ep = cep ∧ off + s ≤ cs.length ∧ (cellsOf (ρ x)).all cellOk then
          ret .undef (σ.put id (.cells (splice cs off (cellsOf (ρ x))) cep cep)) else none
      | _, _ => none
    | _ => none
  | .nilCheck x => match ρ x with
    | .ptr a b c d => ret (.ptr a b c d) σ
    | .tptr cs => ret (.tptr cs) σ
    | .fn (.func f) a b => ret (.fn (.func f) a b) σ
    | .yld l => ret (.yld l) σ
    | .ifc t v => ret (.ifc t v) σ
    | _ => none
  | .binOp op t x y _ => match binI P op t x y (ρ x) (ρ y) with
    | some v => ret v σ
    | none => none
  | .unOp op _ x => match ρ x with
    | .raw v => match pureRun P (Op.unary op v) with
      | some r => ret (lift r) σ
      | none => none
    | _ => none
  | .convert src dst x => match ρ x with
    | .raw (.string s) => match P.underlying src, P.underlying dst with
      | some _, some .string => ret (.raw (.string s)) σ
      | _, _ => none
    | .raw v => match pureRun P (convert src dst v) with
      | some r => ret (lift r) σ
      | none => none
    | _ => none
  | .makeInterface t x => match P.underlying t with
    | some (.interface _) => none
    | some _ => ret (.ifc t (ρ x)) σ
    | none => none
  | .makeFunc fn first cap => ret (.fn fn (first.toList.map ρ) (cap.toList.map ρ)) σ
  | .makeMap t r => match r with
    | none => ret (.map σ.n) (σ.add (.map [] 0))
    | some h => match P.underlying t, ρ h with
      | some (.map _ _), .raw (.int _ _) => ret (.map σ.n) (σ.add (.map [] 0))
      | _, _ => none
  | .makeSlice t l c => match P.underlying t, ρ l, ρ c with
    | some (.slice elem), .raw (.int _ l), .raw (.int _ c) => match sizeOf? P elem, zeroOf? P elem, (P.info? elem).map (·.bytes) with
      | some s, some z, some bytes =>
        if s = 0 ∨ z.cells.size ≠ s ∨ ¬ (0 ≤ l ∧ l ≤ c ∧ c ≤ 1000000) ∨ bytes > 1000000 then none else
        if c = 0 then ret .emp σ else
        ret (.sl σ.n 0 l.toNat (some c.toNat) 0 s) (σ.add (.cells (cycle (z.cells.toList.map .raw) (c.toNat * s)) 0 0))
      | _, _, _ => none
    | _, _, _ => none
  | .slice t x lo hi mx => match sliceI P t (ρ x) (lo.map ρ) (hi.map ρ) (mx.map ρ) with
    | some v => ret v σ
    | none => none
  | .fieldAddr s x f => match P.underlying s with
    | some (.struct fields) => match fields[f]? with
      | some fd => match sizeOf? P fd.type, ρ x with
        | some sz, .ptr id off ep ext => if sz ≠ 0 ∧ fd.offset + sz ≤ ext then ret (.ptr id (off + fd.offset) ep sz) σ else none
        | some sz, .tptr cs => if sz ≠ 0 ∧ fd.offset + sz ≤ cs.length then ret (.tptr ((cs.drop fd.offset).take sz)) σ else none
        | _, _ => none
      | none => none
    | _ => none
  | .field t x f => match P.underlying t, ρ x with
    | some (.struct fields), .agg cs => match fields[f]? with
      | some fd => match partOf P fd.type cs fd.offset with
        | some v => ret v σ
        | none => none
      | none => none
    | _, _ => none
  | .indexAddr t x ix => match P.underlying t, ρ ix with
    | some (.slice elem), .raw (.int _ i) => match ρ x with
      | .sl id off len _ ep s => if sizeOf? P elem = some s ∧ 0 ≤ i ∧ i < len then ret (.ptr id (off + i.toNat * s) ep s) σ else none
      | .tree s es => if sizeOf? P elem = some s ∧ 0 ≤ i then match es[i.toNat]? with
          | some e => if (cellsOf e).length = s then ret (.tptr (cellsOf e)) σ else none
          | none => none
        else none
      | _ => none
    | some (.array n elem), .raw (.int _ i) => match ρ x, sizeOf? P elem with
      | .ptr id off ep ext, some s => if s ≠ 0 ∧ 0 ≤ i ∧ i < n ∧ i.toNat * s + s ≤ ext then ret (.ptr id (off + i.toNat * s) ep s) σ else none
      | _, _ => none
    | _, _ => none
  | .index t x ix => match P.underlying t, ρ x, ρ ix with
    | some .string, .raw (.string s), .raw (.int _ i) => if 0 ≤ i then match s.data.toList[i.toNat]? with
        | some b => ret (.raw (.int .u8 b.toNat)) σ
        | none => none
      else none
    | some (.array n elem), .agg cs, .raw (.int _ i) => match sizeOf? P elem with
      | some s => if 0 ≤ i ∧ i < n then (match partOf P elem cs (i.toNat * s) with | some v => ret v σ | none => none) else none
      | none => none
    | _, _, _ => none
  | .lookup t x ix ok => match P.underlying t, entriesOf σ (ρ x), toRaw (ρ ix) with
    | some (.map kt elem), some es, some key => match keyAt P es.isEmpty kt key es, zeroOf? P elem with
      | some (some i), some _ => match es[i]? with
        | some e => ret (if ok then .tup [e.2.1, .bool true] else e.2.1) σ
        | none => none
      | some none, some z => ret (if ok then .tup [lift z, .bool false] else lift z) σ
      | _, _ => none
    | _, _, _ => none
  | .mapUpdate t m k x | .insert t m k x => match P.underlying t with
    | some (.map kt _) => match mapSet P ro kt (ρ m) (ρ k) (ρ x) σ with
      | some σ' => ret .undef σ'
      | none => none
    | _ => none
  | .mapEntry t m k => match P.underlying t with
    | some (.map kt elem) => match zeroOf? P elem, ρ m, toRaw (ρ k) with
      | some z, .map id, some key => match σ.at id with
        | some (.map es clock) => if ¬ ro ≤ id then none else match keyAt P false kt key es with
          | some (some i) => match es[i]? with
            | some e => if Instr.sameBits 10000 e.1 key then ret (.tup [e.2.1, .int e.2.2]) (σ.put id (.map (es.set i (key, e.2.1, e.2.2)) clock)) else none
            | none => none
          | some none => ret (.tup [lift z, .int clock]) (σ.put id (.map (es ++ [(key, lift z, clock)]) (clock + 1)))
          | none => none
        | _ => none
      | _, _, _ => none
    | _ => none
  | .entryStore _ m st x => match ρ m, ρ st with
    | .map id, .raw (.int _ born) => match σ.at id with
      | some (.map es clock) => if ¬ ro ≤ id then none else match es.findIdx? (fun e => (e.2.2 : Int) == born) with
        | some i => match es[i]? with
          | some e => ret .undef (σ.put id (.map (es.set i (e.1, ρ x, e.2.2)) clock))
          | none => none
        | none => none
      | _ => none
    | _, _ => none
  | .range t x => match P.underlying t, ρ x with
    | some .string, .raw (.string s) => ret (.ptr σ.n 0 0 1) (σ.add (.siter s 0))
    | some (.map _ _), .raw (.map none) => ret (.ptr σ.n 0 0 1) (σ.add (.miter none 0 [] 0))
    | some (.map _ _), .map m => match σ.at m with
      | some (.map _ clock) => ret (.ptr σ.n 0 0 1) (σ.add (.miter (some m) clock [] clock))
      | _ => none
    | _, _ => none
  | .next it str => match ρ it with
    | .ptr r 0 0 1 => if ¬ ro ≤ r then none else match σ.at r, str with
      | some (.siter s pos), true =>
        if pos < s.size then
          ret (.tup [.bool true, .int pos, .raw (.int .i32 (Utf8.decode s pos).1)]) (σ.put r (.siter s (pos + (Utf8.decode s pos).2)))
        else ret (.tup [.bool false]) σ
      | some (.miter none _ _ _), false => ret (.tup [.bool false]) σ
      | some (.miter (some m) since seen last), false => match σ.at m with
        | some (.map es clock) => match es with
          | [] => ret (.tup [.bool false]) σ
          | [e] => if e.2.2 ∈ seen then (if e.2.2 < last then ret (.tup [.bool false]) σ else none) else
            if e.2.2 < since ∧ seen = [] then ret (.tup [.bool true, lift e.1, e.2.1]) (σ.put r (.miter (some m) since [e.2.2] clock)) else none
          | _ => none
        | _ => none
      | _, _ => none
    | _ => none
  | .entry it => match ρ it with
    | .ptr r 0 0 1 => match σ.at r with
      | some (.miter (some m) _ seen stepped) => match σ.at m, seen.getLast? with
        | some (.map es clock), some stamp => if clock = stepped then match es.find? (fun e => e.2.2 == stamp) with
            | some e => ret (.tup [lift e.1, e.2.1]) σ
            | none => none
          else none
        | _, _ => none
      | _ => none
    | _ => none
  | .extract t i => match ρ t with
    | .tup vs => match vs[i]? with
      | some v => ret v σ
      | none => none
    | .raw (.tuple vs) => match vs[i]? with
      | some v => ret (.raw v) σ
      | none => none
    | _ => none
  | .panic x => match ρ x with
    | .ifc t v => some (.pan (.ifc t v))
    | _ => none
  | .typeAssert x _ asserted ok => match P.underlying asserted, zeroOf? P asserted with
    | some (.interface _), _ => none
    | some _, some z => match ρ x with
      | .ifc t v => if Nat.beq t asserted then ret (if ok then .tup [v, .bool true] else v) σ else
          if ok then ret (.tup [lift z, .bool false]) σ else none
      | .raw .nilIface => if ok then ret (.tup [lift z, .bool false]) σ else none
      | _ => none
    | _, _ => none
  | .call c => match c.callee with
    | .builtin b => builtinI P ro b c.argTypes (c.args.toList.map ρ) σ
    | .value f => calleeI P (ρ f) (c.args.toList.map ρ)
    | .invoke x name => invokeI P (ρ x) name (c.args.toList.map ρ)
  | .defer c => match c.callee with
    | .value f => match calleeI P (ρ f) (c.args.toList.map ρ) with
      | some (.enter f args) => some (.dfr (.call f args))
      | _ => none
    | _ => none
  | _ => none
end ops

inductive Ex where
  | normal
  | exit (id : Nat)
  | goto (l : Nat)
  | ret
  | pan (v : IV)

def Ex.isPan : Ex → Bool
  | .pan _ => true
  | _ => false
def jumpOf : Ex → Option Code
  | .normal => none
  | .pan _ => none
  | .ret => some .ret
  | .exit id => some (.exit id)
  | .goto t => some (.goto t)

structure CR where     -- what a piece of code comes to
  ex : Ex
  e : Env
  df : List Df
  σ : St

/-- What is evaluated with less fuel. -/
structure Self where
  code : (ro : Nat) → (rd : Option Nat) → FuncId → Code → Env → List Df → St → Option CR
  call : (ro : Nat) → FuncId → List IV → St → Option (IV × St)
  /-- A call that ends in a panic. -/
  pan : (ro : Nat) → FuncId → List IV → St → Option (IV × St)
  /-- A deferred call, and the panic under way. -/
  dcl : (ro : Nat) → FuncId → List IV → Option IV → St → Option (Option IV × St)

section steps
variable (P : Program) (S : Self)

def evalI (e : Env) : Operand → IV
  | .tmp t => e.at t
  | .const v => lift v
  | .global g => .raw (.pointer (some ⟨g, 0, none⟩))
  | .func f => .raw (.func (.func f) #[] #[])

def wantedI (o : Oper) (ops : Array Oper) (e : Env) : Bool :=
  match o.guard with
  | none => true
  | some (j, want) => match ((ops[j]?).bind (·.dst)) with
    | some d => if Nat.blt d e.n then (match e.at d with | .raw (.bool b) => b == want | _ => false) else false
    | none => false

/-- One round of a range over a function. -/
def evRound (ro : Nat) (l : Nat) (args : List IV) (σ : St) : Option (IV × St) :=
  match σ.at l with
  | some (.loop state pending f tm ntm params assign body dfs) =>
    if args.length ≠ params.length ∨ ¬ ro ≤ l ∨ state ≠ .ready then none else
    let e : Env := (params.zip args).foldl (fun e (p, v) => e.put (some p) v) ⟨ntm, tm⟩
    match S.code ro (some l) f assign e [] σ with
    | some ⟨.normal, e, [], σ⟩ =>
      match σ.at l with
      | some (.loop .ready pending f1 tm1 ntm1 params1 assign1 body1 dfs1) =>
        match S.code ro (some l) f body e [] (σ.put l (.loop .busy pending f1 tm1 ntm1 params1 assign1 body1 dfs1)) with
        | some ⟨ex, _, [], σ⟩ =>
          if ex.isPan then none else
          match σ.at l with
          | some (.loop _ _ f tm ntm params assign body dfs) =>
            some (.bool (jumpOf ex).isNone, σ.put l (.loop (if (jumpOf ex).isNone then .ready else .done) (jumpOf ex) f tm ntm params assign body dfs))
          | _ => none
        | _ => none
      | _ => none
    | _ => none
  | _ => none

/-- An operation that is carried out, whatever it is. -/
def evX (ro : Nat) (e : Env) (o : Oper) (σ : St) : Option (IV × St) :=
  match evOp P ro (evalI e) o σ with
  | some (.val v σ) => some (v, σ)
  | some (.enter f args) => S.call ro f args σ
  | some (.round l args) => evRound S ro l args σ
  | _ => none

def evOps (ro : Nat) (rd : Option Nat) (ops : Array Oper) : List Oper → Env → List Df → St → Option CR
  | [], e, df, σ => some ⟨.normal, e, df, σ⟩
  | o :: rest, e, df, σ =>
    if wantedI o ops e then
      match evX P S ro e o σ with
      | some (v, σ) => evOps ro rd ops rest (e.put o.dst v) df σ
      | none => match evOp P ro (evalI e) o σ with
        | some (.dfr d) => if rd.isNone then evOps ro rd ops rest (e.put o.dst .undef) (d :: df) σ else none
        | some (.enter f args) => match S.pan ro f args σ with
          | some (v, σ) => some ⟨.pan v, e, df, σ⟩
          | none => none
        | some (.pan v) => some ⟨.pan v, e, df, σ⟩
        | _ => none
    else evOps ro rd ops rest (e.put o.dst .undef) df σ

/-! ### Regions that draw their order -/
inductive Kind where
  | pure | alloc | load | call | effect
  deriving DecidableEq
def kindOp (o : Oper) : Kind :=
  match o.op with
  | .move _ | .assign _ | .pick .. | .build .. | .binOp .. | .unOp .. | .convert .. | .makeInterface .. | .makeFunc .. | .slice .. | .fieldAddr .. | .field ..
  | .indexAddr .. | .index .. | .extract .. | .nilCheck _ => .pure
  | .call { callee := .builtin .cap, .. } | .call { callee := .builtin .min, .. } | .call { callee := .builtin .max, .. } => .pure
  | .alloc .. | .box .. | .buildSlice .. | .makeMap .. | .makeSlice .. => .alloc
  | .load .. | .lookup .. | .entry _ | .call { callee := .builtin .len, .. } => .load
  | .call { callee := .value _, .. } | .call { callee := .builtin .append, .. } => .call
  | _ => .effect

/-- For each operation: which ones surely come before it (bits). -/
def befStep (acc : List Nat) (o : Oper) : List Nat :=
  acc ++ [o.after.toList.foldl (fun s e => if Region.binds .any e then Nat.lor s (Nat.lor (Nat.shiftLeft 1 e.on) (acc.getD e.on 0)) else s) 0]
def befs (ops : Array Oper) : List Nat := ops.toList.foldl befStep []
def readsOf (ops : Array Oper) (o : Oper) : List Nat :=
  (o.op.operands.toList.filterMap fun | .tmp t => some t | _ => none) ++ (match o.guard with | some (j, _) => (((ops[j]?).bind (·.dst)).toList) | none => [])

structure Plan where
  bef : List Nat
  kinds : List Kind
  ok : Bool

def clash : Kind → Kind → Bool
  | .effect, .effect | .effect, .call | .call, .effect => true
  | _, _ => false
def writes (o : Oper) (l : List Nat) : Bool :=
  match o.dst with
  | some a => l.contains a
  | none => false
/-- The operation i may stand before j in the text, and behind it in a run. -/
def pairOk (bef : List Nat) (ks : List Kind) (rds : List (List Nat)) (p : Oper) (i : Nat) (o : Oper) (j : Nat) : Bool :=
  (match p.dst, o.dst with | some a, some b => !Nat.beq a b | _, _ => true) &&
  (!(ks.getD i .effect == .load) || !writes o (rds.getD i [])) &&
  (Nat.testBit (bef.getD j 0) i || (!writes p (rds.getD j []) && !writes o (rds.getD i []) && !clash (ks.getD i .effect) (ks.getD j .effect)))

def planOf (ops : Array Oper) : Plan :=
  let l := ops.toList.zipIdx
  let bef := befs ops
  let ord (i j : Nat) : Bool := if Nat.blt i j then Nat.testBit (bef.getD j 0) i else Nat.testBit (bef.getD i 0) j
  let ks := l.map fun (o, i) => match kindOp o with
    | .call => if l.all fun (p, j) => Nat.beq i j || (kindOp p) == .pure || ord i j then Kind.effect else Kind.call
    | k => k
  let rds := ops.toList.map (readsOf ops)
  let ok := l.all fun (o, j) =>
    (o.after.toList.all fun e => !Region.binds .any e || Nat.blt e.on j) &&
    (!(ks.getD j .effect == .load) || !writes o (rds.getD j [])) &&
    (l.all fun (p, i) => !Nat.blt i j || pairOk bef ks rds p i o j)
  ⟨bef, ks, ok⟩

def sameIV : IV → IV → Bool
  | .raw (.int j a), .raw (.int k b) => j == k && a == b
  | .raw (.bool a), .raw (.bool b) => a == b
  | .raw (.string a), .raw (.string b) => a.data.toList == b.data.toList
  | .ptr a b c d, .ptr a' b' c' d' => Nat.beq a a' && Nat.beq b b' && Nat.beq c c' && Nat.beq d d'
  | .map a, .map b => Nat.beq a b
  | .sl a b c d e f, .sl a' b' c' d' e' f' => Nat.beq a a' && Nat.beq b b' && Nat.beq c c' && (d == d') && Nat.beq e e' && Nat.beq f f'
  | .emp, .emp => true
  | _, _ => false

/-- A piece: what the operation j has made, the objects from lo on below hi. -/
structure Piece where
  j : Nat
  lo : Nat
  hi : Nat
  t : T Ob
def overlay (b : T Ob) (p : Piece) : T Ob :=
  (List.range' p.lo (p.hi - p.lo)).foldl (fun b id => match p.t.get id with | some o => b.set id o | none => b) b

/-- In the middle of a region that draws. bs: the store behind each effect, the youngest first. -/
structure DS where
  e : Env
  n : Nat
  bs : List (Nat × T Ob)
  pcs : List Piece

/-- The store that an operation sees: the pieces that surely came before it, over a base. -/
def seen (pcs : List Piece) (bits : Nat) (b : T Ob) : T Ob := (pcs.filter fun p => Nat.testBit bits p.j).foldl overlay b

def loadAt (e : Env) (o : Oper) (n : Nat) (v : IV) (pcs : List Piece) (bits : Nat) (b : T Ob) : Bool :=
  match evOp P n (evalI e) o ⟨n, seen pcs bits b⟩ with
  | some (.val u σ) => Nat.beq σ.n n && sameIV u v
  | _ => false
/-- The load gives the same at the older bases, down to the effect that surely came before it. -/
def loadBack (e : Env) (o : Oper) (n : Nat) (v : IV) (pcs : List Piece) (bits : Nat) : List (Nat × T Ob) → Bool
  | [] => true
  | (i, b) :: rest => loadAt P e o n v pcs bits b && (Nat.testBit bits i || loadBack e o n v pcs bits rest)

/-- The loads that may come behind the effect all the same give what they gave. -/
def recheck (pl : Plan) (ops : Array Oper) (bits : Nat) (e : Env) (n : Nat) (pcs : List Piece) (b : T Ob) (l : List (Oper × Nat)) : Bool :=
  l.all fun (o, i) => match pl.kinds.getD i .effect with
    | .load => Nat.testBit bits i || !wantedI o ops e || (match o.dst with | some d => loadAt P e o n (e.at d) pcs (pl.bef.getD i 0) b | none => false)
    | _ => true

def drawStep (pl : Plan) (ro : Nat) (ops : Array Oper) (o : Oper) (j : Nat) (d : DS) : Option DS :=
  let bits := pl.bef.getD j 0
  let earlier := ops.toList.zipIdx.take j
  match d.bs with
  | [] => none
  | (i, b) :: rest =>
    if wantedI o ops d.e then
      match pl.kinds.getD j .effect with
      | .pure => match evOp P 0 (evalI d.e) o ⟨0, .lf⟩ with
        | some (.val v σ) => if σ.n = 0 then some { d with e := d.e.put o.dst v } else none
        | _ => none
      | .alloc => match evOp P 0 (evalI d.e) o ⟨d.n, .lf⟩ with
        | some (.val v σ) => some { d with e := d.e.put o.dst v, n := σ.n, pcs := ⟨j, d.n, σ.n, σ.t⟩ :: d.pcs }
        | _ => none
      | .load => match evOp P d.n (evalI d.e) o ⟨d.n, seen d.pcs bits b⟩ with
        | some (.val v σ) =>
          if σ.n = d.n ∧ (Nat.testBit bits i || loadBack P d.e o d.n v d.pcs bits rest) = true then some { d with e := d.e.put o.dst v } else none
        | _ => none
      | .call => match evX P S d.n d.e o ⟨d.n, seen d.pcs bits b⟩ with
        | some (v, σ) => some { d with e := d.e.put o.dst v, n := σ.n, pcs := ⟨j, d.n, σ.n, σ.t⟩ :: d.pcs }
        | none => none
      | .effect =>
        match evX P S ro d.e o ⟨d.n, seen d.pcs bits b⟩ with
        | some (v, σ) =>
          let e := d.e.put o.dst v
          if recheck P pl ops bits d.e σ.n (d.pcs.filter fun p => !Nat.testBit bits p.j) σ.t earlier then
            some ⟨e, σ.n, (j, σ.t) :: d.bs, d.pcs.filter fun p => !Nat.testBit bits p.j⟩
          else none
        | none => none
    else match pl.kinds.getD j .effect with
      | .effect => if recheck P pl ops bits d.e d.n d.pcs b earlier then some ⟨d.e.put o.dst .undef, d.n, (j, b) :: d.bs, d.pcs⟩ else none
      | _ => some { d with e := d.e.put o.dst .undef }

def drawAll (pl : Plan) (ro : Nat) (ops : Array Oper) : List (Oper × Nat) → DS → Option DS
  | [], d => some d
  | (o, j) :: rest, d => match drawStep P S pl ro ops o j d with
    | some d => drawAll pl ro ops rest d
    | none => none

def evDraw (ro : Nat) (ops : Array Oper) (e : Env) (df : List Df) (σ : St) : Option CR :=
  let pl := planOf ops
  if pl.ok then
    match drawAll P S pl ro ops ops.toList.zipIdx ⟨e, σ.n, [(0, σ.t)], []⟩ with
    | some ⟨e, n, (_, b) :: _, pcs⟩ => some ⟨.normal, e, df, ⟨n, pcs.foldl overlay b⟩⟩
    | _ => none
  else none

def evCode (ro : Nat) (rd : Option Nat) (fn : FuncId) (c : Code) (e : Env) (df : List Df) (σ : St) : Option CR :=
  match c with
  | .skip | .label _ => some ⟨.normal, e, df, σ⟩
  | .region _ ops draw => if draw then evDraw P S ro ops e df σ else evOps P S ro rd ops ops.toList e df σ
  | .seq a b => match S.code ro rd fn a e df σ with
    | some ⟨.normal, e, df, σ⟩ => S.code ro rd fn b e df σ
    | r => r
  | .cond c a b => match evalI e c with
    | .raw (.bool t) => S.code ro rd fn (if t then a else b) e df σ
    | _ => none
  | .block id a => match S.code ro rd fn a e df σ with
    | some ⟨.exit id', e, df, σ⟩ => if id' = id then some ⟨.normal, e, df, σ⟩ else some ⟨.exit id', e, df, σ⟩
    | r => r
  | .loop a => match S.code ro rd fn a e df σ with
    | some ⟨.normal, e, df, σ⟩ => S.code ro rd fn (.loop a) e df σ
    | r => r
  | .scope a => match S.code ro rd fn a e df σ with
    | some ⟨.goto _, _, _, _⟩ => none
    | r => r
  | .exit id => some ⟨.exit id, e, df, σ⟩
  | .goto l => some ⟨.goto l, e, df, σ⟩
  | .ret => some ⟨.ret, e, df, σ⟩
  | .rangeFunc g params assign body =>
    let en : Option (Nat × St × List Df) := match rd with
      | none => some (σ.n, σ.add (.dfd false), [.coll σ.n])
      | some l => match σ.at l with
        | some (.loop _ _ _ _ _ _ _ _ dfs) => some (dfs, σ, [])
        | _ => none
    match en with
    | some (dfs, σ, mark) =>
      let l := σ.n
      let σ := σ.add (.loop .ready none fn e.t e.n params.toList assign body dfs)
      match calleeI P (evalI e g) [.yld l] with
      | some (.enter f args) => match S.call ro f args σ with
        | some (_, σ) => match σ.at l with
          | some (.loop state pending f tm ntm ps as bd d) =>
            if state = .busy ∨ ¬ ro ≤ l then none else
            let σ := σ.put l (.loop .exhausted pending f tm ntm ps as bd d)
            match pending with
            | none => some ⟨.normal, e, mark ++ df, σ⟩
            | some c => S.code ro rd fn c e (mark ++ df) σ
          | _ => none
        | none => none
      | _ => none
    | none => none
  | .refuse _ => none

/-- A function's way out: its deferred calls, and the panic under way. -/
def evLeave (ro : Nat) : List Df → Option IV → St → Option (Option IV × St)
  | [], m, σ => some (m, σ)
  | .coll id :: ds, m, σ => match σ.at id with
    | some (.dfd false) => if ro ≤ id then evLeave ro ds m (σ.put id (.dfd true)) else none
    | _ => none
  | .call f args :: ds, m, σ => match S.dcl ro f args m σ with
    | some (m, σ) => evLeave ro ds m σ
    | none => none

def resultOf (fn : Func) (e : Env) (σ : St) : Option IV :=
  let one (r : ResultVar) : Option IV := match r with
    | .tmp t => some (e.at t)
    | .cell a t => match e.at a with
      | .ptr id off ep ext => match sizeOf? P t, σ.at id with
        | some s, some (.cells cs cep mn) => if s ≤ ext ∧ mn ≤ ep ∧ ep ≤ cep then partOf P t cs off else none
        | _, _ => none
      | _ => none
  match fn.results.toList with
  | [r] => one r
  | l => match l.mapM one with
    | some vs => some (.tup vs)
    | none => none

/-- A function's body and its deferred calls. -/
def evBody (ro : Nat) (f : FuncId) (args : List IV) (σ : St) : Option (Func × Env × Option IV × St) :=
  match P.funcs[f]? with
  | some fn => match fn.body with
    | some c =>
      if args.length > fn.ntmps then none else
      let e : Env := (args.zipIdx).foldl (fun e (v, i) => e.put (some i) v) ⟨fn.ntmps, .lf⟩
      match S.code ro none f c e [] σ with
      | some ⟨.normal, e, df, σ⟩ | some ⟨.ret, e, df, σ⟩ => match evLeave S ro df none σ with
        | some (m, σ) => some (fn, e, m, σ)
        | none => none
      | some ⟨.pan v, e, df, σ⟩ => match evLeave S ro df (some v) σ with
        | some (m, σ) => some (fn, e, m, σ)
        | none => none
      | _ => none
    | none => none
  | none => none

def evCall (ro : Nat) (f : FuncId) (args : List IV) (σ : St) : Option (IV × St) :=
  match evBody P S ro f args σ with
  | some (fn, e, none, σ) => match resultOf P fn e σ with
    | some v => some (v, σ)
    | none => none
  | _ => none
def evPan (ro : Nat) (f : FuncId) (args : List IV) (σ : St) : Option (IV × St) :=
  match evBody P S ro f args σ with
  | some (_, _, some v, σ) => some (v, σ)
  | _ => none

def isRecover (o : Oper) : Bool :=
  match o.op with
  | .call { callee := .builtin .recover, .. } => true
  | _ => false
/-- A region of a deferred function: it may recover. -/
def evDOps (ro : Nat) (ops : Array Oper) : List Oper → Env → Option IV → St → Option (Env × Option IV × St)
  | [], e, m, σ => some (e, m, σ)
  | o :: rest, e, m, σ =>
    if wantedI o ops e then
      if isRecover o then
        match m with
        | some v => evDOps ro ops rest (e.put o.dst v) none σ
        | none => evDOps ro ops rest (e.put o.dst (.raw .nilIface)) none σ
      else match evOp P ro (evalI e) o σ with
        | some (.val v σ) => evDOps ro ops rest (e.put o.dst v) m σ
        | _ => none
    else evDOps ro ops rest (e.put o.dst .undef) m σ
/-- A deferred function's code: up to the piece that recovers, and behind it. -/
def evD (ro : Nat) (fn : FuncId) : Code → Env → Option IV → St → Option (CR × Option IV)
  | .seq a b, e, m, σ => match evD ro fn a e m σ with
    | some (⟨.normal, e, [], σ⟩, m) => evD ro fn b e m σ
    | some (⟨.normal, _, _, _⟩, _) => none
    | r => r
  | .region id ops draw, e, m, σ =>
    if !draw && ops.any isRecover then match evDOps P ro ops ops.toList e m σ with
      | some (e, m, σ) => some (⟨.normal, e, [], σ⟩, m)
      | none => none
    else match S.code ro none fn (.region id ops draw) e [] σ with
      | some r => some (r, m)
      | none => none
  | c, e, m, σ => match S.code ro none fn c e [] σ with
    | some r => some (r, m)
    | none => none
def evDcl (ro : Nat) (f : FuncId) (args : List IV) (m : Option IV) (σ : St) : Option (Option IV × St) :=
  match P.funcs[f]? with
  | some fn =>
    if !(fn.body.isSome && fn.name != "runtime.NumGoroutine") then none else
    match fn.body with
    | some c =>
      if args.length > fn.ntmps then none else
      let e : Env := (args.zipIdx).foldl (fun e (v, i) => e.put (some i) v) ⟨fn.ntmps, .lf⟩
      match evD P S ro f c e m σ with
      | some (⟨.normal, e, [], σ⟩, m) | some (⟨.ret, e, [], σ⟩, m) => match resultOf P fn e σ with
        | some _ => some (m, σ)
        | none => none
      | _ => none
    | none => none
  | none => none
end steps

def Self.none : Self := ⟨fun _ _ _ _ _ _ _ => Option.none, fun _ _ _ _ => Option.none, fun _ _ _ _ => Option.none, fun _ _ _ _ _ => Option.none⟩
def evStep (P : Program) (S : Self) : Self := ⟨evCode P S, evCall P S, evPan P S, evDcl P S⟩
/-- The evaluator with fuel. -/
def ev (P : Program) (n : Nat) : Self := Nat.rec Self.none (fun _ S => evStep P S) n
end Go.Ev
