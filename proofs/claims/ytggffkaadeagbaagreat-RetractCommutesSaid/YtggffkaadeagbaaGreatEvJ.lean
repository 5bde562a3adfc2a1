/- Lemmas over the model, without conditions of their own: code run on expressions, definitions. -/
import Derived.Test.YtggffkaadeagbaaGreatEvI
import Derived.Test.YtggffkaadeagbaaGreatEvH
set_option linter.all false
namespace Go.Ev
inductive SE where
  | var (i : Nat)
  | i (n : Int)
  | k (k : IntKind) (n : Int)
  | b (t : Bool)
  | s (l : List UInt8)
  | raw (v : Value)
  | ok (e : SE)
  | agn (n : Nat) (e : SE)
  | fld (e : SE) (j : Nat)
  | idx (s : Nat) (e i : SE)
  | ecl (s : Nat) (e i : SE) (j : Nat)
  | len (e : SE)
  | slen (e : SE)
  | an
  | ac (a r : SE)
  | tr (s : Nat) (r : SE)
  | tp (r : SE)
  | cat (s bytes : Nat) (e f : SE)
  | sets (s : Nat) (e i x : SE)
  | sub (s : Nat) (e lo hi : SE)
  | clr (s : Nat) (e lo z : SE)
  | proj (e : SE) (j : Nat)
  | bin (op : BinOp) (t : TypeId) (a b : SE)
  | un (op : UnOp) (a : SE)
  | cv (src dst : TypeId) (a : SE)
  | mx (big : Bool) (a b : SE)
  | six (e i : SE)
  | ssub (e lo hi : SE)
  | rw (e : SE)
  | rws (e : SE)
  | has (kt : TypeId) (m key : SE)
  | get (kt : TypeId) (m key z : SE)
  | ins (kt : TypeId) (m key x : SE)
  deriving Inhabited
inductive FIR where
  | fail (why : Nat)
  | ret (e : SE)
  | test (e : SE) (a b : FIR)
  | two (e : SE) (a b : FIR)
  | bind (e : SE) (k : FIR)
  | need (e : SE) (k : FIR)
  | call (f : FuncId) (new : Bool) (args : SE) (k : FIR)
  | loop (init : SE) (body : FIR)
  | blk (body : FIR) (m : Nat) (cont : FIR)
  | next (lv : Nat) (args : SE)
  | bad (d f id n0 nm : Nat) (hd : List (Nat × Nat × PV SE)) (hl : List (LO SE)) (g : List (Nat × Nat × PV SE)) (l : List (LO SE))
  deriving Inhabited
section eqs
def ikEq (a b : IntKind) : Bool := a == b
def listEq {α : Type} (f : α → α → Bool) : List α → List α → Bool
  | [], [] => true
  | a :: as, b :: bs => f a b && listEq f as bs
  | _, _ => false
def SE.eq : SE → SE → Bool
  | .var x, .var y => Nat.beq x y
  | .i x, .i y => x == y
  | .k j x, .k j' y => ikEq j j' && x == y
  | .b x, .b y => x == y
  | .s x, .s y => listEq (· == ·) x y
  | .ok x, .ok y => x.eq y
  | .fld e j, .fld f j' => Nat.beq j j' && e.eq f
  | .idx q e x, .idx q' e' x' => Nat.beq q q' && e.eq e' && x.eq x'
  | .ecl q e x j, .ecl q' e' x' j' => Nat.beq q q' && Nat.beq j j' && e.eq e' && x.eq x'
  | .len e, .len f => e.eq f
  | .slen e, .slen f => e.eq f
  | .an, .an => true
  | .ac a r, .ac a' r' => a.eq a' && r.eq r'
  | .tr q r, .tr q' r' => Nat.beq q q' && r.eq r'
  | .tp r, .tp r' => r.eq r'
  | .proj e j, .proj f j' => Nat.beq j j' && e.eq f
  | .bin op t x y, .bin op' t' x' y' => op == op' && Nat.beq t t' && x.eq x' && y.eq y'
  | .un op x, .un op' x' => op == op' && x.eq x'
  | .cv q d x, .cv q' d' x' => Nat.beq q q' && Nat.beq d d' && x.eq x'
  | .mx t x y, .mx t' x' y' => t == t' && x.eq x' && y.eq y'
  | .rw x, .rw y => x.eq y
  | _, _ => false
end eqs
structure SS where
  g : List (Nat × Nat × PV SE)
  l : List (LO SE)
  n : Nat
  lv : Nat
  nt : Nat
  deriving Inhabited
def SS.ln (V : SS) : Nat × Nat := (V.lv, V.nt)
structure Hint where
  d : Nat
  f : Nat
  id : Nat
  slots : List (Nat × Nat × Nat)   -- cells of slots that change: frame, slot, cell
  objs : List (Nat × Nat)          -- objects that change, and their cells
  drop : List (Nat × Nat)          -- slots that are forgotten
  weak : List (Nat × Nat × Nat)    -- slots that read as (2), or are plain (1)
  deriving Inhabited
structure Cfg where
  pure : List Nat
  joins : List Nat
  stop : List Nat
  hints : List Hint
  rows : List Nat
section run
variable (P : Program) (cfg : Cfg)
def fieldAt (s : TypeId) (f : Nat) : Option (Nat × Nat) :=
  match P.underlying s with
  | some (.struct fields) => match fields[f]? with
    | some fd => match sizeOf? P fd.type with
      | some sz => some (fd.offset, sz)
      | none => none
    | none => none
  | _ => none
def elemOf (t : TypeId) : Option TypeId :=
  match P.underlying t with
  | some (.slice e) => some e
  | _ => none
def cellTys : Nat → TypeId → List TypeId
  | 0, _ => []
  | n + 1, t => match P.underlying t with
    | some (.struct fields) => fields.toList.flatMap fun f => cellTys n f.type
    | some (.array m e) => (List.replicate m (cellTys n e)).flatten
    | _ => [t]
def scalarT (t : TypeId) : Bool :=
  match P.underlying t with
  | some .bool | some (.int _) | some .string => true
  | _ => false
def constC (t : TypeId) : Value → Cl SE
  | .bool b => .v (.b b)
  | .int .i64 n => .v (.i n)
  | .int k n => .v (.k k n)
  | .string b => .v (.s b.data.toList)
  | .slice none 0 0 => match (elemOf P t).bind (sizeOf? P) with
    | some s => if Nat.beq s 0 then .v (.raw (.slice none 0 0)) else .nl true s
    | none => .v (.raw (.slice none 0 0))
  | .agg _ | .tuple _ => .un
  | v => .v (.raw v)
def zip2 {α β γ : Type} (f : α → β → γ) : List α → List β → List γ
  | a :: as, b :: bs => f a b :: zip2 f as bs
  | _, _ => []
def constPV (t : TypeId) : Value → PV SE
  | .agg cs => if Nat.beq (cellTys P 9 t).length cs.toList.length then .ag (zip2 (constC P) (cellTys P 9 t) cs.toList) else .one .un
  | v => .one (constC P t v)
def zeroCells (t : TypeId) : List (Cl SE) :=
  match zeroOf? P t with
  | some z => if Nat.beq (cellTys P 9 t).length z.cells.toList.length then zip2 (constC P) (cellTys P 9 t) z.cells.toList else z.cells.toList.map fun _ => .un
  | none => []
def isAgg (t : TypeId) : Bool := (aggT P t) == some true
def opdS (d : Nat) (V : SS) (t : TypeId) : Operand → PV SE
  | .tmp x => (gget d x V.g).getD (.one .un)
  | .const v => constPV P t v
  | .func f => .one (.fn f [])
  | .global _ => .one .un
def cellsP {α : Type} : PV α → List (Cl α)
  | .one c => [c]
  | .ag cs => cs
  | .tu _ => [.un]
def noUn : List (Cl SE) → Bool
  | [] => true
  | .un :: _ => false
  | _ :: cs => noUn cs
def SS.setSlot (V : SS) (d : Nat) (dst : Option Nat) (pv : PV SE) : SS :=
  match dst with
  | none => V
  | some t => { V with g := gset d t pv V.g }
def SS.delSlot (V : SS) (d : Nat) (dst : Option Nat) : SS :=
  match dst with
  | none => V
  | some t => { V with g := gdel d t V.g }
def SS.dropRow (V : SS) (k : Nat) : SS := { V with g := gdrop k V.g, l := V.l.map (LO.drop k) }
def SS.setObj (V : SS) (k : Nat) (o : LO SE) : SS := { V with l := V.l.set k o }
def acs : List SE → SE
  | [] => .an
  | a :: as => .ac a (acs as)
def standRow (k : Nat) (V : SS) : SS :=
  match V.l[k]? with
  | some (.row s false cut fr es) => V.setObj k (.row s true cut fr es)
  | _ => V
def rdC (V : SS) : Cl SE → Option (Bool × SE × SS)
  | .v z => some (true, z, V)
  | .w fr z => some (fr, z, V)
  | .nl _ s => some (false, .tr s .an, V)
  | .sr k => match V.l[k]? with
    | some (.row _ _ _ fr es) => some (fr, es, standRow k V)
    | _ => none
  | _ => none
def rdCs (V : SS) : List (Cl SE) → Option (Bool × List SE × SS)
  | [] => some (false, [], V)
  | c :: cs => match rdC V c with
    | some (f1, z, V) => match rdCs V cs with
      | some (f2, zs, V) => some (f1 || f2, z :: zs, V)
      | none => none
    | none => none
def rdPV (V : SS) : PV SE → Option (Bool × SE × SS)
  | .one c => rdC V c
  | .ag cs => match rdCs V cs with
    | some (f, zs, V) => some (f, acs zs, V)
    | none => none
  | .tu vs => match rdTu V vs with
    | some (f, zs, V) => some (f, .tp (acs zs), V)
    | none => none
where rdTu (V : SS) : List (Bool × List (Cl SE)) → Option (Bool × List SE × SS)
  | [] => some (false, [], V)
  | (a, cs) :: vs => match rdCs V cs with
    | some (f1, zs, V) => match rdTu V vs with
      | some (f2, ys, V) => match a, zs with
        | true, zs => some (f1 || f2, acs zs :: ys, V)
        | false, [z] => some (f1 || f2, z :: ys, V)
        | _, _ => none
      | none => none
    | none => none
def allV : List (Cl SE) → Bool
  | [] => true
  | .v _ :: cs => allV cs
  | .nl _ _ :: cs => allV cs
  | _ :: _ => false
def plainPV : PV SE → Bool
  | .one c => allV [c]
  | .ag cs => allV cs
  | .tu _ => false
def ofType (t : TypeId) (e : SE) : PV SE :=
  if isAgg P t then .ag ((List.range ((sizeOf? P t).getD 0)).map fun j => .v (.fld e j)) else .one (.v (.ok e))
def needT (t : TypeId) (e : SE) (k : FIR) : FIR := if isAgg P t then .need (.agn ((sizeOf? P t).getD 0) e) k else .need (.ok e) k
def needTs (e : SE) : Nat → List TypeId → FIR → FIR
  | _, [], k => k
  | j, t :: ts, k => needT P t (.proj e j) (needTs e (j + 1) ts k)
def vk (e : SE) (V : SS) (k : PV SE → SS → FIR) : FIR := .need e (k (.one (.v e)) V)
def ofTypes (e : SE) : Nat → List TypeId → List (Bool × List (Cl SE))
  | _, [] => []
  | j, t :: ts => (isAgg P t, cellsP (ofType P t (.proj e j))) :: ofTypes e (j + 1) ts
def argsS (d : Nat) (V : SS) : List Operand → List TypeId → List (PV SE)
  | x :: xs, t :: ts => opdS P d V t x :: argsS d V xs ts
  | x :: xs, [] => opdS P d V 0 x :: argsS d V xs []
  | [], _ => []
def capS (d : Nat) (V : SS) : List Operand → Option (List (Nat × Nat))
  | [] => some []
  | x :: xs => match opdS P d V 0 x with
    | .one (.pt k 0 ext) => match capS d V xs with
      | some l => some ((k, ext) :: l)
      | none => none
    | _ => none
def placeS (cells : List (Cl SE)) (off : Nat) (new : List (Cl SE)) : List (Cl SE) := cells.take off ++ new ++ cells.drop (off + new.length)
def placeParts (get : Nat → Operand → List (Cl SE)) (place : Nat → Option (Nat × Nat)) : List (Nat × Operand) → List (Cl SE) → Option (List (Cl SE))
  | [], cs => some cs
  | (j, x) :: ps, cs => match place j with
    | some (off, sz) =>
      let new := get j x
      if noUn new && Nat.beq new.length sz && Nat.ble (off + sz) cs.length then placeParts get place ps (placeS cs off new) else none
    | none => none
def tyOf (fields : Array Field) (j : Nat) : TypeId := ((fields[j]?).map (·.type)).getD 0
def placeSt (fields : Array Field) (j : Nat) : Option (Nat × Nat) := (fields[j]?).bind fun f => (sizeOf? P f.type).map fun s => (f.offset, s)
def placeAt (s j : Nat) : Option (Nat × Nat) := some (j * s, s)
def rawLit : SE → Bool
  | .i _ | .k _ _ | .b _ | .s _ => true
  | _ => false
def rdT (V : SS) (c : Cl SE) (t : TypeId) : Option (Bool × SE × SS × List SE) :=
  match c with
  | .v z => if scalarT P t then some (false, z, V, if rawLit z then [] else [z]) else some (true, z, V, [])
  | c => match rdC V c with
    | some (fr, z, V) => some (fr, z, V, [])
    | none => none
def rdTs (V : SS) : List (Cl SE) → List TypeId → Option (Bool × List SE × SS × List SE)
  | [], _ => some (false, [], V, [])
  | c :: cs, t :: ts => match rdT P V c t with
    | some (f1, z, V, r1) => match rdTs V cs ts with
      | some (f2, zs, V, r2) => some (f1 || f2, z :: zs, V, r1 ++ r2)
      | none => none
    | none => none
  | _ :: _, [] => none
def chunkS (s : Nat) : Nat → List SE → List SE
  | 0, _ => []
  | n + 1, zs => acs (zs.take s) :: chunkS s n (zs.drop s)
def cycleC (zero : List (Cl SE)) : Nat → List (Cl SE)
  | 0 => []
  | n + 1 => zero ++ cycleC zero n
def cycleT (ts : List TypeId) : Nat → List TypeId
  | 0 => []
  | n + 1 => ts ++ cycleT ts n
def needs : List SE → FIR → FIR
  | [], k => k
  | e :: es, k => .need (.rw e) (needs es k)
def newVar (V : SS) (e : SE) (k : SE → SS → FIR) : FIR := .bind e (k (.var V.n) { V with n := V.n + 1 })
def newObj (V : SS) (o : LO SE) (k : Nat → SS → FIR) : FIR := k V.l.length { V with l := V.l ++ [o] }
def loadS (t : TypeId) (a : PV SE) (V : SS) (k : PV SE → SS → FIR) : FIR :=
  let ag := isAgg P t
  match sizeOf? P t, aggT P t with
  | none, _ => .fail 1
  | _, none => .fail 1
  | some s, some _ =>
    let out (cs : List (Cl SE)) : FIR := if ag then (if Nat.beq cs.length s then k (.ag cs) V else .fail 2) else match cs with
      | [c] => k (.one c) V
      | _ => .fail 3
    match a with
    | .one (.pt j off ext) => match V.l[j]? with
      | some (.var cs) => if Nat.ble s ext && Nat.ble (off + s) cs.length then out ((cs.drop off).take s) else .fail 4
      | _ => .fail 5
    | .one (.tp cs) => if Nat.ble s cs.length then out (((cs.map .v).drop 0).take s) else .fail 4
    | .one (.tw fr cs) => if Nat.ble s cs.length then out (((cs.map (.w fr)).drop 0).take s) else .fail 4
    | .one (.pr j i off ext) => match V.l[j]? with
      | some (.row sz _ _ fr es) => if Nat.ble s ext then out ((((List.range sz).map fun q => .w fr (.ecl sz es i q)).drop off).take s) else .fail 4
      | _ => .fail 6
    | _ => .fail 7
def appendS (bytes : Nat) (s : Nat) (base : Cl SE) (fr : Bool) (es : SE) (V : SS) (k : PV SE → SS → FIR) : FIR :=
  match base with
  | .nl _ s' => if Nat.beq s s' then newVar V (.cat s bytes (.tr s .an) es) fun z V => newObj V (.row s false false fr z) fun j V => k (.one (.sr j)) V else .fail 10
  | .sr j => match V.l[j]? with
    | some (.row s' st cut fr' es') =>
      if Nat.beq s s' && !(st && cut) then newVar V (.cat s bytes es' es) fun z V => k (.one (.sr j)) (((V.dropRow j)).setObj j (.row s st cut (fr || fr') z)) else .fail 11
    | _ => .fail 12
  | _ => .fail 13
def neRow (j : Nat) : Cl SE → Bool
  | .sr j' => !Nat.beq j j'
  | _ => true
def appArgS (V : SS) (et : TypeId) (s : Nat) (base : Cl SE) : Cl SE → Option (Bool × SE × Bool)
  | .sr j => match V.l[j]? with
    | some (.row s' _ _ fr es) => if Nat.beq s s' && neRow j base then some (fr, es, false) else none
    | _ => none
  | .nl _ _ => some (false, .tr s .an, false)
  | .w fr z => some (fr, z, false)
  | .v z => if (cellTys P 9 et).all (scalarT P) then some (false, z, true) else some (true, z, false)
  | _ => none
def isRow (o : Option (LO SE)) (s : Nat) (cut fr : Bool) (es : SE) : Bool :=
  match o with
  | some (.row s' false cut' fr' es') => Nat.beq s s' && cut == cut' && fr == fr' && es.eq es'
  | _ => false
def zeroS (t : TypeId) : Option SE :=
  match zeroOf? P t with
  | some (.bool b) => some (.b b)
  | some (.int q n) => some (.k q n)
  | some (.string b) => some (.s b.data.toList)
  | _ => none
def valS : PV SE → Option SE
  | .one (.v e) => some e
  | .ag [] => some .an
  | _ => none
def updateS (kt : TypeId) (m key x : PV SE) (V : SS) (k : PV SE → SS → FIR) : FIR :=
  match m, key, valS x with
  | .one (.mp j), .one (.v ke), some xe => match V.l[j]? with
    | some (.mp kt' es) => if Nat.beq kt kt' then newVar V (.ins kt es ke xe) fun z V => k (.one .un) (V.setObj j (.mp kt z)) else .fail 63
    | _ => .fail 64
  | _, _, _ => .fail 65
def lookupS (kt et : TypeId) (m key : PV SE) (ok : Bool) (V : SS) (k : PV SE → SS → FIR) : FIR :=
  match m, key, zeroS P et with
  | .one (.mp j), .one (.v ke), some z0 => match V.l[j]? with
    | some (.mp kt' es) => if Nat.beq kt kt' then newVar V (.ok (.rw (.get kt es ke z0))) fun r V =>
        if ok then newVar V (.has kt es ke) fun h V => k (.tu [(false, [.v r]), (false, [.v h])]) V else k (.one (.v r)) V
      else .fail 67
    | _ => .fail 68
  | _, _, _ => .fail 69
def unitT (t : TypeId) : Bool :=
  match zeroOf? P t with
  | some (.agg cs) => cs.toList.isEmpty
  | _ => false
def lookupU (kt : TypeId) (m key : PV SE) (V : SS) (k : PV SE → SS → FIR) : FIR :=
  match m, key with
  | .one (.mp j), .one (.v ke) => match V.l[j]? with
    | some (.mp kt' es) => if Nat.beq kt kt' then .need (.agn 0 (.get kt es ke .an)) (newVar V (.has kt es ke) fun h V => k (.tu [(true, []), (false, [.v h])]) V) else .fail 67
    | _ => .fail 68
  | _, _ => .fail 69
def numS (d : Nat) (V : SS) (dflt : SE) : Option Operand → Option SE
  | none => some dflt
  | some o => match opdS P d V 3 o with
    | .one (.v e) => some e
    | _ => none
def stood (V : SS) : Cl SE → Bool
  | .sr j => match V.l[j]? with
    | some (.row _ st _ _ _) => st
    | _ => false
  | _ => false
def sliceS2 (d : Nat) (t : TypeId) (x : PV SE) (lo hi mx : Option Operand) (V : SS) (k : PV SE → SS → FIR) : FIR :=
  match P.underlying t, x, mx with
  | some (.slice el), .one c, none => match sizeOf? P el with
    | some s => match c, lo, hi, stood V c with
      | .sr j, some l, none, false => match V.l[j]?, opdS P d V 3 l with
        | some (.row s' false cut fr es), .one (.v e) => if Nat.beq s s' then .need (.sub s es e (.len es)) (k (.one (.sv j e)) V) else .fail 24
        | _, _ => .fail 25
      | c, lo, hi, _ => match (match c with | .v _ | .nl _ _ | .sr _ => rdC V c | _ => none) with
        | some (fr, z, V2) => match numS P d V (.i 0) lo, numS P d V (.len z) hi with
          | some l, some h => newVar V2 (.sub s z l h) fun y V => k (.one (.w fr y)) V
          | _, _ => .fail 26
        | none => .fail 27
    | none => .fail 28
  | _, _, _ => .fail 29
def clearS (c : Call) (pvs : List (PV SE)) (V : SS) (k : PV SE → SS → FIR) : FIR :=
  match (c.argTypes[0]?).bind P.underlying, pvs with
  | some (.slice et), [.one (.sv j lo)] => match V.l[j]?, zeroOf? P et with
    | some (.row s false cut fr es), some z =>
      if Nat.beq z.cells.size s && (isAgg P et || Nat.beq s 1) && noUn (zeroCells P et) && Nat.beq (zeroCells P et).length s then
        match rdCs V (zeroCells P et) with
        | some (f, zs, V2) => if isRow V2.l[j]? s cut fr es then newVar V2 (.clr s es lo (if isAgg P et then acs zs else zs.headD .an)) fun z V => k (.one .un) (V.setObj j (.row s false cut (fr || f) z)) else .fail 103
        | none => .fail 103
      else .fail 104
    | _, _ => .fail 105
  | _, _ => .fail 106
def seOf : PV SE → Option SE
  | .one (.v e) => some e
  | .one (.w _ e) => some e
  | _ => none
def mxS (big : Bool) (pvs : List (PV SE)) (V : SS) (k : PV SE → SS → FIR) : FIR :=
  match pvs with
  | [a, b] => match seOf a, seOf b with
    | some a, some b => vk (.ok (.rw (.mx big a b))) V k
    | _, _ => .fail 75
  | _ => .fail 76
def opS2 (d : Nat) (o : Oper) (V : SS) (k : PV SE → SS → FIR) : FIR :=
  match o.op with
  | .makeFunc (.func f) first cap => if first.toList.isEmpty then match capS P d V cap.toList with
      | some bs => k (.one (.fn f bs)) V
      | none => .fail 60
    else .fail 61
  | .makeMap t r => match r, P.underlying t with
    | none, some (.map kt _) => newObj V (.mp kt (.tp .an)) fun j V => k (.one (.mp j)) V
    | _, _ => .fail 62
  | .mapUpdate t m key x | .insert t m key x => match P.underlying t with
    | some (.map kt et) => updateS kt (opdS P d V t m) (opdS P d V kt key) (opdS P d V et x) V k
    | _ => .fail 66
  | .lookup t m key ok => match P.underlying t with
    | some (.map kt et) => if ok && unitT P et then lookupU kt (opdS P d V t m) (opdS P d V kt key) V k else lookupS P kt et (opdS P d V t m) (opdS P d V kt key) ok V k
    | _ => .fail 70
  | .index t x ix => match P.underlying t, seOf (opdS P d V t x), seOf (opdS P d V 0 ix) with
    | some .string, some a, some b => vk (.six a b) V k
    | _, _, _ => .fail 74
  | .slice t x lo hi mx => sliceS2 P d t (opdS P d V t x) lo hi mx V k
  | .call c => match c.callee with
    | .builtin .clear => clearS P c (argsS P d V c.args.toList c.argTypes.toList) V k
    | .builtin .max => mxS true (argsS P d V c.args.toList c.argTypes.toList) V k
    | .builtin .min => mxS false (argsS P d V c.args.toList c.argTypes.toList) V k
    | _ => .fail 201
  | _ => .fail 200
def opS (d : Nat) (o : Oper) (V : SS) (k : PV SE → SS → FIR) : FIR :=
  let get (t : TypeId) (x : Operand) : PV SE := opdS P d V t x
  match o.op with
  | .move x | .assign x => k (get o.type x) V
  | .pick c a b => match get 0 c with
    | .one (.v (.b true)) => k (get o.type a) V
    | .one (.v (.b false)) => k (get o.type b) V
    | _ => .fail 40
  | .alloc t => let cs := zeroCells P t; if (zeroOf? P t).isNone then .fail 38 else newObj V (.var cs) fun j V => k (.one (.pt j 0 cs.length)) V
  | .box t x => let cs := cellsP (get t x); if !noUn cs then .fail 39 else newObj V (.var cs) fun j V => k (.one (.pt j 0 cs.length)) V
  | .load t a => loadS P t (get 0 a) V k
  | .store t a x => match get 0 a with
    | .one (.pt j off ext) => match V.l[j]? with
      | some (.var cs) =>
        let new := cellsP (get t x)
        if noUn new && Nat.ble new.length ext && Nat.ble (off + new.length) cs.length && (sizeOf? P t) == some new.length then k (.one .un) (V.setObj j (.var (placeS cs off new))) else .fail 41
      | _ => .fail 42
    | .one (.pr j i off ext) => match V.l[j]? with
      | some (.row s false cut fr es) =>
        let new := cellsP (get t x)
        if Nat.beq off 0 && Nat.beq new.length s && Nat.beq s ext && sizeOf? P t == some s && noUn new && (isAgg P t || Nat.beq s 1) then
          match rdCs V new with
          | some (f, zs, V2) => if isRow V2.l[j]? s cut fr es then newVar V2 (.sets s es i (if isAgg P t then acs zs else zs.headD .an)) fun z V => k (.one .un) (V.setObj j (.row s false cut (fr || f) z)) else .fail 43
          | none => .fail 43
        else .fail 44
      | _ => .fail 45
    | _ => .fail 46
  | .nilCheck x => match get 0 x with
    | .one (.pt a b c) => k (.one (.pt a b c)) V
    | .one (.fn _ _) => .fail 47
    | .one (.tp a) => k (.one (.tp a)) V
    | _ => .fail 47
  | .binOp op t x y _ => match get t x, get t y with
    | .ag cs, .ag ds => match rdCs V cs, rdCs V ds with
      | some (_, a, _), some (_, b, _) => vk (.ok (.bin op t (acs a) (acs b))) V k
      | _, _ => .fail 48
    | .one (.v a), .one (.v b) => vk (.ok (.bin op t a b)) V k
    | .one (.w _ a), .one (.v b) => vk (.ok (.bin op t a b)) V k
    | .one (.v a), .one (.w _ b) => vk (.ok (.bin op t a b)) V k
    | .one (.w _ a), .one (.w _ b) => vk (.ok (.bin op t a b)) V k
    | _, _ => .fail 50
  | .unOp op _ x => match get 0 x with
    | .one (.v (.b t)) => match op with
      | .not => k (.one (.v (.b (!t)))) V
      | _ => .fail 51
    | .one (.v a) => vk (.ok (.un op a)) V k
    | .one (.w _ a) => vk (.ok (.un op a)) V k
    | _ => .fail 52
  | .convert src dst x => match get src x with
    | .one (.v a) => vk (.ok (.cv src dst a)) V k
    | .one (.w _ a) => vk (.ok (.cv src dst a)) V k
    | _ => .fail 53
  | .build t parts => match P.underlying t with
    | some (.struct fields) =>
      if !(fields.all fun f => (sizeOf? P f.type).isSome) || (zeroOf? P t).isNone then .fail 53 else
      match placeParts (fun j x => cellsP (opdS P d V (tyOf fields j) x)) (placeSt P fields) parts.toList (zeroCells P t) with
      | some cs => k (.ag cs) V
      | none => .fail 54
    | some (.array _ et) => match sizeOf? P et with
      | some s => if (zeroOf? P t).isNone then .fail 53 else
        match placeParts (fun _ x => cellsP (opdS P d V et x)) (placeAt s) parts.toList (zeroCells P t) with
        | some cs => k (.ag cs) V
        | none => .fail 55
      | none => .fail 56
    | _ => .fail 56
  | .buildSlice t len parts => match elemOf P t with
    | some et => match sizeOf? P et, zeroOf? P et with
      | some s, some z => if Nat.beq s 0 || !Nat.beq z.cells.size s || !Nat.ble (len * s) 1048576 then .fail 58 else
        if Nat.beq len 0 then (if parts.toList.isEmpty then k (.one (.nl false s)) V else .fail 58) else
        match placeParts (fun _ x => cellsP (opdS P d V et x)) (placeAt s) parts.toList (cycleC (zeroCells P et) len) with
        | some cs => match rdTs P V cs (cycleT (cellTys P 9 et) len) with
          | some (fr, zs, V, rws) => if !(isAgg P et || Nat.beq s 1) then .fail 57 else
            needs (if fr then [] else rws) (newObj V (.row s false false fr (.tr s (acs (if isAgg P et then chunkS s len zs else zs)))) fun j V => k (.one (.sr j)) V)
          | none => .fail 57
        | none => .fail 57
      | _, _ => .fail 58
    | none => .fail 59
  | .fieldAddr s x f => match fieldAt P s f with
    | some (fo, sz) => if Nat.beq sz 0 then .fail 71 else match get 0 x with
      | .one (.pt j off ext) => if Nat.ble (fo + sz) ext then k (.one (.pt j (off + fo) sz)) V else .fail 72
      | .one (.tp cs) => if Nat.ble (fo + sz) cs.length then k (.one (.tp ((cs.drop fo).take sz))) V else .fail 73
      | .one (.tw fr cs) => if Nat.ble (fo + sz) cs.length then k (.one (.tw fr ((cs.drop fo).take sz))) V else .fail 73
      | .one (.pr j i off ext) => if Nat.ble (fo + sz) ext then k (.one (.pr j i (off + fo) sz)) V else .fail 74
      | _ => .fail 75
    | none => .fail 76
  | .field t x f => match get t x, fieldAt P t f with
    | .ag cs, some (fo, sz) => match P.underlying t with
      | some (.struct fields) =>
        if Nat.ble (fo + sz) cs.length && (aggT P ((fields[f]?).map (·.type) |>.getD 0)).isSome then
          if isAgg P ((fields[f]?).map (·.type) |>.getD 0) then (if Nat.beq ((cs.drop fo).take sz).length sz then k (.ag ((cs.drop fo).take sz)) V else .fail 77) else match (cs.drop fo).take sz with
          | [c] => k (.one c) V
          | _ => .fail 78
        else .fail 79
      | _ => .fail 79
    | _, _ => .fail 80
  | .indexAddr t x ix => match P.underlying t, get 3 ix with
    | some (.slice et), .one (.v i) => match sizeOf? P et with
      | some s => match get t x with
        | .one (.v z) => newVar V (.idx s z i) fun e V => needT P et e (k (.one (.tp (if isAgg P et then (List.range s).map (fun j => .fld e j) else [.ok e]))) V)
        | .one (.w fr z) => newVar V (.idx s z i) fun e V => needT P et e (k (.one (.tw fr (if isAgg P et then (List.range s).map (fun j => .fld e j) else [.ok e]))) V)
        | .one (.sr j) => match V.l[j]? with
          | some (.row s' _ _ _ es) => if Nat.beq s s' then .need (.idx s es i) (k (.one (.pr j i 0 s)) V) else .fail 81
          | _ => .fail 82
        | _ => .fail 83
      | none => .fail 84
    | some (.array n et), .one (.v (.i i)) => match sizeOf? P et, get t x with
      | some s, .one (.pt j off ext) => if !Nat.beq s 0 && decide (0 ≤ i) && Nat.blt i.toNat n && Nat.ble (i.toNat * s + s) ext then k (.one (.pt j (off + i.toNat * s) s)) V else .fail 85
      | some s, .one (.tp cs) => .fail 86
      | _, _ => .fail 87
    | _, _ => .fail 88
  | .extract x i => match get 0 x with
    | .tu vs => match vs[i]? with
      | some (true, cs) => k (.ag cs) V
      | some (false, [c]) => k (.one c) V
      | _ => .fail 93
    | _ => .fail 94
  | .call c => match c.callee with
    | .builtin b => match b, argsS P d V c.args.toList c.argTypes.toList with
      | .len, [pv] => match (c.argTypes[0]?).bind P.underlying with
       | some .string => match pv with
        | .one (.v z) => vk (.slen z) V k
        | .one (.w _ z) => vk (.slen z) V k
        | _ => .fail 96
       | some (.slice _) => match pv with
        | .one (.v z) => vk (.len z) V k
        | .one (.w _ z) => vk (.len z) V k
        | .one (.nl _ _) => k (.one (.v (.i 0))) V
        | .one (.sr j) => match V.l[j]? with
          | some (.row _ _ _ _ es) => vk (.len es) V k
          | _ => .fail 95
        | _ => .fail 96
       | _ => .fail 96
      | .append, [.one base, .one x] => match c.argTypes[0]?, c.argTypes[1]? with
        | some t0, some t1 => match elemOf P t0, elemOf P t1 with
          | some et, some _ => match sizeOf? P et, zeroOf? P et, (P.info? et).map (·.bytes) with
            | some s, some z, some bytes => if Nat.beq s 0 || !Nat.beq z.cells.size s then .fail 97 else
              match appArgS P V et s base x with
              | some (fr, es, raw) => if raw then .need (.rws es) (appendS bytes s base fr es V k) else appendS bytes s base fr es V k
              | none => .fail 98
            | _, _, _ => .fail 101
          | _, _ => .fail 102
        | _, _ => .fail 102
      | .len, _ => .fail 105
      | .append, _ => .fail 105
      | _, _ => opS2 P d o V k
    | _ => .fail 106
  | _ => opS2 P d o V k
inductive Ex2 where
  | normal
  | exit (id : Nat)
  | ret
inductive Want where
  | run | skip | test (t : Nat) (e : SE) (want : Bool) | fail
def wantS (ops : Array Oper) (d : Nat) (V : SS) (o : Oper) : Want :=
  match o.guard with
  | none => .run
  | some (j, want) => match (ops[j]?).bind (·.dst) with
    | some t => if !Nat.blt t V.nt then .fail else match gget d t V.g with
      | some (.one (.v (.b x))) => if x == want then .run else .skip
      | some (.one (.v e)) => .test t e want
      | some (.one (.w _ e)) => .test t e want
      | _ => .fail
    | none => .fail
def memSlot (l : List (Nat × Nat × Nat)) (d t j : Nat) : Bool := l.any fun (a, b, c) => Nat.beq a d && Nat.beq b t && Nat.beq c j
def memPair (l : List (Nat × Nat)) (a b : Nat) : Bool := l.any fun (c, d) => Nat.beq a c && Nat.beq b d
def genC (ch : Bool) (mode : Nat) (c : Cl SE) (n : Nat) (init : List SE) : Cl SE × Nat × List SE :=
  match mode, c with
  | 1, .v z => (.v (.var n), n + 1, z :: init)
  | 1, .nl _ s => (.v (.var n), n + 1, .tr s .an :: init)
  | 2, .v z => (.w true (.var n), n + 1, z :: init)
  | 2, .w _ z => (.w true (.var n), n + 1, z :: init)
  | 2, .nl _ s => (.w true (.var n), n + 1, .tr s .an :: init)
  | _, c =>
    if ch then match c with
      | .v z => (.v (.var n), n + 1, z :: init)
      | .w fr z => (.w fr (.var n), n + 1, z :: init)
      | c => (c, n, init)
    else (c, n, init)
def genCs (ch : Nat → Bool) : Nat → List (Cl SE) → Nat → List SE → List (Cl SE) × Nat × List SE
  | _, [], n, init => ([], n, init)
  | j, c :: cs, n, init =>
    let (c, n, init) := genC (ch j) 0 c n init
    let (cs, n, init) := genCs ch (j + 1) cs n init
    (c :: cs, n, init)
def modeOf (h : Hint) (d t : Nat) : Nat := if memSlot h.weak d t 2 then 2 else if memSlot h.weak d t 1 then 1 else 0
def genTu (ch : Nat → Bool) : Nat → List (Bool × List (Cl SE)) → Nat → List SE → List (Bool × List (Cl SE)) × Nat × List SE
  | _, [], n, init => ([], n, init)
  | j, (a, cs) :: vs, n, init =>
    let (cs, n, init) := genCs ch j cs n init
    let (vs, n, init) := genTu ch (j + cs.length) vs n init
    ((a, cs) :: vs, n, init)
def genG (h : Hint) : List (Nat × Nat × PV SE) → Nat → List SE → List (Nat × Nat × PV SE) × Nat × List SE
  | [], n, init => ([], n, init)
  | (d, t, pv) :: g, n, init =>
    if memPair h.drop d t then genG h g n init else
    match pv with
    | .one c =>
      let (c, n, init) := genC (memSlot h.slots d t 0) (modeOf h d t) c n init
      let (g, n, init) := genG h g n init
      ((d, t, .one c) :: g, n, init)
    | .ag cs =>
      let (cs, n, init) := genCs (memSlot h.slots d t) 0 cs n init
      let (g, n, init) := genG h g n init
      ((d, t, .ag cs) :: g, n, init)
    | .tu vs =>
      let (vs, n, init) := genTu (memSlot h.slots d t) 0 vs n init
      let (g, n, init) := genG h g n init
      ((d, t, .tu vs) :: g, n, init)
def settle1 (d t : Nat) (V : SS) : SS :=
  match gget d t V.g with
  | some (.one (.sr k)) => match V.l[k]? with
    | some (.row _ _ _ fr es) => (standRow k V).setSlot d (some t) (.one (.w fr es))
    | _ => V
  | _ => V
def settle : List (Nat × Nat × Nat) → SS → SS
  | [], V => V
  | (d, t, m) :: ws, V => settle ws (if Nat.beq m 2 then settle1 d t V else V)
def genL (h : Hint) : Nat → List (LO SE) → Nat → List SE → List (LO SE) × Nat × List SE
  | _, [], n, init => ([], n, init)
  | k, o :: l, n, init =>
    let (o, n, init) := (match o with
      | .var cs =>
        let (cs, n, init) := genCs (memPair h.objs k) 0 cs n init
        (LO.var cs, n, init)
      | .row s st cut fr es => if memPair h.objs k 0 then (.row s (st || memPair h.objs k 1) (cut || memPair h.objs k 2) (fr || memPair h.objs k 3) (.var n), n + 1, es :: init) else (.row s (st || memPair h.objs k 1) (cut || memPair h.objs k 2) (fr || memPair h.objs k 3) es, n, init)
      | .mp kt es => if memPair h.objs k 0 then (.mp kt (.var n), n + 1, es :: init) else (.mp kt es, n, init)
      | .dead => (.dead, n, init) : LO SE × Nat × List SE)
    let (l, n, init) := genL h (k + 1) l n init
    (o :: l, n, init)
def promoS (d t j : Nat) (V : SS) : SS :=
  match gget d t V.g with
  | some (.one (.nl _ s)) => if Nat.beq j 0 then { V with l := V.l ++ [.row s false false false (.tr s .an)], g := gset d t (.one (.sr V.l.length)) V.g } else V
  | some (.ag cs) => match cs[j]? with
    | some (.nl _ s) => { V with l := V.l ++ [.row s false false false (.tr s .an)], g := gset d t (.ag (cs.set j (.sr V.l.length))) V.g }
    | _ => V
  | _ => V
def promoO (k j : Nat) (V : SS) : SS :=
  match V.l[k]? with
  | some (.var cs) => match cs[j]? with
    | some (.nl _ s) => { V with l := V.l.set k (.var (cs.set j (.sr V.l.length))) ++ [.row s false false false (.tr s .an)] }
    | _ => V
  | _ => V
def promoSs (h : Hint) : List (Nat × Nat × Nat) → SS → SS
  | [], V => V
  | (d, t, j) :: l, V => promoSs h l (if Nat.beq (modeOf h d t) 0 then promoS d t j V else V)
def promoOs : List (Nat × Nat) → SS → SS
  | [], V => V
  | (k, j) :: l, V => promoOs l (promoO k j V)
def promote (h : Hint) (V : SS) : SS := promoOs h.objs.reverse (promoSs h h.slots.reverse V)
def refsC : Cl SE → List Nat
  | .pt k _ _ | .sr k | .sv k _ | .pr k _ _ _ | .mp k => [k]
  | .fn _ bs => bs.map (·.1)
  | _ => []
def refsPV : PV SE → List Nat
  | .one c => refsC c
  | .ag cs => cs.flatMap refsC
  | .tu vs => vs.flatMap fun p => p.2.flatMap refsC
def reach (l : List (LO SE)) : Nat → List Nat → List Nat → List Nat
  | 0, _, seen => seen
  | _, [], seen => seen
  | n + 1, k :: ks, seen => if seen.any (Nat.beq k) then reach l n ks seen else
    match l[k]? with
    | some (.var cs) => reach l n (cs.flatMap refsC ++ ks) (k :: seen)
    | _ => reach l n ks (k :: seen)
def marks (seen : List Nat) : Nat → List (LO SE) → List (LO SE)
  | _, [] => []
  | k, o :: os => (if seen.any (Nat.beq k) then o else .dead) :: marks seen (k + 1) os
def gcS (V : SS) : SS := { V with l := marks (reach V.l 2000 (V.g.flatMap fun p => refsPV p.2.2) []) 0 V.l }
def SE.inV (n : Nat) : SE → Bool
  | .var x => Nat.blt x n
  | .i _ | .k _ _ | .b _ | .s _ | .raw _ | .an => true
  | .ok e | .agn _ e | .fld e _ | .len e | .slen e | .tr _ e | .tp e | .proj e _ | .un _ e | .cv _ _ e | .rw e | .rws e => e.inV n
  | .idx _ e f | .ecl _ e f _ | .ac e f | .cat _ _ e f | .bin _ _ e f | .mx _ e f | .six e f | .has _ e f => e.inV n && f.inV n
  | .sets _ e f g | .sub _ e f g | .clr _ e f g | .ssub e f g | .ins _ e f g => e.inV n && f.inV n && g.inV n
  | .get _ e f g => e.inV n && f.inV n && g.inV n
structure Mt where
  args : List (Nat × SE)
  ren : List (Nat × Nat)
def getA {α : Type} (l : List (Nat × α)) (k : Nat) : Option α :=
  match l with
  | [] => none
  | (a, b) :: l => if Nat.beq a k then some b else getA l k
def matSE (n nm : Nat) (h e : SE) (m : Mt) : Option Mt :=
  match h with
  | .var i => if Nat.blt i n then (if h.eq e then some m else none) else if Nat.ble nm i then none else (match getA m.args i with
    | some e' => if e'.eq e then some m else none
    | none => some { m with args := (i, e) :: m.args })
  | h => if h.inV n && h.eq e then some m else none
def matK (h e : Nat) (m : Mt) : Option Mt :=
  match getA m.ren h with
  | some e' => if Nat.beq e e' then some m else none
  | none => if m.ren.any (fun p => Nat.beq p.2 e) then none else some { m with ren := (h, e) :: m.ren }
def matSEs (n nm : Nat) : List SE → List SE → Mt → Option Mt
  | [], [], m => some m
  | a :: as, b :: bs, m => match matSE n nm a b m with
    | some m => matSEs n nm as bs m
    | none => none
  | _, _, _ => none
def matB : List (Nat × Nat) → List (Nat × Nat) → Mt → Option Mt
  | [], [], m => some m
  | (a, x) :: as, (b, y) :: bs, m => if Nat.beq x y then (match matK a b m with
    | some m => matB as bs m
    | none => none) else none
  | _, _, _ => none
def matC (n nm : Nat) (h e : Cl SE) (m : Mt) : Option Mt :=
  match h, e with
  | .un, _ => some m
  | .v a, .v b => matSE n nm a b m
  | .w f a, .w f' b => if f || !f' then matSE n nm a b m else none
  | .w f a, .v b => if f then matSE n nm a b m else none
  | .v a, .nl _ s => matSE n nm a (.tr s .an) m
  | .w _ a, .nl _ s => matSE n nm a (.tr s .an) m
  | .nl a s, .nl b s' => if a == b && Nat.beq s s' then some m else none
  | .pt k o x, .pt k' o' x' => if Nat.beq o o' && Nat.beq x x' then matK k k' m else none
  | .tp a, .tp b => matSEs n nm a b m
  | .tw f a, .tw f' b => if f || !f' then matSEs n nm a b m else none
  | .sr k, .sr k' => matK k k' m
  | .mp k, .mp k' => matK k k' m
  | .fn f a, .fn f' b => if Nat.beq f f' then matB a b m else none
  | _, _ => none
def matCs (n nm : Nat) : List (Cl SE) → List (Cl SE) → Mt → Option Mt
  | [], [], m => some m
  | a :: as, b :: bs, m => match matC n nm a b m with
    | some m => matCs n nm as bs m
    | none => none
  | _, _, _ => none
def matTu (n nm : Nat) : List (Bool × List (Cl SE)) → List (Bool × List (Cl SE)) → Mt → Option Mt
  | [], [], m => some m
  | (x, a) :: as, (y, b) :: bs, m => if x == y then (match matCs n nm a b m with
    | some m => matTu n nm as bs m
    | none => none) else none
  | _, _, _ => none
def matPV (n nm : Nat) (h e : PV SE) (m : Mt) : Option Mt :=
  match h, e with
  | .one a, .one b => matC n nm a b m
  | .ag as, .ag bs => matCs n nm as bs m
  | .tu as, .tu bs => matTu n nm as bs m
  | _, _ => none
def matG (n nm : Nat) (g : List (Nat × Nat × PV SE)) : List (Nat × Nat × PV SE) → Mt → Option Mt
  | [], m => some m
  | (d, t, pv) :: h, m => match gget d t g with
    | some pv' => match matPV n nm pv pv' m with
      | some m => matG n nm g h m
      | none => none
    | none => none
def matO (n nm : Nat) (h e : LO SE) (m : Mt) : Option Mt :=
  match h, e with
  | .var cs, .var ds => matCs n nm cs ds m
  | .row s st cut fr es, .row s' st' cut' fr' es' => if Nat.beq s s' && st == st' && (cut || !cut') && (fr || !fr') then matSE n nm es es' m else none
  | .mp kt es, .mp kt' es' => if Nat.beq kt kt' then matSE n nm es es' m else none
  | .dead, _ => some m
  | _, _ => none
def matL (n nm : Nat) (l : List (LO SE)) : Nat → List (LO SE) → Mt → Option Mt
  | _, [], m => some m
  | k, o :: os, m =>
    match o with
    | .dead => matL n nm l (k + 1) os m
    | o => match matK k ((getA m.ren k).getD k) m with
    | some m => match l[(getA m.ren k).getD k]? with
      | some o' => match matO n nm o o' m with
        | some m => matL n nm l (k + 1) os m
        | none => none
      | none => none
    | none => none
def instArgs (n : Nat) (m : Mt) : Nat → List SE → Option (List SE)
  | 0, acc => some acc
  | j + 1, acc => match getA m.args (n + j) with
    | some e => instArgs n m j (e :: acc)
    | none => none
def isLive (l : List (LO SE)) (k : Nat) : Bool :=
  match l[k]? with
  | some .dead | none => false
  | _ => true
def liveRefs (H : SS) : Bool :=
  (H.g.all fun p => (refsPV p.2.2).all (isLive H.l)) && H.l.all fun | .var cs => (cs.flatMap refsC).all (isLive H.l) | _ => true
def chkSE (n : Nat) (args : List SE) (h e : SE) : Bool :=
  match h with
  | .var x => if Nat.blt x n then h.eq e else (match args[x - n]? with
    | some a => a.eq e
    | none => false)
  | h => h.inV n && h.eq e
def chkK (ren : List (Nat × Nat)) (h e : Nat) : Bool :=
  match getA ren h with
  | some e' => Nat.beq e e'
  | none => false
def chkC (n : Nat) (args : List SE) (ren : List (Nat × Nat)) (h e : Cl SE) : Bool :=
  match h, e with
  | .un, _ => true
  | .v a, .v b => chkSE n args a b
  | .w f a, .w f' b => (f || !f') && chkSE n args a b
  | .w f a, .v b => f && chkSE n args a b
  | .v a, .nl _ s => chkSE n args a (.tr s .an)
  | .w _ a, .nl _ s => chkSE n args a (.tr s .an)
  | .nl a s, .nl b s' => a == b && Nat.beq s s'
  | .pt k o x, .pt k' o' x' => Nat.beq o o' && Nat.beq x x' && chkK ren k k'
  | .tp a, .tp b => listEq (chkSE n args) a b
  | .sr k, .sr k' => chkK ren k k'
  | .mp k, .mp k' => chkK ren k k'
  | .fn f a, .fn f' b => Nat.beq f f' && listEq (fun (p q : Nat × Nat) => Nat.beq p.2 q.2 && chkK ren p.1 q.1) a b
  | _, _ => false
def chkPV (n : Nat) (args : List SE) (ren : List (Nat × Nat)) (h e : PV SE) : Bool :=
  match h, e with
  | .one a, .one b => chkC n args ren a b
  | .ag as, .ag bs => listEq (chkC n args ren) as bs
  | .tu as, .tu bs => listEq (fun (p q : Bool × List (Cl SE)) => p.1 == q.1 && listEq (chkC n args ren) p.2 q.2) as bs
  | _, _ => false
def chkG (n : Nat) (args : List SE) (ren : List (Nat × Nat)) (g : List (Nat × Nat × PV SE)) (h : List (Nat × Nat × PV SE)) : Bool :=
  h.all fun (d, t, pv) => match gget d t g with
    | some pv' => chkPV n args ren pv pv'
    | none => false
def chkO (n : Nat) (args : List SE) (ren : List (Nat × Nat)) (h e : LO SE) : Bool :=
  match h, e with
  | .var cs, .var ds => listEq (chkC n args ren) cs ds
  | .row s st cut fr es, .row s' st' cut' fr' es' => Nat.beq s s' && st == st' && (cut || !cut') && (fr || !fr') && chkSE n args es es'
  | .mp kt es, .mp kt' es' => Nat.beq kt kt' && chkSE n args es es'
  | _, _ => false
def chkL (n : Nat) (args : List SE) (ren : List (Nat × Nat)) (l : List (LO SE)) : Nat → List (LO SE) → Bool
  | _, [] => true
  | k, o :: os => (match o with
    | .dead => true
    | o => match getA ren k with
      | some k' => match l[k']? with
        | some o' => chkO n args ren o o'
        | none => false
      | none => false) && chkL n args ren l (k + 1) os
def injB (ren : List (Nat × Nat)) : Bool := ren.all fun p => ren.all fun q => !Nat.beq p.2 q.2 || Nat.beq p.1 q.1
def inst (n m : Nat) (H V : SS) : Option (List SE × List (Nat × Nat)) :=
  if !liveRefs H then none else match matG n (n + m) V.g H.g ⟨[], []⟩ with
  | some mt => match matL n (n + m) V.l 0 H.l mt with
    | some mt => match instArgs n mt m [] with
      | some args => if chkG n args mt.ren V.g H.g && chkL n args mt.ren V.l 0 H.l && injB mt.ren && Nat.beq args.length m then some (args, mt.ren) else none
      | none => none
    | none => none
  | none => none
def firstId : Code → Nat
  | .region id _ _ => id
  | .seq a _ => firstId a
  | .block _ a => firstId a
  | .loop a => firstId a
  | .scope a => firstId a
  | _ => 0
abbrev Exec := Nat → Nat → Code → SS → (Ex2 → SS → FIR) → FIR
section step
variable (self : Exec)
def setArgs (d : Nat) : Nat → List (PV SE) → List (Nat × Nat × PV SE)
  | _, [] => []
  | j, pv :: pvs => (d, j, pv) :: setArgs d (j + 1) pvs
def dropG (d : Nat) : List (Nat × Nat × PV SE) → List (Nat × Nat × PV SE)
  | [] => []
  | (d', t, pv) :: g => if Nat.beq d' d = true then dropG d g else (d', t, pv) :: dropG d g
def loadPV (t : TypeId) (pa : PV SE) (V : SS) : Option (PV SE) :=
  match sizeOf? P t, aggT P t, pa with
  | some s, some _, .one (.pt j off ext) => match V.l[j]? with
    | some (.var cs) => if Nat.ble s ext && Nat.ble (off + s) cs.length then (if isAgg P t then some (.ag ((cs.drop off).take s)) else match (cs.drop off).take s with
      | [c] => some (.one c)
      | _ => none) else none
    | _ => none
  | _, _, _ => none
def resS (d : Nat) (V : SS) : List ResultVar → Option (List (PV SE))
  | [] => some []
  | .tmp t :: rs => match resS d V rs with
    | some pvs => some ((gget d t V.g).getD (.one .un) :: pvs)
    | none => none
  | .cell a t :: rs => match gget d a V.g with
    | some pa => match loadPV P t pa V, resS d V rs with
      | some pv, some pvs => some (pv :: pvs)
      | _, _ => none
    | none => none
def tuOf (pvs : List (PV SE)) : PV SE :=
  match pvs with
  | [] => .one .un
  | [pv] => pv
  | pvs => .tu (pvs.map fun pv => match pv with
    | .one c => (false, [c])
    | .ag cs => (true, cs)
    | .tu _ => (false, [.un]))
def inlineS (d f : Nat) (dst : Option Nat) (g : FuncId) (args : List (PV SE)) (V : SS) (k : PV SE → SS → FIR) : FIR :=
  match P.funcs[g]? with
  | some fn => match fn.body with
    | some body =>
      if cfg.stop.any (Nat.beq g) then .fail 119 else if Nat.ble args.length fn.ntmps && fn.name != "runtime.NumGoroutine" then
        self (d + 1) (f * 1000 + dst.getD 999 + 1) body { V with g := setArgs (d + 1) 0 args ++ dropG (d + 1) V.g, nt := fn.ntmps } fun ex W => match ex with
          | .exit _ => .fail 111
          | _ => match resS P (d + 1) W fn.results.toList with
            | some pvs => k (tuOf pvs) { W with g := dropG (d + 1) W.g, nt := V.nt }
            | none => .fail 110
      else .fail 112
    | none => .fail 113
  | none => .fail 114
def firstBad : FIR → Option (SS × SS)
  | .test _ a b | .two _ a b => match firstBad a with
    | some x => some x
    | none => firstBad b
  | .bind _ k | .need _ k | .call _ _ _ k | .loop _ k => firstBad k
  | .blk a _ b => match firstBad a with
    | some x => some x
    | none => firstBad b
  | .bad 999999 n lv _ _ hg hl g l => some (⟨hg, hl, n, lv, 0⟩, ⟨g, l, n, lv, 0⟩)
  | _ => none
def joinS (d f : Nat) (dst : Option Nat) (g : FuncId) (args : List (PV SE)) (V : SS) (k : SS → FIR) : FIR :=
  let V1 : SS := { V with lv := V.lv + 1 }
  match firstBad (inlineS P cfg self d f dst g args V1 fun pv W => let W := W.setSlot d dst pv; .bad 999999 W.n W.lv 0 0 W.g W.l W.g W.l) with
  | none => .fail 150
  | some (V2, _) =>
    let h := (cfg.hints.find? fun h => Nat.beq h.d d && Nat.beq h.f f && Nat.beq h.id (1000000 + dst.getD 999)).getD ⟨d, f, 1000000 + dst.getD 999, [], [], [], []⟩
    let Vg := gcS (promote h (settle h.weak V2))
    let (g', n, init) := genG h Vg.g V.n []
    let (l', n, _) := genL h 0 Vg.l n init
    let H : SS := ⟨g', l', V.n + (n - V.n), V.lv, V.nt⟩
    .blk (inlineS P cfg self d f dst g args V1 fun pv W =>
      let W := promote h (settle h.weak (W.setSlot d dst pv))
      match inst V.n (n - V.n) H W with
      | some (args, _) => .next V.lv (acs args)
      | none => .bad d f (1000000 + dst.getD 999) V.n n H.g H.l W.g W.l) (n - V.n) (k H)
def argR (V : SS) : List (PV SE) → Option (List SE × SS)
  | [] => some ([], V)
  | pv :: pvs => match rdPV V pv with
    | some (_, z, V) => match argR V pvs with
      | some (zs, V) => some (z :: zs, V)
      | none => none
    | none => none
def noTu : List (PV SE) → Bool
  | [] => true
  | .tu _ :: _ => false
  | _ :: l => noTu l
def contS (fn : Func) (V : SS) (r : SE) (k : PV SE → SS → FIR) : FIR :=
  match fn.resultTypes.toList with
  | [t] => needT P t r (k (ofType P t r) V)
  | ts => needTs P r 0 ts (k (.tu (ofTypes P r 0 ts)) V)
def rowCall (g : FuncId) (zs : List SE) (j : Nat) (V : SS) (k : PV SE → SS → FIR) : FIR :=
  match V.l[j]? with
  | some (.row s false false _ es) => .need (.rws es) (.call (P.funcs.size + g) true (acs (es :: zs)) (k (.one (.sr j)) ((({ V with n := V.n + 1 } : SS).dropRow j).setObj j (.row s false false false (.var V.n)))))
  | _ => .fail 14
def rowS (g : FuncId) (args : List (PV SE)) (V : SS) (k : PV SE → SS → FIR) : FIR :=
  match args with
  | .one c :: rest => match argR V rest with
    | some (zs, _) => if !rest.all plainPV then .fail 16 else match c with
      | .sr j => rowCall P g zs j V k
      | .nl _ s => newObj V (.row s false false false (.tr s .an)) fun j V => rowCall P g zs j V k
      | _ => .fail 17
    | none => .fail 15
  | _ => .fail 15
def callS (d f0 : Nat) (det : Bool) (o : Oper) (c : Call) (V : SS) (k : PV SE → SS → FIR) : FIR :=
  match c.callee with
  | .builtin _ => opS P d o V k
  | .value f => match opdS P d V 0 f with
    | .one (.fn g bs) =>
      let args := argsS P d V c.args.toList c.argTypes.toList
      if bs.isEmpty && cfg.rows.any (Nat.beq g) then
        match P.funcs[g]? with
        | some fn => if !det && fn.body.isSome && fn.name != "runtime.NumGoroutine" then rowS P g args V k else .fail 18
        | none => .fail 18
      else if bs.isEmpty && cfg.pure.any (Nat.beq g) then
        match argR V args, P.funcs[g]? with
        | some (zs, V'), some fn => if noTu args && fn.body.isSome && fn.name != "runtime.NumGoroutine" then .call g (!args.all plainPV) (acs zs) (contS P fn { V' with n := V'.n + 1 } (.var V'.n) k) else .fail 115
        | _, _ => .fail 115
      else if det then .fail 116 else inlineS P cfg self d f0 o.dst g (args ++ bs.map fun (k, ext) => .one (.pt k 0 ext)) V k
    | _ => .fail 117
  | .invoke .. => .fail 118
def opAny0 (d f0 : Nat) (det : Bool) (o : Oper) (V : SS) (k : PV SE → SS → FIR) : FIR :=
  match o.op with
  | .call c => callS P cfg self d f0 det o c V k
  | _ => opS P d o V k
def nilOf (d : Nat) (o : Oper) (V : SS) : Option (Bool × Cl SE) :=
  match o.op with
  | .binOp op t x y _ => match P.underlying t, opdS P d V t x, y with
    | some (.slice _), .one c, .const (.slice none 0 0) => match op with
      | .eql => some (true, c)
      | .neq => some (false, c)
      | _ => none
    | _, _, _ => none
  | _ => none
def nilS (e : Bool) (c : Cl SE) (V : SS) (k : PV SE → SS → FIR) : FIR :=
  match c with
  | .v z => .two z (k (.one (.v (.b e))) V) (k (.one (.v (.b (!e)))) V)
  | .w _ z => .two z (k (.one (.v (.b e))) V) (k (.one (.v (.b (!e)))) V)
  | .nl b _ => k (.one (.v (.b (if b then e else !e)))) V
  | .sr j => match V.l[j]? with
    | some (.row _ _ _ _ es) => .two es (k (.one (.v (.b e))) V) (k (.one (.v (.b (!e)))) V)
    | _ => .fail 31
  | _ => .fail 31
def opAny (d f0 : Nat) (det : Bool) (o : Oper) (V : SS) (k : PV SE → SS → FIR) : FIR :=
  match (if det then none else nilOf P d o V) with
  | some (e, c) => nilS e c V k
  | none => opAny0 P cfg self d f0 det o V k
def joinOf (d : Nat) (det : Bool) (o : Oper) (V : SS) : Option (FuncId × List (PV SE)) :=
  if det then none else match o.op with
  | .call c => match c.callee with
    | .value f => match opdS P d V 0 f with
      | .one (.fn g bs) => if cfg.joins.any (Nat.beq g) && !(bs.isEmpty && cfg.pure.any (Nat.beq g)) then some (g, argsS P d V c.args.toList c.argTypes.toList ++ bs.map fun (k, ext) => .one (.pt k 0 ext)) else none
      | _ => none
    | _ => none
  | _ => none
def delSk (sk : List Nat) : Option Nat → List Nat
  | some t => sk.filter fun x => !Nat.beq x t
  | none => sk
def addSk (sk : List Nat) : Option Nat → List Nat
  | some t => t :: delSk sk (some t)
  | none => sk
def skipped (sk : List Nat) (ops : Array Oper) (o : Oper) : Bool :=
  match o.guard with
  | some (j, _) => match (ops[j]?).bind (·.dst) with
    | some t => memB sk t
    | none => false
  | none => false
def opsS (d f0 : Nat) (det : Bool) (ops : Array Oper) : List Nat → List Oper → SS → (SS → FIR) → FIR
  | _, [], V, k => k V
  | sk, o :: rest, V, k =>
    if !(match o.dst with | some t => Nat.blt t V.nt | none => true) then .fail 121 else
    let run (V : SS) : FIR := match joinOf P cfg d det o V with
      | some (g, args) => joinS P cfg self d f0 o.dst g args V fun V => opsS d f0 det ops (delSk sk o.dst) rest V k
      | none => opAny P cfg self d f0 det o V fun pv V => opsS d f0 det ops (delSk sk o.dst) rest (V.setSlot d o.dst pv) k
    let skip (V : SS) : FIR := opsS d f0 det ops (addSk sk o.dst) rest (V.delSlot d o.dst) k
    match (if skipped sk ops o then .skip else wantS ops d V o) with
    | .run => run V
    | .skip => skip V
    | .test t e want => .test e ((if want then run else skip) (V.setSlot d (some t) (.one (.v (.b true))))) ((if want then skip else run) (V.setSlot d (some t) (.one (.v (.b false)))))
    | .fail => .fail 120
def trk0 (d : Nat) (V : SS) : Trk := ⟨V.nt, (V.g.filterMap fun (d', t, _) => if Nat.beq d d' then some t else none).filter (fun t => match gget d t V.g with
  | some (.one (.pt _ _ _)) => true
  | some (.one (.tp _)) => true
  | _ => false), []⟩
def execStep : Exec := fun d f c V k =>
  match c with
  | .skip | .label _ => k .normal V
  | .region _ ops draw =>
    if draw then (if (planOf ops).ok && (seqOk ops (planOf ops) || chkAll (planOf ops) ops.toList.zipIdx (trk0 d V)) then opsS P cfg self d f true ops [] ops.toList V fun V => k .normal V else .fail 130)
    else opsS P cfg self d f false ops [] ops.toList V fun V => k .normal V
  | .seq a b => self d f a V fun ex V => match ex with
    | .normal => self d f b V k
    | ex => k ex V
  | .cond c a b => match opdS P d V 0 c with
    | .one (.v (.b true)) => self d f a V k
    | .one (.v (.b false)) => self d f b V k
    | .one (.v e) => match c with
      | .tmp t => if !Nat.blt t V.nt then .fail 131 else .test e (self d f a (V.setSlot d (some t) (.one (.v (.b true)))) k) (self d f b (V.setSlot d (some t) (.one (.v (.b false)))) k)
      | _ => .fail 131
    | .one (.w _ e) => match c with
      | .tmp t => if !Nat.blt t V.nt then .fail 131 else .test e (self d f a (V.setSlot d (some t) (.one (.v (.b true)))) k) (self d f b (V.setSlot d (some t) (.one (.v (.b false)))) k)
      | _ => .fail 131
    | _ => .fail 132
  | .block id a => self d f a V fun ex V => match ex with
    | .exit id' => if Nat.beq id id' then k .normal V else k (.exit id') V
    | ex => k ex V
  | .loop a =>
    let id := firstId a
    let h := (cfg.hints.find? fun h => Nat.beq h.d d && Nat.beq h.f f && Nat.beq h.id id).getD ⟨d, f, id, [], [], [], []⟩
    let V0 := promote h (settle h.weak V)
    let Vg := gcS V0
    let (g, n, init) := genG h Vg.g Vg.n []
    let (l, n, _) := genL h 0 Vg.l n init
    let H : SS := ⟨g, l, V0.n + (n - V0.n), V.lv + 1, V.nt⟩
    match inst V0.n (n - V0.n) H V0 with
    | some (args, _) => .loop (acs args) (self d f a H fun ex W => match ex with
      | .normal => match inst V0.n (n - V0.n) H (settle h.weak W) with
        | some (args, _) => .next V.lv (acs args)
        | none => .bad d f id V0.n n H.g H.l W.g W.l
      | ex => k ex W)
    | none => .bad d f id V0.n n H.g H.l V0.g V0.l
  | .scope a => self d f a V k
  | .exit id => k (.exit id) V
  | .ret => k .ret V
  | _ => .fail 133
end step
def exec (n : Nat) : Exec := Nat.rec (fun _ _ _ _ _ => .fail 140) (fun _ s => execStep P cfg s) n
def paramsS : Nat → List TypeId → List (PV SE)
  | _, [] => []
  | j, t :: ts => ofType P t (.var j) :: paramsS (j + 1) ts
def needPs : Nat → List TypeId → FIR → FIR
  | _, [], k => k
  | j, t :: ts, k => needT P t (.var j) (needPs (j + 1) ts k)
def execFn (n : Nat) (new : Bool) (f : FuncId) : FIR :=
  match P.funcs[f]? with
  | some fn => match fn.body with
    | some c =>
      if Nat.ble fn.params.size fn.ntmps then
        needPs P 0 fn.params.toList <| exec P cfg n 0 f c ⟨setArgs 0 0 (paramsS P 0 fn.params.toList), [], fn.params.size, 0, fn.ntmps⟩ fun ex V => match ex with
          | .exit _ => .fail 141
          | _ => match resS P 0 V fn.results.toList with
            | some pvs => match rdPV V (tuOf pvs) with
              | some (fr, z, _) => .ret (if new && fr then .rw z else z)
              | none => .fail 142
            | none => .fail 110
      else .fail 143
    | none => .fail 144
  | none => .fail 145
end run
end Go.Ev
namespace Go.Ev
variable (P : Program)
def okc (z : IV) : Option IV := if cellOk z then some z else none
def isRaw1 : IV → Bool
  | .raw _ => true
  | _ => false
def intI? : IV → Option Int
  | .raw (.int _ n) => some n
  | _ => none
def denBin (op : BinOp) (t : TypeId) (a b : IV) : Option IV :=
  match toRaw a, toRaw b with
  | some .nilIface, _ => none
  | some _, some _ => binI P op t (.func 0) (.func 0) a b
  | _, _ => none
def denUn (op : UnOp) : IV → Option IV
  | .raw v => (pureRun P (Op.unary op v)).map lift
  | _ => none
def denCv (src dst : TypeId) : IV → Option IV
  | .raw (.string s) => match P.underlying src, P.underlying dst with
    | some _, some .string => some (.raw (.string s))
    | _, _ => none
  | .raw v => (pureRun P (convert src dst v)).map lift
  | _ => none
def denIdx (s : Nat) : IV → IV → Option IV
  | .tree s' es, i => match intI? i with
    | some n => if s' = s ∧ 0 ≤ n then match es[n.toNat]? with
      | some x => if (cellsOf x).length = s then some x else none
      | none => none
      else none
    | none => none
  | _, _ => none
def elemsOk (s : Nat) (es : List IV) : Bool := es.all fun e => (cellsOf e).length == s && (cellsOf e).all cellOk
def denCat (s bytes : Nat) : IV → IV → Option IV
  | .tree s1 es, .tree s2 fs => if s1 = s ∧ s2 = s ∧ 0 < s ∧ elemsOk s fs = true ∧ (4 * (es.length + fs.length) + 4096) * bytes ≤ 2 ^ 47 ∧ es.length + fs.length ≤ 2 ^ 40 then some (.tree s (es ++ fs)) else none
  | _, _ => none
def denSet (s : Nat) : IV → IV → IV → Option IV
  | .tree s1 es, i, x => match intI? i with
    | some n => if s1 = s ∧ 0 ≤ n ∧ n.toNat < es.length ∧ (cellsOf x).length = s then some (.tree s (es.set n.toNat x)) else none
    | none => none
  | _, _, _ => none
def denSub (s : Nat) : IV → IV → IV → Option IV
  | .tree s1 es, lo, hi => match intI? lo, intI? hi with
    | some l, some h => if s1 = s ∧ 0 ≤ l ∧ l.toNat ≤ h.toNat ∧ 0 ≤ h ∧ h.toNat ≤ es.length then some (.tree s ((es.take h.toNat).drop l.toNat)) else none
    | _, _ => none
  | _, _, _ => none
def denClr (s : Nat) : IV → IV → IV → Option IV
  | .tree s1 es, lo, z => match intI? lo with
    | some l => if s1 = s ∧ 0 ≤ l ∧ l.toNat ≤ es.length ∧ (cellsOf z).length = s then some (.tree s (es.take l.toNat ++ List.replicate (es.length - l.toNat) z)) else none
    | none => none
  | _, _, _ => none
def denLen : IV → Option IV
  | .tree _ es => some (.int es.length)
  | _ => none
def denSlen : IV → Option IV
  | .raw (.string b) => some (.int b.size)
  | _ => none
def keyOf : IV → Option Value
  | .raw (.int q n) => some (.int q n)
  | .raw (.string q) => some (.string q)
  | _ => none
def keysOf : List IV → Option (List Value)
  | [] => some []
  | d :: ds => match d with
    | .tup [k, _] => match keyOf k, keysOf ds with
      | some v, some vs => some (v :: vs)
      | _, _ => none
    | _ => none
def nowAt (kd : TypeDesc) (k : Value) : List Value → Nat → Option (Option Nat)
  | [], _ => some none
  | e :: es, n => match Instr.sameNow kd k e with
    | some true => some (some n)
    | some false => nowAt kd k es (n + 1)
    | none => none
def simpleK (kt : TypeId) : Option TypeDesc :=
  match P.underlying kt with
  | some (.int q) => some (.int q)
  | some .string => some .string
  | _ => none
def denAt (kt : TypeId) (ds : List IV) (key : IV) : Option (Option Nat) :=
  match simpleK P kt, keysOf ds, keyOf key with
  | some kd, some ks, some k => nowAt kd k ks 0
  | _, _, _ => none
def SE.den (ν : List IV) : SE → Option IV
  | .var x => ν[x]?
  | .i n => some (.raw (.int .i64 n))
  | .k q n => some (.raw (.int q n))
  | .b t => some (.raw (.bool t))
  | .s l => some (.raw (.string ⟨l.toArray⟩))
  | .raw v => some (.raw v)
  | .ok e => (e.den ν).bind okc
  | .agn n e => (e.den ν).bind fun | .agg cs => if cs.length = n ∧ cs.all cellOk then some (.agg cs) else none | _ => none
  | .fld e j => (e.den ν).bind fun | .agg cs => (cs[j]?).bind okc | _ => none
  | .idx q e x => (e.den ν).bind fun a1 => (x.den ν).bind fun b1 => denIdx q a1 b1
  | .ecl q e x j => (e.den ν).bind fun a1 => (x.den ν).bind fun b1 => (denIdx q a1 b1).bind fun y => ((cellsOf y)[j]?).bind okc
  | .len e => (e.den ν).bind denLen
  | .slen e => (e.den ν).bind denSlen
  | .an => some (.agg [])
  | .ac a r => (a.den ν).bind fun x => (r.den ν).bind fun | .agg cs => some (.agg (x :: cs)) | _ => none
  | .tr q r => (r.den ν).bind fun | .agg cs => if 0 < q ∧ cs.all (fun e => (cellsOf e).length == q) then some (.tree q cs) else none | _ => none
  | .tp r => (r.den ν).bind fun | .agg cs => some (.tup cs) | _ => none
  | .cat q bytes e f => (e.den ν).bind fun a1 => (f.den ν).bind fun b1 => denCat q bytes a1 b1
  | .sets q e x y => (e.den ν).bind fun a1 => (x.den ν).bind fun b1 => (y.den ν).bind fun c1 => denSet q a1 b1 c1
  | .sub q e lo hi => (e.den ν).bind fun a1 => (lo.den ν).bind fun b1 => (hi.den ν).bind fun c1 => denSub q a1 b1 c1
  | .clr q e lo z => (e.den ν).bind fun a1 => (lo.den ν).bind fun b1 => (z.den ν).bind fun c1 => denClr q a1 b1 c1
  | .proj e j => (e.den ν).bind fun | .tup cs => cs[j]? | _ => none
  | .bin op t a2 b2 => (a2.den ν).bind fun x1 => (b2.den ν).bind fun y1 => denBin P op t x1 y1
  | .un op a => (a.den ν).bind (denUn P op)
  | .cv q d a => (a.den ν).bind (denCv P q d)
  | .mx big a2 b2 => (a2.den ν).bind fun x1 => (b2.den ν).bind fun y1 => if big then maxB P [x1, y1] else minB P [x1, y1]
  | .six e x => (e.den ν).bind fun a1 => (x.den ν).bind fun b1 => match a1, b1 with
    | .raw (.string q), .raw (.int _ n) => if 0 ≤ n then (q.data.toList[n.toNat]?).map fun c => .raw (.int .u8 c.toNat) else none
    | _, _ => none
  | .ssub e lo hi => (e.den ν).bind fun a1 => (lo.den ν).bind fun b1 => (hi.den ν).bind fun c1 => match a1, intI? b1, intI? c1 with
    | .raw (.string q), some l, some h => if 0 ≤ l ∧ l.toNat ≤ h.toNat ∧ 0 ≤ h ∧ h.toNat ≤ q.size then some (.raw (.string ⟨((q.data.toList.drop l.toNat).take (h.toNat - l.toNat)).toArray⟩)) else none
    | _, _, _ => none
  | .rw e => (e.den ν).bind fun z => if isRaw1 z then some z else none
  | .rws e => (e.den ν).bind fun | .tree q es => if es.all (fun e => (cellsOf e).all isRaw1) then some (.tree q es) else none | _ => none
  | .has kt m key => (m.den ν).bind fun a1 => (key.den ν).bind fun k1 => match a1 with
    | .tup ds => (denAt P kt ds k1).map fun r => .bool r.isSome
    | _ => none
  | .get kt m key z => (m.den ν).bind fun a1 => (key.den ν).bind fun k1 => (z.den ν).bind fun d1 => match a1 with
    | .tup ds => match denAt P kt ds k1 with
      | some (some j) => match ds[j]? with
        | some (.tup [_, y1]) => some y1
        | _ => none
      | some none => some d1
      | none => none
    | _ => none
  | .ins kt m key x => (m.den ν).bind fun a1 => (key.den ν).bind fun k1 => (x.den ν).bind fun y1 => match a1 with
    | .tup ds => match denAt P kt ds k1 with
      | some (some j) => some (.tup (ds.set j (.tup [k1, y1])))
      | some none => some (.tup (ds ++ [.tup [k1, y1]]))
      | none => none
    | _ => none
theorem SE.den_app {ν μ : List IV} : ∀ (e : SE) {z : IV}, e.den P ν = some z → e.den P (ν ++ μ) = some z := by
  have hb : ∀ {o o' : Option IV} {f : IV → Option IV} {z : IV}, (∀ y, o = some y → o' = some y) → o.bind f = some z → o'.bind f = some z := by
    intro o o' f z h hz
    cases o with
    | none => cases hz
    | some y => rw [h y rfl]; exact hz
  intro e
  induction e with
  | var x => intro z h; simp only [SE.den] at h ⊢; rw [List.getElem?_append_left (List.getElem?_eq_some_iff.1 h).1]; exact h
  | i n => intro z h; exact h
  | k q n => intro z h; exact h
  | b t => intro z h; exact h
  | s l => intro z h; exact h
  | raw v => intro z h; exact h
  | an => intro z h; exact h
  | ok e ih => intro z h; exact hb (fun y => ih) h
  | agn n e ih => intro z h; exact hb (fun y => ih) h
  | fld e j ih => intro z h; exact hb (fun y => ih) h
  | slen e ih => intro z h; exact hb (fun y => ih) h
  | len e ih => intro z h; exact hb (fun y => ih) h
  | tr q r ih => intro z h; exact hb (fun y => ih) h
  | tp r ih => intro z h; exact hb (fun y => ih) h
  | proj e j ih => intro z h; exact hb (fun y => ih) h
  | un op a ih => intro z h; exact hb (fun y => ih) h
  | cv q d a ih => intro z h; exact hb (fun y => ih) h
  | rw e ih => intro z h; exact hb (fun y => ih) h
  | rws e ih => intro z h; exact hb (fun y => ih) h
  | idx q e x ih1 ih2 | ecl q e x j ih1 ih2 | ac a r ih1 ih2 | cat q by' e f ih1 ih2 | bin op t a b ih1 ih2 | mx big a b ih1 ih2 | six e x ih1 ih2 | has kt m key ih1 ih2 =>
    intro z h
    simp only [SE.den, Option.bind_eq_some_iff] at h ⊢
    obtain ⟨a, h1, b, h2, h3⟩ := h
    exact ⟨a, ih1 h1, b, ih2 h2, h3⟩
  | sets q e x y ih1 ih2 ih3 | sub q e lo hi ih1 ih2 ih3 | clr q e lo z' ih1 ih2 ih3 | ssub e lo hi ih1 ih2 ih3 | ins kt m key x ih1 ih2 ih3 | get kt m key z' ih1 ih2 ih3 =>
    intro z h
    simp only [SE.den, Option.bind_eq_some_iff] at h ⊢
    obtain ⟨a, h1, b, h2, c, h3, h4⟩ := h
    exact ⟨a, ih1 h1, b, ih2 h2, c, ih3 h3, h4⟩
abbrev Cr := FuncId → Bool → List IV → IV → Prop
def denL (ν : List IV) (e : SE) : Option (List IV) :=
  match e.den P ν with
  | some (.agg cs) => some cs
  | _ => none
def FIR.sat (C : Cr) (Q : IV → Prop) : FIR → List (List IV → Prop) → List IV → Prop
  | .fail _, _, _ => False
  | .ret e, _, ν => ∃ z, e.den P ν = some z ∧ Q z
  | .test e a b, K, ν => (e.den P ν = some (.bool true) ∧ a.sat C Q K ν) ∨ (e.den P ν = some (.bool false) ∧ b.sat C Q K ν)
  | .two e a b, K, ν => ∃ q es, e.den P ν = some (.tree q es) ∧ b.sat C Q K ν ∧ (es = [] → a.sat C Q K ν)
  | .bind e k, K, ν => ∃ z, e.den P ν = some z ∧ k.sat C Q K (ν ++ [z])
  | .need e k, K, ν => (∃ z, e.den P ν = some z) ∧ k.sat C Q K ν
  | .call f new args k, K, ν => ∃ xs z, denL P ν args = some xs ∧ C f new xs z ∧ k.sat C Q K (ν ++ [z])
  | .loop init body, K, ν => ∃ vs, denL P ν init = some vs ∧ ∃ m : Nat, (Nat.rec (motive := fun _ => List IV → Prop) (fun _ => False) (fun _ ih vs => body.sat C Q (K ++ [ih]) (ν ++ vs)) m) vs
  | .blk body m cont, K, ν => body.sat C Q (K ++ [fun vs => vs.length = m ∧ cont.sat C Q K (ν ++ vs)]) ν
  | .next lv args, K, ν => ∃ vs p, denL P ν args = some vs ∧ K[lv]? = some p ∧ p vs
  | .bad .., _, _ => False
end Go.Ev
namespace Go.Ev
variable {P : Program} {N : Nat} {σ σ' : St} {R R' : Rs} {φ φ' : Ph} {E : Nat → Env} {ν : List IV}
abbrev evd (P : Program) (ν : List IV) : SE → Option IV := fun e => e.den P ν
theorem bytes_eta (b : ByteArray) : (⟨b.data.toList.toArray⟩ : ByteArray) = b := by cases b; simp
variable {L : List (LO SE)} {Γ : Gm SE}
theorem constC_ok (t : TypeId) (v : Value) : VRc (evd P ν) R φ L σ (.raw v) (constC P t v) := by
  have raw : ∀ u : Value, (∀ c, u ≠ .agg c) → (∀ c, u ≠ .tuple c) → VRc (evd P ν) R φ L σ (.raw u) (.v (.raw u)) := fun u h1 h2 => by
    refine ⟨.raw u, rfl, .raw u, ?_⟩
    cases u <;> first | rfl | exact absurd rfl (h1 _) | exact absurd rfl (h2 _)
  unfold constC
  split
  · exact ⟨_, rfl, .raw _, rfl⟩
  · exact ⟨_, rfl, .raw _, rfl⟩
  · exact ⟨_, rfl, .raw _, rfl⟩
  · rename_i b
    refine ⟨.raw (.string b), ?_, .raw _, rfl⟩
    show some (IV.raw (.string ⟨b.data.toList.toArray⟩)) = _
    rw [bytes_eta]
  · split
    · rename_i s hs
      split
      · exact raw _ (by simp) (by simp)
      · rename_i h
        have : s ≠ 0 := by simpa [Nat.beq_eq] using h
        exact ⟨by omega, rfl⟩
    · exact raw _ (by simp) (by simp)
  · trivial
  · trivial
  · exact raw _ (fun c hc => by subst hc; simp_all) (fun c hc => by subst hc; simp_all)
theorem constCs_ok : ∀ (ts : List TypeId) (vs : List Value), ts.length = vs.length → All2 (VRc (evd P ν) R φ L σ) (vs.map .raw) (zip2 (constC P) ts vs)
  | [], [], _ => trivial
  | t :: ts, v :: vs, h => ⟨constC_ok t v, constCs_ok ts vs (by simpa using h)⟩
  | [], _ :: _, h => by simp at h
  | _ :: _, [], h => by simp at h
theorem constPV_ok (t : TypeId) (v : Value) : VR (evd P ν) R φ L σ (lift v) (constPV P t v) := by
  have key : VRc (evd P ν) R φ L σ (.raw v) (constC P t v) := constC_ok t v
  cases v with
  | agg cs =>
    simp only [constPV, lift]
    split
    · rename_i h
      exact ⟨_, rfl, constCs_ok _ _ (Nat.eq_of_beq_eq_true h)⟩
    · trivial
  | _ => exact key
theorem zeroCells_ok {t : TypeId} {z : Value} (h : zeroOf? P t = some z) : All2 (VRc (evd P ν) R φ L σ) (z.cells.toList.map .raw) (zeroCells P t) := by
  unfold zeroCells
  rw [h]
  simp only
  split
  · rename_i hh
    exact constCs_ok _ _ (Nat.eq_of_beq_eq_true hh)
  · refine .mk (by simp) fun i a b h1 h2 => ?_
    rw [List.getElem?_map] at h2
    obtain ⟨_, _, rfl⟩ := Option.map_eq_some_iff.1 h2
    trivial
theorem opd_ok {V : SS} (h : J (evd P ν) R φ V.g V.l E σ) (d : Nat) (t : TypeId) (x : Operand) : VR (evd P ν) R φ V.l σ (evalI (E d) x) (opdS P d V t x) := by
  cases x with
  | tmp y =>
    show VR _ _ _ _ _ ((E d).at y) ((gget d y V.g).getD (.one .un))
    cases hg : gget d y V.g with
    | none => trivial
    | some pv => exact h.slot d y pv hg
  | const v => exact constPV_ok t v
  | func f => exact .inl ⟨rfl, rfl⟩
  | global g => trivial
theorem CanR.cellOk {fr : Bool} {x y : IV} (h : CanR fr R σ x y) (hy : Ev.cellOk y = true) : Ev.cellOk x = true := by
  cases h <;> first | exact hy | rfl | (simp [Ev.cellOk] at hy; done)
theorem CanR.cellOk' {fr : Bool} {x y : IV} (h : CanR fr R σ x y) (hx : Ev.cellOk x = true) : Ev.cellOk y = true := by
  cases h <;> first | exact hx | rfl | (simp [Ev.cellOk] at hx; done)
theorem VRc.cellOk {x : IV} {c : Cl SE} (h : VRc (evd P ν) R φ L σ x c) (hn : c ≠ .un) : Ev.cellOk x = true := by
  cases c with
  | un => exact absurd rfl hn
  | v z => obtain ⟨y, _, h1, h2⟩ := h; exact h1.cellOk h2
  | w fr z => obtain ⟨y, _, h1, h2⟩ := h; exact h1.cellOk h2
  | pt k off ext => obtain ⟨id, cs, _, _, rfl⟩ := h; rfl
  | tp cs => obtain ⟨ds, rfl, _⟩ := h; rfl
  | tw fr cs => obtain ⟨_, ⟨_, ds, rfl, _⟩ | ⟨id, off, ep, m, ics, cep, mn, _, _, _, _, rfl, _⟩⟩ := h <;> rfl
  | sr k => obtain ⟨s, st, cut, fr, z, es, _, _, ⟨_, _, rfl | rfl⟩ | ⟨id, cs, cep, mn, cap, _, _, rfl, _⟩⟩ := h <;> rfl
  | sv k lo => obtain ⟨s, st, cut, fr, z, es, y, n, _, _, _, _, _, (⟨_, _, rfl | rfl⟩ | ⟨id, cs, cep, mn, cap, _, _, rfl, _⟩) | ⟨_, rfl⟩⟩ := h <;> rfl
  | pr k i off ext => obtain ⟨s, st, cut, fr, z, es, y, n, id, cs, cep, mn, _, _, _, _, _, _, _, _, rfl⟩ := h; rfl
  | mp k => obtain ⟨id, kt, es, _, _, rfl⟩ := h; rfl
  | nl b s => obtain ⟨_, rfl⟩ := h; cases b <;> rfl
  | fn f bs => obtain ⟨_, rfl⟩ | ⟨ys, rfl, _⟩ := h <;> rfl
theorem noUn_mem : ∀ {cs : List (Cl SE)}, noUn cs = true → ∀ c ∈ cs, c ≠ .un
  | [], _, c, hc => by cases hc
  | d :: cs, h, c, hc => by
    have hd : d ≠ .un ∧ noUn cs = true := by
      cases d <;> simp_all [noUn]
    rcases List.mem_cons.1 hc with rfl | hc
    · exact hd.1
    · exact noUn_mem hd.2 c hc
theorem cellsOk_of {xs : List IV} {cs : List (Cl SE)} (h : All2 (VRc (evd P ν) R φ L σ) xs cs) (hn : noUn cs = true) : xs.all Ev.cellOk = true := by
  rw [List.all_eq_true]
  intro x hx
  obtain ⟨i, hi⟩ := List.getElem?_of_mem hx
  have hl : i < cs.length := by rw [← h.len]; exact (List.getElem?_eq_some_iff.1 hi).1
  have hc : cs[i]? = some cs[i] := List.getElem?_eq_getElem hl
  exact (h.get hi hc).cellOk (noUn_mem hn _ (List.mem_of_getElem? hc))
theorem cellsP_ok {x : IV} {pv : PV SE} (h : VR (evd P ν) R φ L σ x pv) (hn : noUn (cellsP pv) = true) : All2 (VRc (evd P ν) R φ L σ) (cellsOf x) (cellsP pv) := by
  cases pv with
  | one c =>
    have hok := VRc.cellOk (c := c) h (noUn_mem hn c (by simp [cellsP]))
    have : cellsOf x = [x] := by
      cases x <;> first | rfl | (simp [Ev.cellOk] at hok; done)
    rw [this]
    exact ⟨h, trivial⟩
  | ag cs => obtain ⟨xs, rfl, h2⟩ := h; exact h2
  | tu vs => simp [cellsP, noUn] at hn
theorem flat_get {s : Nat} : ∀ {es : List IV} (_ : ∀ e ∈ es, (cellsOf e).length = s) {i j : Nat} {e d : IV}, es[i]? = some e → (cellsOf e)[j]? = some d → (flat es)[i * s + j]? = some d := by
  intro es
  induction es with
  | nil => intro _ i j e d h; simp at h
  | cons a es ih =>
    intro hcs i j e d he hd
    have ha : (cellsOf a).length = s := hcs a (by simp)
    unfold flat
    rw [List.flatMap_cons]
    cases i with
    | zero =>
      simp at he; subst he
      rw [List.getElem?_append_left (by have := (List.getElem?_eq_some_iff.1 hd).1; omega)]
      simpa using hd
    | succ i =>
      simp at he
      rw [Nat.add_mul, List.getElem?_append_right (by omega), ha]
      have := ih (fun e he => hcs e (by simp [he])) he hd
      rw [show i * s + 1 * s + j - s = i * s + j by omega]
      exact this
theorem flat_len {s : Nat} : ∀ {es : List IV} (_ : ∀ e ∈ es, (cellsOf e).length = s), (flat es).length = es.length * s := by
  intro es
  induction es with
  | nil => intro _; simp [flat]
  | cons a es ih =>
    intro hcs
    have := ih (fun e he => hcs e (by simp [he]))
    unfold flat at this ⊢
    rw [List.flatMap_cons, List.length_append, this, hcs a (by simp), List.length_cons, Nat.add_mul]; omega
theorem setObj_get (V : SS) (k : Nat) (o : LO SE) : (V.setObj k o).l = V.l.set k o := rfl
theorem stand_ok {V : SS} {k s : Nat} {cut fr : Bool} {z : SE} (h : J (evd P ν) R φ V.g V.l E σ) (hk : V.l[k]? = some (.row s false cut fr z)) :
    ∃ R', Chg (evd P ν) (evd P ν) R φ V.l σ R' φ (V.l.set k (.row s true cut fr z)) σ (fun _ => False) ∧ J (evd P ν) R' φ V.g (V.l.set k (.row s true cut fr z)) E σ := by
  obtain ⟨hs0, es, he, hcs, hor⟩ := h.obj k _ hk
  have hkl := getElem?_lt hk
  have hself : (V.l.set k (.row s true cut fr z))[k]? = some (.row s true cut fr z) := by simp [hkl]
  have hne : ∀ j, j ≠ k → (V.l.set k (.row s true cut fr z))[j]? = V.l[j]? := fun j hj => List.getElem?_set_ne (fun hc => hj hc.symm)
  have mkChg : ∀ R', GrowR R σ R' σ → Chg (evd P ν) (evd P ν) R φ V.l σ R' φ (V.l.set k (.row s true cut fr z)) σ (fun _ => False) := fun R' hg => by
    refine .mk' (fun _ _ h => h) hg (fun j cs hj => ?_) (fun j kt es hj => ?_) (fun j s' st cut' fr' z' hj _ => ?_)
    · by_cases hjk : j = k
      · subst hjk; rw [hk] at hj; cases hj
      · exact ⟨⟨cs, by rw [hne j hjk]; exact hj⟩, rfl⟩
    · by_cases hjk : j = k
      · subst hjk; rw [hk] at hj; cases hj
      · exact ⟨⟨es, by rw [hne j hjk]; exact hj⟩, rfl⟩
    · by_cases hjk : j = k
      · subst hjk; rw [hk] at hj; cases hj
        exact ⟨⟨true, hself⟩, rfl, fun _ _ => rfl⟩
      · exact ⟨⟨st, by rw [hne j hjk]; exact hj⟩, rfl, fun _ _ => rfl⟩
  rcases hor with ⟨h1, h2⟩ | ⟨id, cs, cep, mn, h1, h2, h3, h4, h5, h6, h7⟩
  · have hs := mkChg R (GrowR.refl h.fits)
    refine ⟨R, hs, { h with slot := fun d t pv hg => (h.slot d t pv hg).step hs pv.ok_false, obj := fun j o hj => ?_, lt := fun j id hj => by simpa using h.lt j id hj }⟩
    by_cases hjk : j = k
    · subst hjk
      rw [hself] at hj; cases hj
      exact ⟨hs0, es, he, hcs, .inl ⟨h1, h2⟩⟩
    · rw [hne j hjk] at hj
      exact (h.obj j o hj).step hs rfl (fun _ _ => ⟨rfl, rfl⟩) o.ok_false
  · let R' : Rs := fun i => if i = id then some (es.length * s) else R i
    have hRid : R id = none := by simpa using h5
    have hg : GrowR R σ R' σ := by
      refine ⟨fun i m hm => ⟨m, ?_, Nat.le_refl _⟩, fun i m cs' cep' mn' hm hat => ⟨cs', cep', hat, Nat.le_refl _, fun _ _ => rfl⟩, fun i m cs' cep' mn' hm hat => ?_⟩
      · have : i ≠ id := fun hc => by rw [hc, hRid] at hm; cases hm
        simp [R', this, hm]
      · simp only [R'] at hm
        split at hm
        · rename_i hc; subst hc
          cases hm
          rw [h2] at hat; cases hat
          exact h4
        · exact h.fits i m cs' cep' mn' hm hat
    have hs := mkChg R' hg
    refine ⟨R', hs, { h with slot := fun d t pv hgt => (h.slot d t pv hgt).step hs pv.ok_false, obj := fun j o hj => ?_, lt := fun j id hj => by simpa using h.lt j id hj, ltR := fun i m hm => ?_, fits := hg.fits }⟩
    · by_cases hjk : j = k
      · subst hjk
        rw [hself] at hj; cases hj
        exact ⟨hs0, es, he, hcs, .inr ⟨id, cs, cep, mn, h1, h2, h3, h4, by simp [R'], h6, fun j x d hx hd => (h7 j x d hx hd).mono hg⟩⟩
      · rw [hne j hjk] at hj
        refine (h.obj j o hj).step hs rfl (fun i hi => ⟨rfl, ?_⟩) o.ok_false
        have : i ≠ id := fun hc => hjk (h.inj j k id (by rw [← hc]; exact hi) h1)
        simp [R', this]
    · simp only [R'] at hm
      split at hm
      · rename_i hc; subst hc; exact (h.lt _ _ h1).2
      · exact h.ltR i m hm
theorem sr_reads {x : IV} {k s : Nat} {cut fr : Bool} {z : SE} (h : J (evd P ν) R φ Γ L E σ) (hk : L[k]? = some (.row s true cut fr z)) (hx : VRc (evd P ν) R φ L σ x (.sr k)) :
    ∃ y, z.den P ν = some y ∧ CanR fr R σ x y ∧ cellOk y = true := by
  obtain ⟨hs0, es, he, hcs, hor⟩ := h.obj k _ hk
  obtain ⟨s', st', cut', fr', z', es', h1, h2, hsl⟩ := hx
  rw [hk] at h1; cases h1
  rw [he] at h2; cases h2
  refine ⟨_, he, ?_, rfl⟩
  rcases hsl with ⟨h3, h4, h5⟩ | ⟨id, cs, cep, mn, cap, h3, h4, rfl, h5, h6, h7⟩
  · have : es = [] := List.eq_nil_of_length_eq_zero h4
    subst this
    rcases h5 with rfl | rfl
    · exact .nil s hs0
    · exact .emp s hs0
  · rcases hor with ⟨h8, _⟩ | ⟨id', cs', cep', mn', h8, h9, h10, h11, h12, h13, h14⟩
    · rw [h3] at h8; cases h8
    · rw [h3] at h8; cases h8
      rw [h4] at h9; cases h9
      refine .sl id (0 * s) (es.length - 0) cap cep s (es.length * s) cs cep mn es (by simpa using h12) h4 h10 (Nat.le_refl _) hs0 rfl (by simp) h11 hcs fun i e j c d he hd hc => ?_
      refine h14 (i * s + j) c d (by simpa using hc) (flat_get hcs he hd)
def Stand (P : Program) (ν : List IV) (R : Rs) (φ : Ph) (V : SS) (σ : St) (R' : Rs) (V' : SS) : Prop :=
  V'.g = V.g ∧ V'.n = V.n ∧ V'.ln = V.ln ∧ Chg (evd P ν) (evd P ν) R φ V.l σ R' φ V'.l σ (fun _ => False)
theorem Chg.trans {α : Type} {ev : α → Option IV} {R1 R2 R3 : Rs} {φ1 φ2 φ3 : Ph} {L1 L2 L3 : List (LO α)} {σ1 σ2 σ3 : St} (h : Chg ev ev R1 φ1 L1 σ1 R2 φ2 L2 σ2 (fun _ => False)) (k : Chg ev ev R2 φ2 L2 σ2 R3 φ3 L3 σ3 (fun _ => False)) :
    Chg ev ev R1 φ1 L1 σ1 R3 φ3 L3 σ3 (fun _ => False) := by
  refine ⟨fun _ _ h => h, ⟨fun id m hm => ?_, fun id m cs cep mn hm hat => ?_, k.grow.fits⟩, fun j cs hj => ?_, fun j kt es hj => ?_, fun j s st cut fr z hj hb => ?_⟩
  · obtain ⟨m1, h1, h2⟩ := h.grow.le id m hm
    obtain ⟨m2, h3, h4⟩ := k.grow.le id m1 h1
    exact ⟨m2, h3, Nat.le_trans h2 h4⟩
  · obtain ⟨cs1, cep1, h1, h2, h3⟩ := h.grow.keep id m cs cep mn hm hat
    obtain ⟨m1, h4, h5⟩ := h.grow.le id m hm
    obtain ⟨cs2, cep2, h6, h7, h8⟩ := k.grow.keep id m1 cs1 cep1 mn h4 h1
    exact ⟨cs2, cep2, h6, Nat.le_trans h2 h7, fun j hj => by rw [h8 j (by omega), h3 j hj]⟩
  · obtain ⟨⟨cs', h1⟩, h2⟩ := h.var j cs hj
    obtain ⟨h3, h4⟩ := k.var j cs' h1
    exact ⟨h3, h4.trans h2⟩
  · obtain ⟨⟨es', h1⟩, h2⟩ := h.map j kt es hj
    obtain ⟨h3, h4⟩ := k.map j kt es' h1
    exact ⟨h3, h4.trans h2⟩
  · obtain ⟨⟨st1, fr1, z1, h1, h1'⟩, h2, h3⟩ := h.row j _ _ _ _ _ hj hb
    obtain ⟨⟨st2, fr2, z2, h4, h4'⟩, h5, h6⟩ := k.row j _ _ _ _ _ h1 hb
    refine ⟨⟨st2, fr2, z2, h4, fun es he => ?_⟩, h5.trans h2, fun id cs cep mn hid hat => ?_⟩
    · obtain ⟨es1, a1, a2⟩ := h1' es he
      obtain ⟨es2, b1, b2⟩ := h4' es1 a1
      exact ⟨es2, b1, b2.trans a2⟩
    · obtain ⟨cs1, mn1, a1, a2, a3⟩ := h3 id cs cep mn hid hat
      obtain ⟨cs2, mn2, b1, b2, b3⟩ := h6 id cs1 cep mn1 (by rw [h2]; exact hid) a1
      exact ⟨cs2, mn2, b1, b2.trans a2, fun h => b3 (a3 h)⟩
theorem Stand.refl {V : SS} (h : J (evd P ν) R φ V.g V.l E σ) : Stand P ν R φ V σ R V :=
  ⟨rfl, rfl, rfl, .mk' (fun _ _ h => h) (GrowR.refl h.fits) (fun k cs hk => ⟨⟨cs, hk⟩, rfl⟩) (fun k kt es hk => ⟨⟨es, hk⟩, rfl⟩) (fun k s st cut fr z hk _ => ⟨⟨st, hk⟩, rfl, fun _ _ => rfl⟩)⟩
theorem Stand.trans {V V1 V2 : SS} {R1 R2 : Rs} (h : Stand P ν R φ V σ R1 V1) (k : Stand P ν R1 φ V1 σ R2 V2) : Stand P ν R φ V σ R2 V2 :=
  ⟨k.1.trans h.1, k.2.1.trans h.2.1, k.2.2.1.trans h.2.2.1, h.2.2.2.trans k.2.2.2⟩
theorem Stand.vrc {V V1 : SS} {R1 : Rs} (h : Stand P ν R φ V σ R1 V1) {x : IV} {c : Cl SE} (hx : VRc (evd P ν) R φ V.l σ x c) : VRc (evd P ν) R1 φ V1.l σ x c := hx.step h.2.2.2 c.ok_false
theorem Stand.vr {V V1 : SS} {R1 : Rs} (h : Stand P ν R φ V σ R1 V1) {x : IV} {c : PV SE} (hx : VR (evd P ν) R φ V.l σ x c) : VR (evd P ν) R1 φ V1.l σ x c := hx.step h.2.2.2 c.ok_false
theorem standRow_ok {V : SS} (h : J (evd P ν) R φ V.g V.l E σ) (k : Nat) : ∃ R', Stand P ν R φ V σ R' (standRow k V) ∧ J (evd P ν) R' φ (standRow k V).g (standRow k V).l E σ ∧
    (∀ s st cut fr z, V.l[k]? = some (.row s st cut fr z) → (standRow k V).l[k]? = some (.row s true cut fr z)) := by
  unfold standRow
  split
  · rename_i s cut fr es hk
    obtain ⟨R', h1, h2⟩ := stand_ok h hk
    refine ⟨R', ⟨rfl, rfl, rfl, h1⟩, h2, fun s' st' cut' fr' z' hk' => ?_⟩
    rw [hk] at hk'; cases hk'
    simp [setObj_get, getElem?_lt hk]
  · rename_i hn
    refine ⟨R, .refl h, h, fun s st cut fr z hk => ?_⟩
    cases st with
    | true => exact hk
    | false => exact absurd hk (hn _ _ _ _)
theorem rdC_ok {V V' : SS} {c : Cl SE} {fr : Bool} {z : SE} (h : J (evd P ν) R φ V.g V.l E σ) (hr : rdC V c = some (fr, z, V')) :
    ∃ R', Stand P ν R φ V σ R' V' ∧ J (evd P ν) R' φ V'.g V'.l E σ ∧ ∀ x, VRc (evd P ν) R φ V.l σ x c → ∃ y, z.den P ν = some y ∧ CanR fr R' σ x y ∧ cellOk y = true := by
  cases c with
  | v z' =>
    simp only [rdC, Option.some.injEq, Prod.mk.injEq] at hr
    obtain ⟨rfl, rfl, rfl⟩ := hr
    refine ⟨R, .refl h, h, fun x ⟨y, h1, h2, h3⟩ => ⟨y, h1, ?_, h3⟩⟩
    have hg : GrowR (fun _ => none) ⟨0, .lf⟩ R σ := ⟨fun _ _ h => (by cases h), fun _ _ _ _ _ h => (by cases h), h.fits⟩
    exact h2.mono hg
  | w f z' =>
    simp only [rdC, Option.some.injEq, Prod.mk.injEq] at hr
    obtain ⟨rfl, rfl, rfl⟩ := hr
    exact ⟨R, .refl h, h, fun x hx => hx⟩
  | nl b s =>
    simp only [rdC, Option.some.injEq, Prod.mk.injEq] at hr
    obtain ⟨rfl, rfl, rfl⟩ := hr
    refine ⟨R, .refl h, h, fun x ⟨h1, h2⟩ => ⟨.tree s [], ?_, ?_, rfl⟩⟩
    · simp [SE.den, h1]
    · subst h2
      cases b
      · exact .emp s h1
      · exact .nil s h1
  | sr k =>
    simp only [rdC] at hr
    split at hr
    · rename_i s st cut fr' es hk
      simp only [Option.some.injEq, Prod.mk.injEq] at hr
      obtain ⟨rfl, rfl, rfl⟩ := hr
      obtain ⟨R', h1, h2, h3⟩ := standRow_ok h k
      exact ⟨R', h1, h2, fun x hx => sr_reads h2 (h3 _ _ _ _ _ hk) (h1.vrc hx)⟩
    · cases hr
  | un | pt | tp | tw | sv | pr | mp | fn => simp [rdC] at hr
theorem rdCs_ok : ∀ {cs : List (Cl SE)} {V V' : SS} {R : Rs} {fr : Bool} {zs : List SE}, J (evd P ν) R φ V.g V.l E σ → rdCs V cs = some (fr, zs, V') →
    ∃ R', Stand P ν R φ V σ R' V' ∧ J (evd P ν) R' φ V'.g V'.l E σ ∧ zs.length = cs.length ∧ ∀ xs, All2 (VRc (evd P ν) R φ V.l σ) xs cs → ∃ ys, All2 (fun (z : SE) y => z.den P ν = some y) zs ys ∧ All2 (CanR fr R' σ) xs ys ∧ ys.all Ev.cellOk = true
  | [], V, V', R, fr, zs, h, hr => by
    simp only [rdCs, Option.some.injEq, Prod.mk.injEq] at hr
    obtain ⟨rfl, rfl, rfl⟩ := hr
    refine ⟨R, .refl h, h, rfl, fun xs hx => ⟨[], trivial, ?_, rfl⟩⟩
    cases xs with
    | nil => trivial
    | cons => exact hx.elim
  | c :: cs, V, V', R, fr, zs, h, hr => by
    simp only [rdCs] at hr
    split at hr
    · rename_i f1 z V1 h1
      split at hr
      · rename_i f2 zs' V2 h2
        simp only [Option.some.injEq, Prod.mk.injEq] at hr
        obtain ⟨rfl, rfl, rfl⟩ := hr
        obtain ⟨R1, a1, a2, a3⟩ := rdC_ok h h1
        obtain ⟨R2, b1, b2, bl, b3⟩ := rdCs_ok a2 h2
        refine ⟨R2, a1.trans b1, b2, by simp [bl], fun xs hx => ?_⟩
        cases xs with
        | nil => exact hx.elim
        | cons x xs =>
          obtain ⟨y, c1, c2, c3⟩ := a3 x hx.1
          obtain ⟨ys, d1, d2, d3⟩ := b3 xs (hx.2.mono fun _ _ hab => a1.vrc hab)
          exact ⟨y :: ys, ⟨c1, d1⟩, ⟨(c2.mono b1.2.2.2.grow).wide (fun h => by simp [h]), d2.mono fun _ _ hab => hab.wide (fun h => by simp [h])⟩, by simp [c3, d3]⟩
      · cases hr
    · cases hr
theorem acs_den : ∀ {zs : List SE} {ys : List IV}, All2 (fun (z : SE) y => z.den P ν = some y) zs ys → (acs zs).den P ν = some (.agg ys)
  | [], [], _ => rfl
  | z :: zs, y :: ys, h => by simp [acs, SE.den, h.1, acs_den h.2]
  | [], _ :: _, h => h.elim
  | _ :: _, [], h => h.elim
end Go.Ev
