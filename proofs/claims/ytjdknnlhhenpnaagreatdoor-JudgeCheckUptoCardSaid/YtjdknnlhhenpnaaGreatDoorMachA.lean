/- A part of the proof of one statement: an abstract machine for the model, proved sound; equations of the functions over it; what they reckon. -/
import Derived.Calls
import Derived.Orders
import Derived.Laws.Sem
import Derived.Laws.AppendOwn
import Derived.Below
import Derived.Laws.Rows
import Derived.Deep.MidRow
import Derived.Laws.IdiomCopy
import Derived.Laws.Slices
import Derived.Laws.StructEq
import Derived.Laws.Tables
import Derived.Great.BuildSlice
set_option linter.unusedVariables false
set_option linter.unusedSimpArgs false
namespace Go.Abs
inductive AAd where
  | real (a : Addr)
  | ob (id off : Nat)
def AAd.add : AAd → Nat → AAd
  | .real a, n => .real (a.add n)
  | .ob i o, n => .ob i (o + n)
def noOb : Option AAd → Bool
  | some (.ob _ _) => false
  | _ => true
inductive PV where
  | bool (b : Bool)
  | int (k : IntKind) (n : Int)
  | str (s : ByteArray)
  | nilp
  | ip (a : Option AAd) (cs : List PV)
  | ref (id off : Nat)
  | sl (a : Option AAd) (sz : Nat) (es : List PV)
  | snil
  | ar (id sz off len : Nat)
  | mp (id : Nat)
  | mnil
  | fn (f : FuncId) (caps : List PV)
  | fnil
  | agg (cs : List PV)
  | tup (vs : List PV)
  | undef
  deriving Inhabited
def PV.cells : PV → List PV
  | .agg cs => cs
  | v => [v]
def PV.cell (e : PV) (i : Nat) : PV := e.cells.getD i .undef
def PV.proj (e : PV) (n : Nat) : List PV := (List.range n).map e.cell
def PV.one : PV → Bool
  | .agg _ | .tup _ | .undef => false
  | _ => true
def PV.okCells (e : PV) (n : Nat) : Bool := match e with
  | .agg cs => cs.length == n
  | x => x.one && n == 1
def PV.comps : PV → List PV
  | .tup vs => vs
  | _ => []
mutual
def PV.pure : PV → Bool
  | .ref _ _ => false
  | .ar _ _ _ _ => false
  | .mp _ => false
  | .ip a cs => noOb a && PV.pureL cs
  | .sl a _ es => noOb a && PV.pureL es
  | .fn _ cs => PV.pureL cs
  | .agg cs => PV.pureL cs
  | .tup cs => PV.pureL cs
  | _ => true
def PV.pureL : List PV → Bool
  | [] => true
  | x :: xs => x.pure && PV.pureL xs
end
def ofVal0 : Value → PV
  | .bool b => .bool b
  | .int k n => .int k n
  | .string s => .str s
  | .pointer none => .nilp
  | .slice none 0 0 => .snil
  | .map none => .mnil
  | .nilFunc => .fnil
  | _ => .undef
def ofVal : Value → PV
  | .agg cs => if cs.toList.all (·.oneCell') then .agg (cs.toList.map ofVal0) else .undef
  | v => ofVal0 v
inductive Tk where
  | full
  | loc (t : Nat)
  | hp (t : Nat)
abbrev Cell := PV × Option Tk
inductive SV where
  | v (x : PV) (k : Option Tk)
  | box (cs : List Cell)
  | lp (slot off : Nat)
instance : Inhabited SV := ⟨.v .undef none⟩
inductive Ob where
  | cells (cs : List Cell)
  | map (es : List (PV × PV))
  | blk
  | bld (T e : TypeId) (l : List UInt8)
  | dead
abbrev Toks := List (Option (Nat × Nat))
structure Fr where
  env : List SV
  toks : Toks
structure St where
  objs : List Ob
  htoks : Toks
structure Hints where
  esc : FuncId → Tmp → Bool
  kill : FuncId → Nat → List Tmp
  ckill : FuncId → List Tmp
  last : FuncId → Nat → List Tmp
  ext : FuncId → Option (List PV → St → Option (PV × St))
  trim : Bool
  ad : FuncId → Bool
  bld : Option (TypeId × TypeId)
abbrev CallF := FuncId → List PV → St → Option (PV × St)
def chk (c : Bool) : Option Unit := if c then some () else none
def Fr.get (F : Fr) (t : Tmp) : SV := F.env.getD t (.v .undef none)
def Fr.set (F : Fr) (t : Tmp) (x : SV) : Fr := { F with env := F.env.set t x }
def Fr.put (F : Fr) (d : Option Tmp) (x : SV) : Fr := match d with
  | some d => F.set d x
  | none => F
def opd (F : Fr) : Operand → SV
  | .tmp t => match F.get t with
    | .box _ => .lp t 0
    | x => x
  | .const v => .v (ofVal v) none
  | .global _ => .v .undef none
  | .func f => .v (.fn f []) none
def SV.pv : SV → PV
  | .v x _ => x
  | _ => .undef
def SV.tk : SV → Option Tk
  | .v _ k => k
  | _ => none
def opv (F : Fr) (x : Operand) : PV := (opd F x).pv
def szOf (P : Program) (t : TypeId) : Option Nat := (P.underlying t).bind fun _ => (P.info? t).map (·.size)
def aggOf (P : Program) (t : TypeId) : Bool := match P.underlying t with
  | some (.struct _) => true
  | some (.array _ _) => true
  | _ => false
def asInt : PV → Option Int
  | .int _ n => some n
  | _ => none
def asBool : PV → Option Bool
  | .bool b => some b
  | _ => none
def asCells (e : PV) (n : Nat) : Option (List PV) := (chk (e.okCells n)).map fun _ => e.proj n
def zeroPV (P : Program) (t : TypeId) : Option PV := (P.info? t).bind fun i => i.zero.bind fun z => (chk ((ofVal z).okCells i.size)).map fun _ => ofVal z
def zeroOf (P : Program) (t : TypeId) : Option (List PV) := (zeroPV P t).map (·.cells)
def aggV (agg : Bool) (cs : List Cell) : Option SV :=
  if agg then some (.v (.agg (cs.map (·.1))) none) else match cs with
    | [c] => some (.v c.1 c.2)
    | _ => none
def part (cs : List Cell) (off n : Nat) : Option (List Cell) := if off + n ≤ cs.length then some ((cs.drop off).take n) else none
def ld (S : Option St) (F : Fr) (agg : Bool) (n : Nat) : SV → Option SV
  | .lp t off => match F.get t with
    | .box cs => (part cs off n).bind (aggV agg)
    | _ => none
  | .v (.ip _ cs) _ => (part (cs.map fun c => (c, none)) 0 n).bind (aggV agg)
  | .v (.ref id off) _ => S.bind fun S => match S.objs[id]? with
    | some (.cells cs) => (part cs off n).bind (aggV agg)
    | _ => none
  | _ => none
def setCells (cs : List Cell) (off : Nat) (new : List Cell) : List Cell := cs.take off ++ new ++ cs.drop (off + new.length)
def toHeap (F : Fr) (S : St) (x : PV) : Option Tk → Fr × St × Option Tk
  | some (.loc t) => match F.toks[t]? with
    | some (some (n, sz)) => ({ F with toks := F.toks.set t none }, { S with htoks := S.htoks ++ [some (n, sz)] }, some (.hp S.htoks.length))
    | _ => (F, S, none)
  | k => (F, S, k)
def newCells (x : SV) (agg : Bool) (n : Nat) : Option (List Cell) :=
  if agg then (asCells x.pv n).map fun cs => cs.map fun c => (c, none) else match x with
    | .v y k => (chk (y.one && n == 1)).map fun _ => [(y, k)]
    | _ => none
def sto (F : Fr) (S : St) (agg : Bool) (n : Nat) (p x : SV) : Option (Fr × St) :=
  (newCells x agg n).bind fun new => match p with
  | .lp t off => match F.get t with
    | .box cs => if off + n ≤ cs.length then some (F.set t (.box (setCells cs off new)), S) else none
    | _ => none
  | .v (.ref id off) _ => match S.objs[id]? with
    | some (.cells cs) => if off + n ≤ cs.length then
        if agg then some (F, { S with objs := S.objs.set id (.cells (setCells cs off new)) })
        else match new with
          | [(y, k)] => match toHeap F S y k with
            | (F', S', k') => some (F', { S' with objs := S'.objs.set id (.cells (setCells cs off [(y, k')])) })
          | _ => none
      else none
    | _ => none
  | _ => none
def fieldOf (P : Program) (t : TypeId) (i : Nat) : Option (Nat × Nat × Bool) := match P.underlying t with
  | some (.struct fs) => (fs[i]?).bind fun f => (szOf P f.type).map fun n => (f.offset, n, aggOf P f.type)
  | _ => none
def fieldA (off n : Nat) (agg : Bool) (x : PV) : Option SV := match x with
  | .agg cs => (part (cs.map fun c => (c, none)) off n).bind (aggV agg)
  | _ => none
def isBox (F : Fr) (t : Tmp) : Bool := match F.get t with
  | .box _ => true
  | _ => false
def fadr (F : Fr) (off : Nat) : SV → Option SV
  | .lp t o => (chk (isBox F t)).map fun _ => .lp t (o + off)
  | .v (.ip a cs) _ => some (.v (.ip (a.map (·.add off)) (cs.drop off)) none)
  | .v (.ref id o) _ => some (.v (.ref id (o + off)) none)
  | _ => none
def nilc (F : Fr) : SV → Option SV
  | .lp t o => (chk (isBox F t)).map fun _ => .lp t o
  | .v (.ip a cs) _ => some (.v (.ip a cs) none)
  | .v (.ref id o) _ => some (.v (.ref id o) none)
  | .v (.fn f cs) _ => some (.v (.fn f cs) none)
  | _ => none
def elemOf (P : Program) (t : TypeId) : Option (Nat × Nat × Bool) := match P.underlying t with
  | some (.slice e) => (P.info? e).map fun i => (i.size, i.bytes, aggOf P e)
  | _ => none
def iadr (sz : Nat) (x : PV) (i : Int) : Option PV := match x with
  | .sl a sz' es => (chk (sz' == sz && decide (0 ≤ i) && decide (i < es.length))).map fun _ =>
      .ip (a.map (·.add (i.toNat * sz))) ((es.getD i.toNat .undef).proj sz)
  | .ar id sz' off len => (chk (sz' == sz && decide (0 ≤ i) && decide (i < len))).map fun _ => .ref id ((off + i.toNat) * sz)
  | _ => none
def byteAt (s : ByteArray) (i : Nat) : Int := (s.data.getD i 0).toNat
def idx (x : PV) (i : Int) : Option PV := match x with
  | .str s => (chk (decide (0 ≤ i) && decide (i < s.size))).map fun _ => .int .u8 (byteAt s i.toNat)
  | _ => none
def slc (sz : Nat) (x : PV) (lo hi mx : Option Int) : Option (PV × Option Tk) := match x with
  | .sl a sz' es =>
    let h := hi.getD es.length; let l := lo.getD 0
    (chk (sz' == sz && decide (0 ≤ l) && decide (l ≤ h) && decide (h ≤ es.length) && (mx == none || (hi.isSome && mx == some h)))).map fun _ =>
      (.sl (if lo = none then a else none) sz ((es.drop l.toNat).take (h.toNat - l.toNat)), if mx = none then none else some .full)
  | .snil => (chk ((lo == none || lo == some 0) && (hi == none || hi == some 0) && mx == none)).map fun _ => (.snil, none)
  | .ar id sz' off len =>
    let h := hi.getD len; let l := lo.getD 0
    (chk (sz' == sz && decide (0 ≤ l) && decide (l ≤ h) && decide (h ≤ len) && (decide (l < len) || l == 0) && mx == none)).map fun _ => (.ar id sz (off + l.toNat) (h.toNat - l.toNat), none)
  | _ => none
def strSlc (x : PV) (lo hi : Option Int) : Option PV := match x with
  | .str s =>
    let h := hi.getD s.size; let l := lo.getD 0
    (chk (decide (0 ≤ l) && decide (l ≤ h) && decide (h ≤ s.size))).map fun _ => .str (s.extract l.toNat h.toNat)
  | _ => none
def lenStr : PV → Option Int
  | .str s => some s.size
  | _ => none
def lenSl : PV → Option Int
  | .sl _ _ es => some es.length
  | .snil => some 0
  | .ar _ _ _ len => some len
  | _ => none
def toScalar : PV → Option Value
  | .bool b => some (.bool b)
  | .int k n => some (.int k n)
  | .str s => some (.string s)
  | _ => none
def pureOf : Sem Value → Option Value
  | .pure v => some v
  | _ => none
def samePtr : PV → PV → Option Bool
  | .ip (some (.real a)) _, .ip (some (.real b)) _ => some (decide (a = b))
  | .ref i o, .ref j p => if i = j then some (decide (o = p)) else none
  | _, _ => none
def isCells (S : St) (id : Nat) : Bool := match S.objs[id]? with
  | some (.cells _) => true
  | _ => false
def isBlk (S : St) (id : Nat) : Bool := match S.objs[id]? with
  | some .blk => true
  | _ => false
def samePtrS (S : St) : PV → PV → Option Bool
  | .ref i o, .ref j p => if i = j then some (decide (o = p)) else if isCells S i && isCells S j then some false else none
  | .ip _ (_ :: _), .ref j _ => if isCells S j then some false else none
  | .ref i _, .ip _ (_ :: _) => if isCells S i then some false else none
  | .ip (some (.ob i o)) _, .ip (some (.ob j p)) _ => if i = j then some (decide (o = p)) else if isBlk S i && isBlk S j then some false else none
  | x, y => samePtr x y
def famT (P : Program) (t : TypeId) : Nat := match P.underlying t with
  | some (.pointer e) => match szOf P e with
    | some n => if n = 0 then 0 else 1
    | none => 0
  | some (.slice _) => 2
  | some (.map _ _) => 3
  | some (.func _ _ _) => 4
  | _ => 0
def fam : PV → Nat
  | .nilp | .ip _ _ | .ref _ _ => 1
  | .snil | .sl _ _ _ | .ar _ _ _ _ => 2
  | .mnil | .mp _ => 3
  | .fnil | .fn _ _ => 4
  | _ => 5
def isNil : PV → Bool
  | .nilp | .snil | .mnil | .fnil => true
  | _ => false
def isBoolT (P : Program) (t : TypeId) : Bool := match P.underlying t with
  | some .bool => true
  | _ => false
def refEq (P : Program) (t : TypeId) (x y : PV) : Option Bool := (chk (fam x == famT P t && fam y == famT P t)).bind fun _ =>
  if isNil x || isNil y then some (isNil x && isNil y) else if famT P t = 1 then samePtr x y else none
def binB (P : Program) (op : BinOp) (t : TypeId) (x y : PV) : Option PV :=
  match x, y, op with
  | .bool a, .bool b, .eql => (chk (isBoolT P t)).map fun _ => .bool (a == b)
  | .bool a, .bool b, .neq => (chk (isBoolT P t)).map fun _ => .bool (!(a == b))
  | .int j a, .int k b, op => (pureOf (Go.binOp op t (.int j a) (.int k b))).map ofVal0
  | .str a, .str b, op => (pureOf (Op.stringOp op a b)).map ofVal0
  | x, y, .eql => (refEq P t x y).map .bool
  | x, y, .neq => (refEq P t x y).map fun b => .bool (!b)
  | _, _, _ => none
def unA (op : UnOp) (x : PV) : Option PV := match toScalar x with
  | some v => (pureOf (Op.unary op v)).map ofVal0
  | none => none
def convA (P : Program) (src dst : TypeId) (x : PV) : Option PV := match P.underlying src, P.underlying dst, x with
  | some (.int _), some (.int k), .int _ n => some (.int k (k.wrap n))
  | some .string, some .string, .str s => some (.str s)
  | _, _, _ => none
def fillA (place : Nat → Option (Nat × Nat)) : List PV → List (Nat × PV) → Option (List PV)
  | cs, [] => some cs
  | cs, (i, v) :: rest => (place i).bind fun p => (asCells v p.2).bind fun new =>
      if p.1 + p.2 ≤ cs.length then fillA place (cs.take p.1 ++ new ++ cs.drop (p.1 + p.2)) rest else none
def placesOf (P : Program) (fs : List Field) : Option (List (Nat × Nat)) := fs.mapM fun f => (P.info? f.type).map fun i => (f.offset, i.size)
def buildA (P : Program) (t : TypeId) (parts : List (Nat × PV)) : Option PV :=
  (zeroOf P t).bind fun z => match P.underlying t with
  | some (.struct fs) => (placesOf P fs.toList).bind fun ps => (fillA (fun i => ps[i]?) z parts).map .agg
  | _ => none
def elems (agg : Bool) (sz : Nat) : Nat → List PV → List PV
  | 0, _ => []
  | n + 1, cs => (if agg then .agg (cs.take sz) else cs.getD 0 .undef) :: elems agg sz n (cs.drop sz)
def buildSl (P : Program) (t : TypeId) (len : Nat) (parts : List (Nat × PV)) : Option PV :=
  match P.underlying t with
  | some (.slice e) => (szOf P e).bind fun sz => (zeroOf P e).bind fun z =>
      if len = 0 then (if sz = 0 ∨ parts.isEmpty = false then none else some (.sl none sz [])) else
      if sz = 0 ∨ len = 0 ∨ 16777216 < len * sz ∨ (sz ≠ 1 ∧ aggOf P e = false) then none else
      (fillA (fun i => some (i * sz, sz)) (List.replicate len z).flatten parts).map fun cs => .sl none sz (elems (aggOf P e) sz len cs)
  | _ => none
def keyT1 (P : Program) (t : TypeId) : Bool := match P.underlying t with
  | some (.int _) | some .string | some .bool => szOf P t == some 1
  | some (.pointer _) => famT P t == 1 && szOf P t == some 1
  | _ => false
def keyT (P : Program) (t : TypeId) : Bool := match P.underlying t with
  | some (.struct fs) => !P.stoodInHeld t && fs.toList.zipIdx.all fun f => f.1.name != "_" && f.1.offset == f.2 && keyT1 P f.1.type
  | _ => keyT1 P t
def keyOk (P : Program) (t : TypeId) (x : PV) : Bool := match P.underlying t, x with
  | some (.struct fs), .agg cs => decide (fs.size ≤ cs.length)
  | some (.struct _), _ => false
  | _, _ => true
def keyEq (P : Program) (S : St) (t : TypeId) (x y : PV) : Option Bool := match P.underlying t with
  | some (.int _) => match x, y with
    | .int j a, .int k b => if j = k then some (a == b) else none
    | _, _ => none
  | some .string => match x, y with
    | .str a, .str b => some (a == b)
    | _, _ => none
  | some .bool => match x, y with
    | .bool a, .bool b => some (a == b)
    | _, _ => none
  | some (.pointer _) => if famT P t = 1 then samePtrS S x y else none
  | _ => none
def keysEq (P : Program) (S : St) : List TypeId → List PV → List PV → Option Bool
  | [], [], [] => some true
  | t :: ts, x :: xs, y :: ys => (keyEq P S t x y).bind fun b => (keysEq P S ts xs ys).map fun c => b && c
  | _, _, _ => none
def keyEqT (P : Program) (S : St) (t : TypeId) (x y : PV) : Option Bool := match P.underlying t, x, y with
  | some (.struct fs), .agg xs, .agg ys => keysEq P S (fs.toList.map (·.type)) xs ys
  | some (.struct _), _, _ => none
  | _, x, y => keyEq P S t x y
def aggEq (P : Program) (t : TypeId) (xs ys : List PV) : Option Bool := (chk (keyT P t && !(P.eqGuardType P.depth t))).bind fun _ => keyEqT P ⟨[], []⟩ t (.agg xs) (.agg ys)
def binA (P : Program) (op : BinOp) (t : TypeId) (x y : PV) : Option PV := match x, y, op with
  | .agg xs, .agg ys, .eql => (aggEq P t xs ys).map .bool
  | .agg xs, .agg ys, .neq => (aggEq P t xs ys).map fun b => .bool (!b)
  | x, y, op => binB P op t x y
def findKey (P : Program) (S : St) (t : TypeId) (k : PV) : List (PV × PV) → Option (Option PV)
  | [] => some none
  | e :: es => (keyEqT P S t k e.1).bind fun b => if b then some (some e.2) else findKey P S t k es
def setKey (P : Program) (S : St) (t : TypeId) (k v : PV) : List (PV × PV) → Option (List (PV × PV))
  | [] => some [(k, v)]
  | e :: es => (keyEqT P S t k e.1).bind fun b => if b then some ((k, v) :: es) else (setKey P S t k v es).map (e :: ·)
end Go.Abs
namespace Go.Abs
def room : Nat := 140737488355328
def zeroOk (P : Program) (t : TypeId) : Bool := match P.underlying t with
  | some (.slice e) => (zeroPV P e).isSome
  | _ => false
def appendT (P : Program) (t : TypeId) (ts hs : Toks) (x : SV) (y : PV) : Option (PV × Option Tk × Toks × Toks) :=
  (elemOf P t).bind fun e => let sz := e.1; let bytes := e.2.1
  let ys? : Option (List PV) := match y with
    | .sl _ sz' es => (chk (sz' == sz)).map fun _ => es
    | .snil => some []
    | _ => none
  ys?.bind fun ys =>
  match x with
  | .v x k =>
    if ys.isEmpty then (match x with
      | .sl _ sz' _ => (chk (sz' == sz)).map fun _ => (x, k, ts, hs)
      | .snil => some (x, k, ts, hs)
      | _ => none)
    else
    let es? : Option (List PV) := match x with
      | .sl _ sz' es => (chk (sz' == sz)).map fun _ => es
      | .snil => some []
      | _ => none
    es?.bind fun es => (chk (zeroOk P t && decide (0 < sz) && decide ((es.length + ys.length) * bytes ≤ room) && decide (es.length + ys.length ≤ room))).bind fun _ =>
    match k, x with
    | some (.loc t), .sl _ _ _ => match ts[t]? with
      | some (some (n, z)) => if n = es.length ∧ z = sz then
          some (.sl none sz (es ++ ys), some (.loc t), ts.set t (some (es.length + ys.length, sz)), hs) else none
      | _ => none
    | some (.hp t), .sl _ _ _ => match hs[t]? with
      | some (some (n, z)) => if n = es.length ∧ z = sz then
          some (.sl none sz (es ++ ys), some (.hp t), ts, hs.set t (some (es.length + ys.length, sz))) else none
      | _ => none
    | some .full, _ => some (.sl none sz (es ++ ys), some (.loc ts.length), ts ++ [some (es.length + ys.length, sz)], hs)
    | _, .snil => some (.sl none sz (es ++ ys), some (.loc ts.length), ts ++ [some (es.length + ys.length, sz)], hs)
    | _, _ => none
  | _ => none
def isStr (P : Program) (t : TypeId) : Bool := match P.underlying t with
  | some .string => true
  | _ => false
def isBytes (P : Program) (t : TypeId) : Bool := match P.underlying t with
  | some (.slice e) => match P.underlying e with
    | some (.int .u8) => szOf P e == some 1
    | _ => false
  | _ => false
def strPV (s : ByteArray) : List PV := s.data.toList.map fun b => .int .u8 b.toNat
def appArg (P : Program) (t u : TypeId) (y : PV) : Option PV :=
  if t = u then some y else if isBytes P t && isStr P u then match y with
    | .str s => some (.sl none 1 (strPV s))
    | _ => none
  else none
def appendA (P : Program) (t : TypeId) (F : Fr) (S : St) (x : SV) (y : PV) : Option (SV × Fr × St) :=
  (appendT P t F.toks S.htoks x y).map fun r => (.v r.1 r.2.1, { F with toks := r.2.2.1 }, { S with htoks := r.2.2.2 })
def lastAd (objs : List Ob) : SV → Option (Nat × Option Nat)
  | .v .snil _ => some (0, none)
  | .v (.sl _ _ es) (some .full) => some (es.length, none)
  | .v (.sl (some (.ob id 0)) _ es) _ => match objs[id]? with
    | some .blk => some (es.length, some id)
    | _ => none
  | _ => none
def killB (q : Option Nat) (objs : List Ob) : List Ob := match q with
  | none => objs
  | some id => objs.set id .dead
def adoptV (ad : Bool) (objs : List Ob) (x : SV) (y : PV) : PV × List Ob := match ad with
  | false => (y, objs)
  | true => match y with
    | .sl none sz es => match lastAd objs x with
      | some (n, q) => if es.length = n then (y, objs) else
          (.sl (some (.ob objs.length 0)) sz es, killB q objs ++ [.blk])
      | none => (y, objs)
    | _ => (y, objs)
def foldI (g : Int → Int → Int) (k : IntKind) : Int → List PV → Option Int
  | a, [] => some a
  | a, .int k' b :: rest => if k = k' then foldI g k (g a b) rest else none
  | _, _ => none
def foldInt (g : Int → Int → Int) : List PV → Option PV
  | .int k a :: rest => (foldI g k a rest).map (.int k)
  | _ => none
def mapOf (P : Program) (t : TypeId) : Option (TypeId × TypeId) := match P.underlying t with
  | some (.map k e) => (chk (keyT P k)).map fun _ => (k, e)
  | _ => none
def mapEs (S : St) : PV → Option (List (PV × PV))
  | .mnil => some []
  | .mp id => match S.objs[id]? with
    | some (.map es) => some es
    | _ => none
  | _ => none
def isSlice (P : Program) (t : TypeId) : Bool := match P.underlying t with
  | some (.slice _) => true
  | _ => false
def optInt (F : Fr) : Option Operand → Option (Option Int)
  | none => some none
  | some x => (asInt (opv F x)).map some
def maxI (a b : Int) : Int := if b > a then b else a
def minI (a b : Int) : Int := if b < a then b else a
def newOb (bld : Option (TypeId × TypeId)) (t : TypeId) (z : List PV) : Ob := match bld, z with
  | some (t0, e0), [.nilp, .snil] => if t = t0 ∧ t0 ≠ e0 then .bld t0 e0 [] else .cells (z.map fun c => (c, none))
  | _, _ => .cells (z.map fun c => (c, none))
def SV.keep (b : Bool) : SV → SV
  | .v x k => .v x (if b then k else none)
  | x => x
def SV.notTo (d : Tmp) : SV → Bool
  | .lp s _ => s != d
  | _ => true
def evalO (P : Program) (T : Hints) (call : CallF) (f : FuncId) (free : Bool) (o : Oper) (F : Fr) (S : St) : Option (Fr × St) :=
  let val (x : Option SV) : Option (Fr × St) := x.bind fun x => (chk (match o.dst with | some d => x.notTo d | none => true)).map fun _ => (F.put o.dst x, S)
  let pv (x : Option PV) : Option (Fr × St) := x.map fun x => (F.put o.dst (.v x none), S)
  let S? : Option St := if free then none else some S
  match o.op with
  | .move x | .assign x => val (some (opd F x))
  | .pick c a b => (asBool (opv F c)).bind fun c => val (some (if c then opd F a else opd F b))
  | .alloc t => (zeroOf P t).bind fun z => match o.dst with
    | some d => if T.esc f d then some (F.set d (.v (.ref S.objs.length 0) none), { S with objs := S.objs ++ [newOb T.bld t z] })
      else (chk (F.env.all (SV.notTo d))).map fun _ => (F.set d (.box (z.map fun c => (c, none))), S)
    | none => none
  | .box t x => (szOf P t).bind fun n => (newCells (opd F x) (aggOf P t) n).bind fun cs => match o.dst with
    | some d => if T.esc f d then some (F.set d (.v (.ref S.objs.length 0) none), { S with objs := S.objs ++ [.cells (cs.map fun c => (c.1, none))] })
      else (chk (F.env.all (SV.notTo d))).map fun _ => (F.set d (.box cs), S)
    | none => none
  | .load t p => (szOf P t).bind fun n => val ((ld S? F (aggOf P t) n (opd F p)).map (SV.keep (isSlice P t)))
  | .store t p x => (szOf P t).bind fun n => (sto F S (aggOf P t) n (opd F p) (opd F x)).map fun r => (r.1.put o.dst (.v .undef none), r.2)
  | .nilCheck x => val (nilc F (opd F x))
  | .binOp op t x y _ => pv (binA P op t (opv F x) (opv F y))
  | .unOp op _ x => pv (unA op (opv F x))
  | .convert a b x => pv (convA P a b (opv F x))
  | .makeFunc (.func g) first caps => if first.isEmpty then pv (some (.fn g (caps.toList.map (opv F)))) else none
  | .makeMap _ none => some (F.put o.dst (.v (.mp S.objs.length) none), { S with objs := S.objs ++ [.map []] })
  | .makeSlice t l c => (asInt (opv F l)).bind fun l => (asInt (opv F c)).bind fun c => match P.underlying t with
    | some (.slice e) => (P.info? e).bind fun i => (zeroPV P e).bind fun z =>
      (chk (decide (l = c) && decide (0 ≤ l) && decide (0 < i.size) && decide (l.toNat * i.bytes ≤ room) && decide (l.toNat ≤ room))).bind fun _ =>
        match o.dst with
        | some d => if T.esc f d then
            some (F.set d (.v (.ar S.objs.length i.size 0 l.toNat) none), { S with objs := S.objs ++ [.cells ((List.replicate l.toNat z.cells).flatten.map fun c => (c, none))] })
          else some (F.set d (.v (.sl none i.size (List.replicate l.toNat z)) (some .full)), S)
        | none => none
    | _ => none
  | .slice t x lo hi mx => (optInt F lo).bind fun lo => (optInt F hi).bind fun hi => (optInt F mx).bind fun mx =>
      if isStr P t then (if mx = none then pv (strSlc (opv F x) lo hi) else none)
      else (elemOf P t).bind fun e => val ((slc e.1 (opv F x) lo hi mx).map fun r => .v r.1 r.2)
  | .fieldAddr t x i => (fieldOf P t i).bind fun r => if r.2.1 = 0 then none else val (fadr F r.1 (opd F x))
  | .field t x i => (fieldOf P t i).bind fun r => val (fieldA r.1 r.2.1 r.2.2 (opv F x))
  | .indexAddr t x i => (asInt (opv F i)).bind fun i => (elemOf P t).bind fun e => pv (iadr e.1 (opv F x) i)
  | .index t x i => if isStr P t then (asInt (opv F i)).bind fun i => pv (idx (opv F x) i) else none
  | .lookup t m k ok => (mapOf P t).bind fun ke => S?.bind fun S' => (chk (keyOk P ke.1 (opv F k))).bind fun _ => (mapEs S' (opv F m)).bind fun es => (findKey P S' ke.1 (opv F k) es).bind fun r =>
      (zeroPV P ke.2).bind fun z => pv (some (if ok then .tup [r.getD z, .bool r.isSome] else r.getD z))
  | .mapUpdate t m k v => (mapOf P t).bind fun ke => match opv F m with
    | .mp id => match S.objs[id]? with
      | some (.map es) => (chk (keyOk P ke.1 (opv F k))).bind fun _ => (setKey P S ke.1 (opv F k) (opv F v) es).map fun es' => (F.put o.dst (.v .undef none), { S with objs := S.objs.set id (.map es') })
      | _ => none
    | _ => none
  | .build t ps => pv (buildA P t (ps.toList.map fun p => (p.1, opv F p.2)))
  | .buildSlice t n ps => val ((buildSl P t n (ps.toList.map fun p => (p.1, opv F p.2))).map fun x => .v x (some .full))
  | .extract x i => let r := opv F x; (chk (decide (i < r.comps.length))).bind fun _ => pv (some (r.comps.getD i .undef))
  | .call c => match c.callee with
    | .value g => match opv F g with
      | .fn g caps => (call g (c.args.toList.map (opv F) ++ caps) S).map fun r => (F.put o.dst (.v r.1 none), r.2)
      | _ => none
    | .builtin .len => match c.args.toList, c.argTypes.toList with
      | [x], [t] => match mapOf P t with
        | some _ => S?.bind fun S' => (mapEs S' (opv F x)).bind fun es => pv (some (.int .i64 es.length))
        | none => if isStr P t then pv ((lenStr (opv F x)).map (.int .i64)) else if isSlice P t then pv ((lenSl (opv F x)).map (.int .i64)) else none
      | _, _ => none
    | .builtin .max => pv (foldInt maxI (c.args.toList.map (opv F)))
    | .builtin .min => pv (foldInt minI (c.args.toList.map (opv F)))
    | .builtin .append => match c.args.toList, c.argTypes.toList with
      | [x, y], [t, t'] => (appArg P t t' (opv F y)).bind fun y => (appendA P t F S (opd F x) y).map fun r => (r.2.1.put o.dst (.v (adoptV (T.ad f) S.objs (opd F x) r.1.pv).1 r.1.tk), { r.2.2 with objs := (adoptV (T.ad f) S.objs (opd F x) r.1.pv).2 })
      | _, _ => none
    | _ => none
  | _ => none
def guardA : PV → Bool → Option Bool
  | .bool b, want => some (b == want)
  | .tup [], _ => some false
  | _, _ => none
def evalG (P : Program) (T : Hints) (call : CallF) (f : FuncId) (ops : List Oper) (free : Bool) (o : Oper) (F : Fr) (S : St) : Option (Fr × St) :=
  match o.guard with
  | none => evalO P T call f free o F S
  | some (j, want) => match (ops[j]?).bind (·.dst) with
    | some d => (guardA (F.get d).pv want).bind fun g => if g then evalO P T call f free o F S else some (F.put o.dst (.v (.tup []) none), S)
    | none => none
def evalL (P : Program) (T : Hints) (call : CallF) (f : FuncId) (ops : List Oper) (free : Nat → Bool) : Nat → List Oper → Fr → St → Option (Fr × St)
  | _, [], F, S => some (F, S)
  | i, o :: rest, F, S => (evalG P T call f ops (free i) o F S).bind fun r => evalL P T call f ops free (i + 1) rest r.1 r.2
def cls (T : Hints) (f : FuncId) (o : Oper) : Nat := match o.op with
  | .move _ | .assign _ | .pick .. | .binOp .. | .unOp .. | .convert .. | .makeFunc .. | .slice .. | .fieldAddr .. | .field .. | .indexAddr ..
  | .index .. | .build .. | .buildSlice .. | .extract .. | .nilCheck _ => 0
  | .alloc _ | .box _ _ => match o.dst with
    | some d => if T.esc f d then 2 else 0
    | none => 2
  | .load .. | .lookup .. => 1
  | .call { callee := .builtin .len, .. } => 1
  | .call { callee := .builtin .max, .. } => 0
  | .call { callee := .builtin .min, .. } => 0
  | .store .. => 3
  | _ => 2
def SV.clr : SV → SV
  | .lp _ _ => .v .undef none
  | x => x
def Fr.clr (F : Fr) : Fr := { F with env := F.env.map SV.clr }
def Fr.forget (F : Fr) : List Tmp → Fr
  | [] => F
  | t :: ts => (F.set t (.v .undef none)).forget ts
def orL (acc : List Nat) : List Edge → Nat
  | [] => 0
  | e :: es => (if Region.binds .any e then (1 <<< e.on) ||| acc.getD e.on 0 else 0) ||| orL acc es
def ancL : List Oper → List Nat → List Nat
  | [], acc => acc
  | o :: os, acc => ancL os (acc ++ [orL acc o.after.toList])
def anc (ops : Array Oper) : List Nat := ancL ops.toList []
def clsOk (x y : Nat) : Bool := !(decide (2 ≤ x) && decide (2 ≤ y)) && !(decide (x = 3) && decide (y = 1)) && !(decide (x = 1) && decide (y = 3))
def drawOk (T : Hints) (f : FuncId) (ops : Array Oper) : Bool :=
  ops.toList.zipIdx.all fun y => (y.1.after.all fun e => decide (e.on < y.2) || !(Region.binds .any e)) &&
    ops.toList.zipIdx.all fun x => decide (y.2 ≤ x.2) || ((x.1.dst.isNone || x.1.dst != y.1.dst) && (((anc ops).getD y.2 0).testBit x.2 || (Oper.apart ops x.1 y.1 && clsOk (cls T f x.1) (cls T f y.1))))
def keepsO (T : Hints) (f : FuncId) (o : Oper) : Bool := match o.op with
  | .call { callee := .builtin .append, .. } => !T.ad f
  | _ => false
def freeAt (T : Hints) (f : FuncId) (ops : Array Oper) (i : Nat) : Bool :=
  match ops.toList[i]? with
  | some x => decide (cls T f x = 1) && ops.toList.zipIdx.any fun y => decide (2 ≤ cls T f y.1) && !keepsO T f y.1 && !(if i < y.2 then ((anc ops).getD y.2 0).testBit i else ((anc ops).getD i 0).testBit y.2)
  | none => false
def startOk (ops : Array Oper) (F : Fr) : Bool := ops.toList.all fun o => match o.dst with
  | some d => !isBox F d
  | none => true
def evalR (P : Program) (T : Hints) (call : CallF) (f : FuncId) (id : Nat) (ops : Array Oper) (draw : Bool) (F : Fr) (S : St) : Option (Fr × St) :=
  let F := F.forget (T.kill f id)
  if draw then (if drawOk T f ops && startOk ops F then (evalL P T call f ops.toList (freeAt T f ops) 0 ops.toList F S).map fun r => ((r.1.forget (T.last f id)).clr, r.2) else none)
  else (evalL P T call f ops.toList (fun _ => false) 0 ops.toList F S).map fun r => ((r.1.forget (T.last f id)).clr, r.2)
inductive Ex where
  | normal
  | exit (id : Nat)
  | ret
abbrev Res := Option (Ex × Fr × St)
def iter (b : Fr → St → Res) : Nat → Fr → St → Res
  | 0, _, _ => none
  | n + 1, F, S => match b F S with
    | some (.normal, F', S') => iter b n F' S'
    | r => r
def condA (T : Hints) (f : FuncId) (F : Fr) (c : Operand) : Option (Bool × Fr) :=
  (asBool (opv F c)).map fun b => (b, match c with
    | .tmp t => if (T.ckill f).contains t then F.set t (.v .undef none) else F
    | _ => F)
def resTmps (rs : List ResultVar) : List Tmp := rs.map fun | .tmp t => t | .cell a _ => a
def keepOnly (ts : List Tmp) (F : Fr) : Fr := { F with env := F.env.zipIdx.map fun x => if ts.contains x.2 then x.1 else .v .undef none }
def evalD (P : Program) (T : Hints) (call : CallF) (n : Nat) (f : FuncId) (rs : List Tmp) : Code → Fr → St → Res
  | .skip, F, S => some (.normal, F, S)
  | .region id ops draw, F, S => (evalR P T call f id ops draw F S).map fun r => (.normal, r.1, r.2)
  | .seq a b, F, S => match evalD P T call n f rs a F S with
    | some (.normal, F', S') => evalD P T call n f rs b F' S'
    | r => r
  | .cond c x y, F, S => (condA T f F c).bind fun r => if r.1 then evalD P T call n f rs x r.2 S else evalD P T call n f rs y r.2 S
  | .block id b, F, S => match evalD P T call n f rs b F S with
    | some (.exit id', F', S') => if id' = id then some (.normal, F', S') else some (.exit id', F', S')
    | r => r
  | .loop b, F, S => iter (evalD P T call n f rs b) n F S
  | .exit id, F, S => some (.exit id, F, S)
  | .ret, F, S => some (.ret, keepOnly rs F, S)
  | _, _, _ => none
def initF (fn : Func) (args : List PV) : Fr := { env := args.map (fun x => .v x none) ++ List.replicate (fn.ntmps - args.length) (.v .undef none), toks := [] }
def resOf (P : Program) (F : Fr) (S : St) : ResultVar → Option PV
  | .tmp t => some (F.get t).pv
  | .cell a t => (szOf P t).bind fun n => (ld (some S) F (aggOf P t) n (opd F (.tmp a))).map (·.pv)
def resL (P : Program) (F : Fr) (S : St) : List ResultVar → Option (List PV)
  | [] => some []
  | r :: rs => (resOf P F S r).bind fun x => (resL P F S rs).map (x :: ·)
def resV (vs : List PV) : PV := match vs with
  | [x] => x
  | vs => .tup vs
open Classical in
noncomputable def fin (tr : Bool) (S : St) (r : PV) (S' : St) : PV × St := match tr with
  | true => if S'.objs.take S.objs.length = S.objs ∧ S'.htoks.take S.htoks.length = S.htoks ∧ r.pure = true then (r, S) else (r, S')
  | false => (r, S')
noncomputable def finish (P : Program) (tr : Bool) (fn : Func) (S0 : St) : Ex → Fr → St → Option (PV × St)
  | .exit _, _, _ => none
  | _, F, S => (resL P F S fn.results.toList).map fun vs => fin tr S0 (resV vs) S
noncomputable def run (P : Program) (T : Hints) : Nat → CallF
  | 0, _, _, _ => none
  | k + 1, f, args, S => match T.ext f with
    | some h => h args S
    | none => (P.funcs[f]?).bind fun fn => fn.body.bind fun c =>
      (evalD P T (run P T k) k f (resTmps fn.results.toList) c (initF fn args) S).bind fun r => finish P T.trim fn S r.1 r.2.1 r.2.2
end Go.Abs
namespace Go.Abs
theorem aggV_form {agg : Bool} {cs : List Cell} {x : SV} (h : aggV agg cs = some x) : ∃ y k, x = .v y k := by
  unfold aggV at h
  split at h
  · cases h; exact ⟨_, _, rfl⟩
  · split at h
    · cases h; exact ⟨_, _, rfl⟩
    · cases h
def CallLe (c c' : CallF) : Prop := ∀ f args S r, c f args S = some r → c' f args S = some r
section
variable {P : Program} {T : Hints}
theorem evalO_call {call call' : CallF} {f : FuncId} {free : Bool} {o : Oper} {F : Fr} {S : St} (h : ∀ g as ts, o.op ≠ .call ⟨.value g, as, ts⟩) :
    evalO P T call f free o F S = evalO P T call' f free o F S := by
  obtain ⟨dst, op, type, pos, after, guard⟩ := o
  cases op with
  | call c =>
    obtain ⟨callee, as, ts⟩ := c
    cases callee with
    | value g => exact absurd rfl (h g as ts)
    | invoke a b => rfl
    | builtin b => cases b <;> rfl
  | makeFunc fn _ _ => cases fn <;> rfl
  | makeMap _ r => cases r <;> rfl
  | _ => rfl
theorem evalO_mono {call call' : CallF} (hc : CallLe call call') {f : FuncId} {free : Bool} {o : Oper} {F : Fr} {S : St} {r : Fr × St}
    (h : evalO P T call f free o F S = some r) : evalO P T call' f free o F S = some r := by
  by_cases hv : ∃ g as ts, o.op = .call ⟨.value g, as, ts⟩
  · obtain ⟨g, as, ts, hv⟩ := hv
    simp only [evalO, hv] at h ⊢
    cases hg : opv F g <;> simp only [hg] at h ⊢ <;> try exact h
    rename_i f' caps
    obtain ⟨x, hx, rfl⟩ := Option.map_eq_some_iff.1 h
    rw [hc _ _ _ _ hx]; rfl
  · rw [← h]; exact evalO_call fun g as ts e => hv ⟨g, as, ts, e⟩
theorem evalG_mono {call call' : CallF} (hc : CallLe call call') {f : FuncId} {ops : List Oper} {free : Bool} {o : Oper} {F : Fr} {S : St} {r : Fr × St}
    (h : evalG P T call f ops free o F S = some r) : evalG P T call' f ops free o F S = some r := by
  unfold evalG at h ⊢
  cases hg : o.guard with
  | none => simp only [hg] at h ⊢; exact evalO_mono hc h
  | some jw =>
    simp only [hg] at h ⊢
    cases hd : (ops[jw.1]?).bind (·.dst) with
    | none => simp only [hd] at h; cases h
    | some d =>
      simp only [hd] at h ⊢
      obtain ⟨g, hg', h⟩ := Option.bind_eq_some_iff.1 h
      rw [hg']; simp only [Option.bind_some]
      split at h
      · rename_i hb; rw [if_pos hb]; exact evalO_mono hc h
      · rename_i hb; rw [if_neg hb]; exact h
theorem evalL_mono {call call' : CallF} (hc : CallLe call call') {f : FuncId} {ops : List Oper} {free : Nat → Bool} (l : List Oper) : ∀ {i : Nat} {F : Fr} {S : St} {r : Fr × St},
    evalL P T call f ops free i l F S = some r → evalL P T call' f ops free i l F S = some r := by
  induction l with
  | nil => intro i F S r h; exact h
  | cons o rest ih =>
    intro i F S r h
    simp only [evalL] at h ⊢
    obtain ⟨x, hx, hr⟩ := Option.bind_eq_some_iff.1 h
    rw [evalG_mono hc hx]; exact ih hr
theorem evalR_mono {call call' : CallF} (hc : CallLe call call') {f : FuncId} {id : Nat} {ops : Array Oper} {draw : Bool} {F : Fr} {S : St} {r : Fr × St}
    (h : evalR P T call f id ops draw F S = some r) : evalR P T call' f id ops draw F S = some r := by
  unfold evalR at h ⊢
  dsimp only at h ⊢
  split at h
  · rename_i hd; rw [if_pos hd]
    split at h
    · rename_i ho; rw [if_pos ho]
      obtain ⟨x, hx, hr⟩ := Option.map_eq_some_iff.1 h
      rw [evalL_mono hc _ hx]; simp [hr]
    · cases h
  · rename_i hd; rw [if_neg hd]
    obtain ⟨x, hx, hr⟩ := Option.map_eq_some_iff.1 h
    rw [evalL_mono hc _ hx]; simp [hr]
theorem iter_mono {b b' : Fr → St → Res} (hb : ∀ F S r, b F S = some r → b' F S = some r) : ∀ {n m : Nat}, n ≤ m → ∀ {F : Fr} {S : St} {r : Ex × Fr × St},
    iter b n F S = some r → iter b' m F S = some r := by
  intro n
  induction n with
  | zero => intro m _ F S r h; cases h
  | succ n ih =>
    intro m hm F S r h
    obtain ⟨m, rfl⟩ : ∃ k, m = k + 1 := ⟨m - 1, by omega⟩
    simp only [iter] at h ⊢
    cases hx : b F S with
    | none => simp [hx] at h
    | some x =>
      obtain ⟨e, F', S'⟩ := x
      rw [hx] at h
      rw [hb _ _ _ hx]
      cases e with
      | normal => exact ih (by omega) h
      | exit id => exact h
      | ret => exact h
theorem evalD_mono {call call' : CallF} (hc : CallLe call call') {n m : Nat} (hnm : n ≤ m) {f : FuncId} {rs : List Tmp} (c : Code) : ∀ {F : Fr} {S : St} {r : Ex × Fr × St},
    evalD P T call n f rs c F S = some r → evalD P T call' m f rs c F S = some r := by
  induction c with
  | skip => intro F S r h; exact h
  | region id ops draw =>
    intro F S r h
    simp only [evalD] at h ⊢
    obtain ⟨x, hx, hr⟩ := Option.map_eq_some_iff.1 h
    rw [evalR_mono hc hx]; simp [hr]
  | seq a b iha ihb =>
    intro F S r h
    simp only [evalD] at h ⊢
    cases hx : evalD P T call n f rs a F S with
    | none => simp [hx] at h
    | some x =>
      obtain ⟨e, F', S'⟩ := x
      rw [hx] at h
      rw [iha hx]
      cases e with
      | normal => exact ihb h
      | exit id => exact h
      | ret => exact h
  | cond c x y ihx ihy =>
    intro F S r h
    simp only [evalD] at h ⊢
    cases hb : condA T f F c with
    | none => simp [hb] at h
    | some b =>
      simp only [hb, Option.bind_some] at h ⊢
      split at h
      · rename_i hb'; rw [if_pos hb']; exact ihx h
      · rename_i hb'; rw [if_neg hb']; exact ihy h
  | block id b ih =>
    intro F S r h
    simp only [evalD] at h ⊢
    cases hx : evalD P T call n f rs b F S with
    | none => simp [hx] at h
    | some x =>
      obtain ⟨e, F', S'⟩ := x
      rw [hx] at h
      rw [ih hx]
      exact h
  | loop b ih => intro F S r h; exact iter_mono (fun F S r h => ih h) hnm h
  | exit id => intro F S r h; exact h
  | ret => intro F S r h; exact h
  | rangeFunc _ _ _ _ => intro F S r h; exact h
  | scope _ => intro F S r h; exact h
  | label _ => intro F S r h; exact h
  | goto _ => intro F S r h; exact h
  | refuse _ => intro F S r h; exact h
theorem run_succ : ∀ k, CallLe (run P T k) (run P T (k + 1))
  | 0 => fun f args S r h => by simp [run] at h
  | k + 1 => fun f args S r h => by
    rw [run] at h ⊢
    cases hx : T.ext f with
    | some x => rw [hx] at h; exact h
    | none =>
    rw [hx] at h
    simp only at h ⊢
    obtain ⟨fn, hf, h⟩ := Option.bind_eq_some_iff.1 h
    obtain ⟨c, hb, h⟩ := Option.bind_eq_some_iff.1 h
    obtain ⟨x, hx, h⟩ := Option.bind_eq_some_iff.1 h
    rw [hf]; simp only [Option.bind_some]; rw [hb]; simp only [Option.bind_some]
    rw [evalD_mono (run_succ k) (Nat.le_succ k) c hx]
    exact h
theorem run_le {k k' : Nat} (h : k ≤ k') : CallLe (run P T k) (run P T k') := by
  induction h with
  | refl => exact fun _ _ _ _ h => h
  | step _ ih => exact fun f args S r h => run_succ _ _ _ _ _ (ih f args S r h)
end
open Classical in
noncomputable def lim {α : Type} (g : Nat → Option α) : Option α := if h : ∃ k r, g k = some r then g h.choose else none
theorem lim_some {α : Type} {g : Nat → Option α} (hg : ∀ k k' r, k ≤ k' → g k = some r → g k' = some r) {r : α} : lim g = some r ↔ ∃ k, g k = some r := by
  unfold lim
  constructor
  · intro h
    split at h
    · rename_i hx; exact ⟨_, h⟩
    · cases h
  · rintro ⟨k, hk⟩
    have hx : ∃ k r, g k = some r := ⟨k, r, hk⟩
    rw [dif_pos hx]
    obtain ⟨r', hr'⟩ := hx.choose_spec
    rw [hr']
    have h1 := hg _ _ _ (Nat.le_max_left k hx.choose) hk
    have h2 := hg _ _ _ (Nat.le_max_right k hx.choose) hr'
    rw [h1] at h2; exact h2.symm
noncomputable def Run (P : Program) (T : Hints) : CallF := fun f args S => lim fun k => run P T k f args S
noncomputable def D (P : Program) (T : Hints) (f : FuncId) (rs : List Tmp) (c : Code) (F : Fr) (S : St) : Res := lim fun k => evalD P T (run P T k) k f rs c F S
section
variable {P : Program} {T : Hints} {f : FuncId} {rs : List Tmp}
theorem Run_some {args : List PV} {S : St} {r : PV × St} : Run P T f args S = some r ↔ ∃ k, run P T k f args S = some r :=
  lim_some fun k k' r h hk => run_le h _ _ _ _ hk
theorem D_some {c : Code} {F : Fr} {S : St} {r : Ex × Fr × St} : D P T f rs c F S = some r ↔ ∃ k, evalD P T (run P T k) k f rs c F S = some r :=
  lim_some fun k k' r h hk => evalD_mono (run_le h) h c hk
theorem run_Run (k : Nat) : CallLe (run P T k) (Run P T) := fun f args S r h => Run_some.2 ⟨k, h⟩
theorem evalO_lim {free : Bool} {o : Oper} {F : Fr} {S : St} {r : Fr × St} (h : evalO P T (Run P T) f free o F S = some r) :
    ∃ k, evalO P T (run P T k) f free o F S = some r := by
  by_cases hv : ∃ g as ts, o.op = .call ⟨.value g, as, ts⟩
  · obtain ⟨g, as, ts, hv⟩ := hv
    simp only [evalO, hv] at h ⊢
    cases hg : opv F g <;> simp only [hg] at h ⊢ <;> try (cases h)
    rename_i f' caps
    obtain ⟨x, hx, rfl⟩ := Option.map_eq_some_iff.1 h
    obtain ⟨k, hk⟩ := Run_some.1 hx
    exact ⟨k, by rw [hk]; rfl⟩
  · exact ⟨0, by rw [← h]; exact evalO_call fun g as ts e => hv ⟨g, as, ts, e⟩⟩
theorem evalG_lim {ops : List Oper} {free : Bool} {o : Oper} {F : Fr} {S : St} {r : Fr × St} (h : evalG P T (Run P T) f ops free o F S = some r) :
    ∃ k, evalG P T (run P T k) f ops free o F S = some r := by
  unfold evalG at h ⊢
  cases hg : o.guard with
  | none => simp only [hg] at h ⊢; exact evalO_lim h
  | some jw =>
    simp only [hg] at h ⊢
    cases hd : (ops[jw.1]?).bind (·.dst) with
    | none => simp only [hd] at h; cases h
    | some d =>
      simp only [hd] at h ⊢
      obtain ⟨g, hg', h⟩ := Option.bind_eq_some_iff.1 h
      rw [hg']; simp only [Option.bind_some]
      split at h
      · rename_i hb; simp only [if_pos hb]; exact evalO_lim h
      · rename_i hb; simp only [if_neg hb]; exact ⟨0, h⟩
theorem evalL_lim {ops : List Oper} {free : Nat → Bool} (l : List Oper) : ∀ {i : Nat} {F : Fr} {S : St} {r : Fr × St},
    evalL P T (Run P T) f ops free i l F S = some r → ∃ k, evalL P T (run P T k) f ops free i l F S = some r := by
  induction l with
  | nil => intro i F S r h; exact ⟨0, h⟩
  | cons o rest ih =>
    intro i F S r h
    simp only [evalL] at h
    obtain ⟨x, hx, hr⟩ := Option.bind_eq_some_iff.1 h
    obtain ⟨k1, h1⟩ := evalG_lim hx
    obtain ⟨k2, h2⟩ := ih hr
    refine ⟨max k1 k2, ?_⟩
    simp only [evalL]
    rw [evalG_mono (run_le (Nat.le_max_left k1 k2)) h1]
    exact evalL_mono (run_le (Nat.le_max_right k1 k2)) _ h2
theorem evalR_lim {id : Nat} {ops : Array Oper} {draw : Bool} {F : Fr} {S : St} {r : Fr × St} (h : evalR P T (Run P T) f id ops draw F S = some r) :
    ∃ k, evalR P T (run P T k) f id ops draw F S = some r := by
  unfold evalR at h ⊢
  dsimp only at h ⊢
  split at h
  · rename_i hd; simp only [if_pos hd]
    split at h
    · rename_i ho; simp only [if_pos ho]
      obtain ⟨x, hx, hr⟩ := Option.map_eq_some_iff.1 h
      obtain ⟨k, hk⟩ := evalL_lim _ hx
      exact ⟨k, by rw [hk]; simp [hr]⟩
    · cases h
  · rename_i hd; simp only [if_neg hd]
    obtain ⟨x, hx, hr⟩ := Option.map_eq_some_iff.1 h
    obtain ⟨k, hk⟩ := evalL_lim _ hx
    exact ⟨k, by rw [hk]; simp [hr]⟩
theorem D_region {id : Nat} {ops : Array Oper} {draw : Bool} {F : Fr} {S : St} :
    D P T f rs (.region id ops draw) F S = (evalR P T (Run P T) f id ops draw F S).map fun r => (.normal, r.1, r.2) := by
  apply Option.ext
  intro r
  rw [D_some]
  constructor
  · rintro ⟨k, h⟩
    simp only [evalD] at h
    obtain ⟨x, hx, hr⟩ := Option.map_eq_some_iff.1 h
    rw [evalR_mono (run_Run k) hx]; simp [hr]
  · intro h
    obtain ⟨x, hx, hr⟩ := Option.map_eq_some_iff.1 h
    obtain ⟨k, hk⟩ := evalR_lim hx
    exact ⟨k, by simp only [evalD]; rw [hk]; simp [hr]⟩
theorem D_seq {a b : Code} {F : Fr} {S : St} :
    D P T f rs (.seq a b) F S = match D P T f rs a F S with
      | some (.normal, F', S') => D P T f rs b F' S'
      | r => r := by
  apply Option.ext
  intro r
  rw [D_some]
  constructor
  · rintro ⟨k, h⟩
    simp only [evalD] at h
    cases hx : evalD P T (run P T k) k f rs a F S with
    | none => simp [hx] at h
    | some x =>
      obtain ⟨e, F', S'⟩ := x
      rw [hx] at h
      rw [D_some.2 ⟨k, hx⟩]
      cases e with
      | normal => exact D_some.2 ⟨k, h⟩
      | exit id => exact h
      | ret => exact h
  · intro h
    cases hx : D P T f rs a F S with
    | none => simp [hx] at h
    | some x =>
      obtain ⟨e, F', S'⟩ := x
      rw [hx] at h
      obtain ⟨k1, h1⟩ := D_some.1 hx
      cases e with
      | normal =>
        obtain ⟨k2, h2⟩ := D_some.1 h
        refine ⟨max k1 k2, ?_⟩
        simp only [evalD]
        rw [evalD_mono (run_le (Nat.le_max_left k1 k2)) (Nat.le_max_left k1 k2) a h1]
        exact evalD_mono (run_le (Nat.le_max_right k1 k2)) (Nat.le_max_right k1 k2) b h2
      | exit id => exact ⟨k1, by simp only [evalD]; rw [h1]; exact h⟩
      | ret => exact ⟨k1, by simp only [evalD]; rw [h1]; exact h⟩
theorem D_cond {c : Operand} {x y : Code} {F : Fr} {S : St} :
    D P T f rs (.cond c x y) F S = (condA T f F c).bind fun r => if r.1 then D P T f rs x r.2 S else D P T f rs y r.2 S := by
  apply Option.ext
  intro r
  rw [D_some]
  simp only [evalD]
  cases condA T f F c with
  | none => simp
  | some b =>
    simp only [Option.bind_some]
    cases b.1 <;> simp [D_some]
theorem D_block {id : Nat} {b : Code} {F : Fr} {S : St} :
    D P T f rs (.block id b) F S = match D P T f rs b F S with
      | some (.exit id', F', S') => if id' = id then some (.normal, F', S') else some (.exit id', F', S')
      | r => r := by
  apply Option.ext
  intro r
  rw [D_some]
  constructor
  · rintro ⟨k, h⟩
    simp only [evalD] at h
    cases hx : evalD P T (run P T k) k f rs b F S with
    | none => simp [hx] at h
    | some x => rw [hx] at h; rw [D_some.2 ⟨k, hx⟩]; exact h
  · intro h
    cases hx : D P T f rs b F S with
    | none => simp [hx] at h
    | some x =>
      rw [hx] at h
      obtain ⟨k, hk⟩ := D_some.1 hx
      exact ⟨k, by simp only [evalD]; rw [hk]; exact h⟩
theorem D_loop {b : Code} {F : Fr} {S : St} :
    D P T f rs (.loop b) F S = match D P T f rs b F S with
      | some (.normal, F', S') => D P T f rs (.loop b) F' S'
      | r => r := by
  apply Option.ext
  intro r
  rw [D_some]
  constructor
  · rintro ⟨k, h⟩
    simp only [evalD] at h
    cases k with
    | zero => cases h
    | succ k =>
      rw [iter] at h
      cases hx : evalD P T (run P T (k + 1)) (k + 1) f rs b F S with
      | none => simp [hx] at h
      | some x =>
        obtain ⟨e, F', S'⟩ := x
        rw [hx] at h
        rw [D_some.2 ⟨k + 1, hx⟩]
        cases e with
        | normal => exact D_some.2 ⟨k + 1, by simp only [evalD]; exact iter_mono (fun _ _ _ h => h) (Nat.le_succ k) h⟩
        | exit id => exact h
        | ret => exact h
  · intro h
    cases hx : D P T f rs b F S with
    | none => simp [hx] at h
    | some x =>
      obtain ⟨e, F', S'⟩ := x
      rw [hx] at h
      obtain ⟨k1, h1⟩ := D_some.1 hx
      cases e with
      | normal =>
        obtain ⟨k2, h2⟩ := D_some.1 h
        refine ⟨max k1 k2 + 1, ?_⟩
        simp only [evalD, iter]
        rw [evalD_mono (run_le (by omega)) (by omega) b h1]
        simp only [evalD] at h2
        exact iter_mono (fun F S r h => evalD_mono (run_le (by omega)) (by omega) b h) (by omega) h2
      | exit id => exact ⟨k1 + 1, by simp only [evalD, iter]; rw [evalD_mono (run_le (Nat.le_succ k1)) (Nat.le_succ k1) b h1]; exact h⟩
      | ret => exact ⟨k1 + 1, by simp only [evalD, iter]; rw [evalD_mono (run_le (Nat.le_succ k1)) (Nat.le_succ k1) b h1]; exact h⟩
theorem D_const {c : Code} {F : Fr} {S : St} {x : Res} (h : ∀ k, evalD P T (run P T k) k f rs c F S = x) : D P T f rs c F S = x := by
  apply Option.ext
  intro r
  rw [D_some]
  constructor
  · rintro ⟨k, hk⟩; rw [← h k]; exact hk
  · intro hx; exact ⟨0, by rw [h 0]; exact hx⟩
theorem Run_ext {args : List PV} {S : St} {h : List PV → St → Option (PV × St)} (hx : T.ext f = some h) : Run P T f args S = h args S := by
  apply Option.ext
  intro r
  rw [Run_some]
  constructor
  · rintro ⟨k, hk⟩
    cases k with
    | zero => cases hk
    | succ k => rw [run, hx] at hk; exact hk
  · intro hr
    refine ⟨1, ?_⟩
    rw [run, hx]; exact hr
theorem Run_eq {args : List PV} {S : St} {fn : Func} {c : Code} (hext : T.ext f = none) (hf : P.funcs[f]? = some fn) (hb : fn.body = some c) :
    Run P T f args S = (D P T f (resTmps fn.results.toList) c (initF fn args) S).bind fun r => finish P T.trim fn S r.1 r.2.1 r.2.2 := by
  apply Option.ext
  intro r
  rw [Run_some]
  constructor
  · rintro ⟨k, h⟩
    cases k with
    | zero => cases h
    | succ k =>
      rw [run, hext] at h
      simp only [hf, hb, Option.bind_some] at h
      obtain ⟨x, hx, h⟩ := Option.bind_eq_some_iff.1 h
      rw [D_some.2 ⟨k, hx⟩]; exact h
  · intro h
    obtain ⟨x, hx, h⟩ := Option.bind_eq_some_iff.1 h
    obtain ⟨k, hk⟩ := D_some.1 hx
    refine ⟨k + 1, ?_⟩
    rw [run, hext]
    simp only [hf, hb, Option.bind_some, hk]
    exact h
abbrev Kont := Ex → Fr → St → Option (PV × St)
noncomputable def loopK (P : Program) (T : Hints) (f : FuncId) (rs : List Tmp) (b : Code) (K : Kont) (F : Fr) (S : St) : Option (PV × St) :=
  (D P T f rs (.loop b) F S).bind fun r => K r.1 r.2.1 r.2.2
end
end Go.Abs
namespace Go.Abs
abbrev Rs := Option (PV × St)
abbrev KontS := Fr → St → Rs
inductive Ty where
  | int (k : IntKind)
  | bool
  | str
  | other
def tyOf (P : Program) (t : TypeId) : Ty := match P.underlying t with
  | some (.int k) => .int k
  | some .bool => .bool
  | some .string => .str
  | _ => .other
def strOf : PV → Option ByteArray
  | .str s => some s
  | _ => none
def intOf (k : IntKind) : PV → Option Int
  | .int j n => if j = k then some n else none
  | _ => none
def typO (ty : Ty) (x : Option PV) (K : PV → Rs) : Rs := match ty with
  | .int k => (x.bind (intOf k)).bind fun n => K (.int k n)
  | .bool => (x.bind asBool).bind fun b => K (.bool b)
  | .str => (x.bind strOf).bind fun s => K (.str s)
  | .other => x.bind K
theorem intOf_some {k : IntKind} {x : PV} {n : Int} (h : intOf k x = some n) : x = .int k n := by
  unfold intOf at h
  split at h
  · split at h
    · rename_i e; subst e; cases h; rfl
    · cases h
  · cases h
theorem asBool_eq {x : PV} {b : Bool} (h : asBool x = some b) : x = .bool b := by cases x <;> simp [asBool] at h; rw [h]
theorem strOf_eq {x : PV} {s : ByteArray} (h : strOf x = some s) : x = .str s := by cases x <;> simp [strOf] at h; rw [h]
theorem typO_le {ty : Ty} {x : Option PV} {K : PV → Rs} {r : PV × St} (h : typO ty x K = some r) : ∃ y, x = some y ∧ K y = some r := by
  unfold typO at h
  cases ty with
  | int k =>
    obtain ⟨n, hn, h⟩ := Option.bind_eq_some_iff.1 h
    obtain ⟨y, hy, hn⟩ := Option.bind_eq_some_iff.1 hn
    exact ⟨y, hy, by rw [intOf_some hn]; exact h⟩
  | bool =>
    obtain ⟨n, hn, h⟩ := Option.bind_eq_some_iff.1 h
    obtain ⟨y, hy, hn⟩ := Option.bind_eq_some_iff.1 hn
    exact ⟨y, hy, by rw [asBool_eq hn]; exact h⟩
  | str =>
    obtain ⟨n, hn, h⟩ := Option.bind_eq_some_iff.1 h
    obtain ⟨y, hy, hn⟩ := Option.bind_eq_some_iff.1 hn
    exact ⟨y, hy, by rw [strOf_eq hn]; exact h⟩
  | other => exact Option.bind_eq_some_iff.1 h
def isCmp : BinOp → Bool
  | .eql | .neq | .lss | .leq | .gtr | .geq => true
  | _ => false
def valK (o : Oper) (F : Fr) (S : St) (K : KontS) (x : SV) : Rs :=
  (chk (match o.dst with | some d => x.notTo d | none => true)).bind fun _ => K (F.put o.dst x) S
def stoRef (ts : Toks) (S : St) (agg : Bool) (n id off : Nat) (new : List Cell) : Option (Toks × St) := match S.objs[id]? with
  | some (.cells cs) => if off + n ≤ cs.length then
      if agg then some (ts, { S with objs := S.objs.set id (.cells (setCells cs off new)) })
      else match new with
        | [(y, k)] => match toHeap { env := [], toks := ts } S y k with
          | (F', S', k') => some (F'.toks, { S' with objs := S'.objs.set id (.cells (setCells cs off [(y, k')])) })
        | _ => none
    else none
  | _ => none
def newK (x : SV) (agg : Bool) (n : Nat) (K : List Cell → Rs) : Rs :=
  if agg then (chk (x.pv.okCells n)).bind fun _ => K ((x.pv.proj n).map fun c => (c, none)) else match x with
    | .v y k => (chk (y.one && n == 1)).bind fun _ => K [(y, k)]
    | _ => none
def stoP (ts : Toks) (S : St) (agg : Bool) (n : Nat) (p : PV) (new : List Cell) : Option (Toks × St) := match p with
  | .ref id off => stoRef ts S agg n id off new
  | _ => none
def stoK (F : Fr) (S : St) (agg : Bool) (n : Nat) (p x : SV) (K : KontS) : Rs :=
  newK x agg n fun new => match p with
  | .lp t off => match F.get t with
    | .box cs => if off + n ≤ cs.length then K (F.set t (.box (setCells cs off new))) S else none
    | _ => none
  | .v q _ => (stoP F.toks S agg n q new).bind fun r => K { F with toks := r.1 } r.2
  | _ => none
def upMap (P : Program) (S : St) (kt : TypeId) (m k v : PV) : Option St := match m with
  | .mp id => match S.objs[id]? with
    | some (.map es) => (chk (keyOk P kt k)).bind fun _ => (setKey P S kt k v es).map fun es' => { S with objs := S.objs.set id (.map es') }
    | _ => none
  | _ => none
def ldV (S : Option St) (agg : Bool) (n : Nat) (p : PV) : Option (PV × Option Tk) := match p with
  | .ip _ cs => (part (cs.map fun c => (c, none)) 0 n).bind fun cs => (aggV agg cs).bind fun | .v x k => some (x, k) | _ => none
  | .ref id off => S.bind fun S => match S.objs[id]? with
    | some (.cells cs) => (part cs off n).bind fun cs => (aggV agg cs).bind fun | .v x k => some (x, k) | _ => none
    | _ => none
  | _ => none
def ldP (S : Option St) (agg : Bool) (n : Nat) (p : PV) : Option PV := (ldV S agg n p).map (·.1)
def ldK (ty : Ty) (sl : Bool) (S : Option St) (F : Fr) (agg : Bool) (n : Nat) (d : Option Tmp) (S' : St) (K : KontS) : SV → Rs
  | .v p _ => if sl then (ldV S agg n p).bind fun r => K (F.put d (.v r.1 r.2)) S' else typO ty (ldP S agg n p) fun x => K (F.put d (.v x none)) S'
  | .lp t off => match F.get t with
    | .box cs => (part cs off n).bind fun cs => (aggV agg cs).bind fun x => K (F.put d (x.keep sl)) S'
    | _ => none
  | .box _ => none
def nilV : PV → Option PV
  | .ip a cs => some (.ip a cs)
  | .ref id o => some (.ref id o)
  | .fn f cs => some (.fn f cs)
  | _ => none
def fadrV (off : Nat) : PV → Option PV
  | .ip a cs => some (.ip (a.map (·.add off)) (cs.drop off))
  | .ref id o => some (.ref id (o + off))
  | _ => none
def fieldV (off n : Nat) (agg : Bool) (x : PV) : Option PV := match x with
  | .agg cs => (part (cs.map fun c => (c, none)) off n).bind fun cs => (aggV agg cs).map (·.pv)
  | _ => none
def nilcK (o : Oper) (F : Fr) (S : St) (K : KontS) : SV → Rs
  | .v p _ => (nilV p).bind fun x => K (F.put o.dst (.v x none)) S
  | .lp t off => (chk (isBox F t)).bind fun _ => valK o F S K (.lp t off)
  | .box _ => none
def fadrK (o : Oper) (F : Fr) (S : St) (K : KontS) (off : Nat) : SV → Rs
  | .v p _ => (fadrV off p).bind fun x => K (F.put o.dst (.v x none)) S
  | .lp t off' => (chk (isBox F t)).bind fun _ => valK o F S K (.lp t (off' + off))
  | .box _ => none
def callV (call : CallF) (g : PV) (args : List PV) (S : St) : Rs := match g with
  | .fn g caps => call g (args ++ caps) S
  | _ => none
def fillK (place : Nat → Option (Nat × Nat)) : List PV → List (Nat × PV) → (List PV → Rs) → Rs
  | cs, [], K => K cs
  | cs, (i, v) :: rest, K => (place i).bind fun p => (chk (v.okCells p.2)).bind fun _ =>
      if p.1 + p.2 ≤ cs.length then fillK place (cs.take p.1 ++ v.proj p.2 ++ cs.drop (p.1 + p.2)) rest K else none
def buildK (P : Program) (t : TypeId) (parts : List (Nat × PV)) (K : PV → Rs) : Rs :=
  (zeroOf P t).bind fun z => match P.underlying t with
  | some (.struct fs) => (placesOf P fs.toList).bind fun ps => fillK (fun i => ps[i]?) z parts fun cs => K (.agg cs)
  | _ => none
def buildSlK (P : Program) (t : TypeId) (len : Nat) (parts : List (Nat × PV)) (K : PV → Rs) : Rs :=
  match P.underlying t with
  | some (.slice e) => (szOf P e).bind fun sz => (zeroOf P e).bind fun z =>
      if len = 0 then (if sz = 0 ∨ parts.isEmpty = false then none else K (.sl none sz [])) else
      if sz = 0 ∨ len = 0 ∨ 16777216 < len * sz ∨ (sz ≠ 1 ∧ aggOf P e = false) then none else
      fillK (fun i => some (i * sz, sz)) (List.replicate len z).flatten parts fun cs => K (.sl none sz (elems (aggOf P e) sz len cs))
  | _ => none
def St.new (S : St) (cs : List Cell) : St := { S with objs := S.objs ++ [.cells cs] }
def St.newArr (S : St) (n : Nat) (z : PV) : St := { S with objs := S.objs ++ [.cells ((List.replicate n z.cells).flatten.map fun c => (c, none))] }
def St.newBld (S : St) (T e : TypeId) : St := { S with objs := S.objs ++ [.bld T e []] }
def St.newMap (S : St) : St := { S with objs := S.objs ++ [.map []] }
def cpsO (P : Program) (T : Hints) (call : CallF) (f : FuncId) (free : Bool) (o : Oper) (K : KontS) (F : Fr) (S : St) : Rs :=
  let pv (x : Option PV) : Rs := typO (tyOf P o.type) x fun x => K (F.put o.dst (.v x none)) S
  let S? : Option St := if free then none else some S
  match o.op with
  | .move x | .assign x => valK o F S K (opd F x)
  | .pick c a b => (asBool (opv F c)).bind fun c => if c then valK o F S K (opd F a) else valK o F S K (opd F b)
  | .alloc t => (zeroOf P t).bind fun z => match o.dst with
    | some d => if T.esc f d then K (F.set d (.v (.ref S.objs.length 0) none)) { S with objs := S.objs ++ [newOb T.bld t z] }
      else (chk (F.env.all (SV.notTo d))).bind fun _ => K (F.set d (.box (z.map fun c => (c, none)))) S
    | none => none
  | .box t x => (szOf P t).bind fun n => newK (opd F x) (aggOf P t) n fun cs => match o.dst with
    | some d => if T.esc f d then K (F.set d (.v (.ref S.objs.length 0) none)) { S with objs := S.objs ++ [.cells (cs.map fun c => (c.1, none))] }
      else (chk (F.env.all (SV.notTo d))).bind fun _ => K (F.set d (.box cs)) S
    | none => none
  | .load t p => (szOf P t).bind fun n => ldK (tyOf P t) (isSlice P t) S? F (aggOf P t) n o.dst S K (opd F p)
  | .store t p x => (szOf P t).bind fun n => stoK F S (aggOf P t) n (opd F p) (opd F x) fun F' S' => K (F'.put o.dst (.v .undef none)) S'
  | .nilCheck x => nilcK o F S K (opd F x)
  | .binOp op t x y _ => typO (if isCmp op then .bool else tyOf P t) (binA P op t (opv F x) (opv F y)) fun x => K (F.put o.dst (.v x none)) S
  | .unOp op t x => typO (tyOf P t) (unA op (opv F x)) fun x => K (F.put o.dst (.v x none)) S
  | .convert a b x => typO (tyOf P b) (convA P a b (opv F x)) fun x => K (F.put o.dst (.v x none)) S
  | .makeFunc (.func g) first caps => if first.isEmpty then K (F.put o.dst (.v (.fn g (caps.toList.map (opv F))) none)) S else none
  | .makeMap _ none => K (F.put o.dst (.v (.mp S.objs.length) none)) { S with objs := S.objs ++ [.map []] }
  | .makeSlice t l c => (asInt (opv F l)).bind fun l => (asInt (opv F c)).bind fun c => match P.underlying t with
    | some (.slice e) => (P.info? e).bind fun i => (zeroPV P e).bind fun z =>
      (chk (decide (l = c) && decide (0 ≤ l) && decide (0 < i.size) && decide (l.toNat * i.bytes ≤ room) && decide (l.toNat ≤ room))).bind fun _ =>
        match o.dst with
        | some d => if T.esc f d then
            K (F.set d (.v (.ar S.objs.length i.size 0 l.toNat) none)) { S with objs := S.objs ++ [.cells ((List.replicate l.toNat z.cells).flatten.map fun c => (c, none))] }
          else K (F.set d (.v (.sl none i.size (List.replicate l.toNat z)) (some .full))) S
        | none => none
    | _ => none
  | .slice t x lo hi mx => (optInt F lo).bind fun lo => (optInt F hi).bind fun hi => (optInt F mx).bind fun mx =>
      if isStr P t then (if mx = none then typO .str (strSlc (opv F x) lo hi) fun x => K (F.put o.dst (.v x none)) S else none)
      else (elemOf P t).bind fun e => (slc e.1 (opv F x) lo hi mx).bind fun r => K (F.put o.dst (.v r.1 r.2)) S
  | .fieldAddr t x i => (fieldOf P t i).bind fun r => if r.2.1 = 0 then none else fadrK o F S K r.1 (opd F x)
  | .field t x i => (fieldOf P t i).bind fun r => pv (fieldV r.1 r.2.1 r.2.2 (opv F x))
  | .indexAddr t x i => (asInt (opv F i)).bind fun i => (elemOf P t).bind fun e => (iadr e.1 (opv F x) i).bind fun x => K (F.put o.dst (.v x none)) S
  | .index t x i => if isStr P t then (asInt (opv F i)).bind fun i => pv (idx (opv F x) i) else none
  | .lookup t m k ok => (mapOf P t).bind fun ke => S?.bind fun S' => (chk (keyOk P ke.1 (opv F k))).bind fun _ => (mapEs S' (opv F m)).bind fun es => (findKey P S' ke.1 (opv F k) es).bind fun r =>
      (zeroPV P ke.2).bind fun z => pv (some (if ok then .tup [r.getD z, .bool r.isSome] else r.getD z))
  | .mapUpdate t m k v => (mapOf P t).bind fun ke => (upMap P S ke.1 (opv F m) (opv F k) (opv F v)).bind fun S' => K (F.put o.dst (.v .undef none)) S'
  | .build t ps => buildK P t (ps.toList.map fun p => (p.1, opv F p.2)) fun x => K (F.put o.dst (.v x none)) S
  | .buildSlice t n ps => buildSlK P t n (ps.toList.map fun p => (p.1, opv F p.2)) fun x => K (F.put o.dst (.v x (some .full))) S
  | .extract x i => (chk (decide (i < (opv F x).comps.length))).bind fun _ => pv (some ((opv F x).comps.getD i .undef))
  | .call c => match c.callee with
    | .value g => (callV call (opv F g) (c.args.toList.map (opv F)) S).bind fun r => typO (tyOf P o.type) (some r.1) fun x => K (F.put o.dst (.v x none)) r.2
    | .builtin .len => match c.args.toList, c.argTypes.toList with
      | [x], [t] => match mapOf P t with
        | some _ => S?.bind fun S' => (mapEs S' (opv F x)).bind fun es => K (F.put o.dst (.v (.int .i64 es.length) none)) S
        | none => if isStr P t then (lenStr (opv F x)).bind fun n => K (F.put o.dst (.v (.int .i64 n) none)) S else if isSlice P t then (lenSl (opv F x)).bind fun n => K (F.put o.dst (.v (.int .i64 n) none)) S else none
      | _, _ => none
    | .builtin .max => pv (foldInt maxI (c.args.toList.map (opv F)))
    | .builtin .min => pv (foldInt minI (c.args.toList.map (opv F)))
    | .builtin .append => match c.args.toList, c.argTypes.toList with
      | [x, y], [t, t'] => (appArg P t t' (opv F y)).bind fun y => (appendT P t F.toks S.htoks (opd F x) y).bind fun r => K (({ F with toks := r.2.2.1 } : Fr).put o.dst (.v (adoptV (T.ad f) S.objs (opd F x) r.1).1 r.2.1)) { objs := (adoptV (T.ad f) S.objs (opd F x) r.1).2, htoks := r.2.2.2 }
      | _, _ => none
    | _ => none
  | _ => none
section
variable {P : Program} {T : Hints} {call : CallF} {f : FuncId}
theorem valK_le {o : Oper} {F : Fr} {S : St} {K : KontS} {x : SV} {r : PV × St} (h : valK o F S K x = some r) :
    ∃ y, ((some x).bind fun x => (chk (match o.dst with | some d => x.notTo d | none => true)).map fun _ => (F.put o.dst x, S)) = some y ∧ K y.1 y.2 = some r := by
  unfold valK at h
  obtain ⟨u, hu, h⟩ := Option.bind_eq_some_iff.1 h
  exact ⟨(F.put o.dst x, S), by rw [Option.bind_some, hu]; rfl, h⟩
theorem val_v {o : Oper} {F : Fr} {S : St} (y : PV) (k : Option Tk) :
    ((some (SV.v y k)).bind fun x => (chk (match o.dst with | some d => x.notTo d | none => true)).map fun _ => (F.put o.dst x, S)) = some (F.put o.dst (.v y k), S) := by
  cases o.dst <;> rfl
theorem newK_le {x : SV} {agg : Bool} {n : Nat} {K : List Cell → Rs} {r : PV × St} (h : newK x agg n K = some r) : ∃ cs, newCells x agg n = some cs ∧ K cs = some r := by
  unfold newK at h
  unfold newCells
  cases agg with
  | true =>
    simp only [if_true] at h ⊢
    obtain ⟨u, hu, h⟩ := Option.bind_eq_some_iff.1 h
    exact ⟨_, by rw [asCells, hu]; rfl, h⟩
  | false =>
    simp only [Bool.false_eq_true, if_false] at h ⊢
    cases x with
    | v y k =>
      simp only at h ⊢
      obtain ⟨u, hu, h⟩ := Option.bind_eq_some_iff.1 h
      exact ⟨_, by rw [hu]; rfl, h⟩
    | box cs => cases h
    | lp t o => cases h
theorem toHeap_eq {F : Fr} {S : St} {y : PV} {k : Option Tk} : toHeap F S y k = ({ F with toks := (toHeap { env := [], toks := F.toks } S y k).1.toks }, (toHeap { env := [], toks := F.toks } S y k).2) := by
  unfold toHeap
  cases k with
  | none => rfl
  | some k => cases k with
    | loc t =>
      simp only
      cases F.toks[t]? with
      | none => rfl
      | some q => cases q <;> rfl
    | _ => rfl
theorem stoK_le {F : Fr} {S : St} {agg : Bool} {n : Nat} {p x : SV} {K : KontS} {r : PV × St} (h : stoK F S agg n p x K = some r) : ∃ y, sto F S agg n p x = some y ∧ K y.1 y.2 = some r := by
  unfold stoK at h
  obtain ⟨new, hn, h⟩ := newK_le h
  unfold sto
  rw [hn, Option.bind_some]
  cases p with
  | box cs => cases h
  | lp t off =>
    simp only at h ⊢
    cases hg : F.get t with
    | box cs =>
      rw [hg] at h
      simp only at h ⊢
      split at h
      · rename_i hl; rw [if_pos hl]; exact ⟨_, rfl, h⟩
      · cases h
    | v y k => rw [hg] at h; cases h
    | lp y k => rw [hg] at h; cases h
  | v y k =>
    simp only at h
    obtain ⟨q, hq, h⟩ := Option.bind_eq_some_iff.1 h
    cases y with
    | ref id off =>
      simp only [stoP] at hq ⊢
      unfold stoRef at hq
      cases ho : S.objs[id]? with
      | none => rw [ho] at hq; cases hq
      | some ob => cases ob with
        | cells cs =>
          rw [ho] at hq
          simp only at hq ⊢
          split at hq
          · rename_i hl
            rw [if_pos hl]
            split at hq
            · rename_i ha; rw [if_pos ha]; cases hq; exact ⟨_, rfl, h⟩
            · rename_i ha
              rw [if_neg ha]
              match new, hq with
              | [(y, k)], hq =>
                simp only at hq ⊢
                rw [toHeap_eq]
                cases hq
                exact ⟨_, rfl, h⟩
          · cases hq
        | map es => rw [ho] at hq; cases hq
        | dead => rw [ho] at hq; cases hq
        | blk => rw [ho] at hq; cases hq
        | bld _ _ _ => rw [ho] at hq; cases hq
    | _ => cases hq
def valE (o : Oper) (F : Fr) (S : St) (x : Option SV) : Option (Fr × St) := x.bind fun x => (chk (match o.dst with | some d => x.notTo d | none => true)).map fun _ => (F.put o.dst x, S)
theorem valE_v {o : Oper} {F : Fr} {S : St} {x : Option SV} {y : PV} {k : Option Tk} (h : x = some (.v y k)) : valE o F S x = some (F.put o.dst (.v y k), S) := by rw [h]; exact val_v y k
theorem ldV_ld {So : Option St} {F : Fr} {agg : Bool} {n : Nat} {p : PV} {k0 : Option Tk} {q : PV × Option Tk} (h : ldV So agg n p = some q) : ld So F agg n (.v p k0) = some (.v q.1 q.2) := by
  have form : ∀ {cs : List Cell}, ((aggV agg cs).bind fun | .v x k => some (x, k) | _ => none) = some q → aggV agg cs = some (.v q.1 q.2) := by
    intro cs h
    obtain ⟨u, hu, h⟩ := Option.bind_eq_some_iff.1 h
    obtain ⟨y, k, rfl⟩ := aggV_form hu
    cases h; exact hu
  cases p with
  | ip a cs =>
    simp only [ldV] at h
    simp only [ld]
    obtain ⟨c, hc, h⟩ := Option.bind_eq_some_iff.1 h
    rw [hc, Option.bind_some]; exact form h
  | ref id off =>
    simp only [ldV] at h
    simp only [ld]
    obtain ⟨S, hS, h⟩ := Option.bind_eq_some_iff.1 h
    rw [hS, Option.bind_some]
    cases ho : S.objs[id]? with
    | none => rw [ho] at h; cases h
    | some ob => cases ob with
      | cells cs =>
        rw [ho] at h
        simp only at h ⊢
        obtain ⟨c, hc, h⟩ := Option.bind_eq_some_iff.1 h
        rw [hc, Option.bind_some]; exact form h
      | map es => rw [ho] at h; cases h
      | dead => rw [ho] at h; cases h
      | blk => rw [ho] at h; cases h
      | bld _ _ _ => rw [ho] at h; cases h
  | _ => cases h
theorem ldK_le {ty : Ty} {sl : Bool} {So : Option St} {o : Oper} {F : Fr} {S : St} {agg : Bool} {n : Nat} {p : SV} {K : KontS} {r : PV × St} (h : ldK ty sl So F agg n o.dst S K p = some r) :
    ∃ y, valE o F S ((ld So F agg n p).map (SV.keep sl)) = some y ∧ K y.1 y.2 = some r := by
  cases p with
  | box cs => cases h
  | lp t off =>
    simp only [ldK] at h
    simp only [ld]
    cases hg : F.get t with
    | box cs =>
      rw [hg] at h
      simp only at h ⊢
      obtain ⟨c, hc, h⟩ := Option.bind_eq_some_iff.1 h
      obtain ⟨x, hx, h⟩ := Option.bind_eq_some_iff.1 h
      obtain ⟨y, k, rfl⟩ := aggV_form hx
      exact ⟨_, valE_v (by rw [hc, Option.bind_some, hx]; rfl), h⟩
    | v y k => rw [hg] at h; cases h
    | lp y k => rw [hg] at h; cases h
  | v p k =>
    simp only [ldK] at h
    split at h
    · rename_i hs
      subst hs
      obtain ⟨q, hq, h⟩ := Option.bind_eq_some_iff.1 h
      exact ⟨_, valE_v (by rw [ldV_ld hq]; rfl), h⟩
    · rename_i hs
      have hs : sl = false := by simpa using hs
      subst hs
      obtain ⟨y, hy, h⟩ := typO_le h
      unfold ldP at hy
      obtain ⟨q, hq, rfl⟩ := Option.map_eq_some_iff.1 hy
      exact ⟨_, valE_v (by rw [ldV_ld hq]; rfl), h⟩
theorem nilcK_le {o : Oper} {F : Fr} {S : St} {p : SV} {K : KontS} {r : PV × St} (h : nilcK o F S K p = some r) : ∃ y, valE o F S (nilc F p) = some y ∧ K y.1 y.2 = some r := by
  cases p with
  | box cs => cases h
  | lp t off =>
    simp only [nilcK] at h
    obtain ⟨u, hu, h⟩ := Option.bind_eq_some_iff.1 h
    obtain ⟨y, hy, h⟩ := valK_le h
    exact ⟨y, by simp only [nilc]; rw [hu]; exact hy, h⟩
  | v p k =>
    simp only [nilcK] at h
    obtain ⟨x, hx, h⟩ := Option.bind_eq_some_iff.1 h
    exact ⟨_, valE_v (by cases p <;> simp [nilV] at hx <;> subst hx <;> rfl), h⟩
theorem fadrK_le {o : Oper} {F : Fr} {S : St} {n : Nat} {p : SV} {K : KontS} {r : PV × St} (h : fadrK o F S K n p = some r) : ∃ y, valE o F S (fadr F n p) = some y ∧ K y.1 y.2 = some r := by
  cases p with
  | box cs => cases h
  | lp t off =>
    simp only [fadrK] at h
    obtain ⟨u, hu, h⟩ := Option.bind_eq_some_iff.1 h
    obtain ⟨y, hy, h⟩ := valK_le h
    exact ⟨y, by simp only [fadr]; rw [hu]; exact hy, h⟩
  | v p k =>
    simp only [fadrK] at h
    obtain ⟨x, hx, h⟩ := Option.bind_eq_some_iff.1 h
    exact ⟨_, valE_v (by cases p <;> simp [fadrV] at hx <;> subst hx <;> rfl), h⟩
theorem field_le {o : Oper} {F : Fr} {S : St} {off n : Nat} {agg : Bool} {x : PV} {y : PV} (h : fieldV off n agg x = some y) : valE o F S (fieldA off n agg x) = some (F.put o.dst (.v y none), S) := by
  refine valE_v ?_
  cases x with
  | agg cs =>
    simp only [fieldV] at h
    simp only [fieldA]
    obtain ⟨cs', hp, h⟩ := Option.bind_eq_some_iff.1 h
    rw [hp, Option.bind_some]
    have hn : ∀ c ∈ cs', c.2 = none := by
      intro c hc
      unfold part at hp
      split at hp
      · cases hp
        have := List.mem_of_mem_drop (List.mem_of_mem_take hc)
        obtain ⟨d, _, rfl⟩ := List.mem_map.1 this
        rfl
      · cases hp
    obtain ⟨z, hz, h⟩ := Option.map_eq_some_iff.1 h
    rw [hz]
    unfold aggV at hz
    split at hz
    · cases hz; cases h; rfl
    · split at hz
      · rename_i c
        cases hz
        cases h
        rw [hn c (List.mem_singleton.2 rfl)]; rfl
      · cases hz
  | _ => cases h
theorem pv_le {ty : Ty} {d : Option Tmp} {F : Fr} {S : St} {K : KontS} {x : Option PV} {r : PV × St} (h : (typO ty x fun x => K (F.put d (.v x none)) S) = some r) :
    ∃ y, (x.map fun x => (F.put d (.v x none), S)) = some y ∧ K y.1 y.2 = some r := by
  obtain ⟨y, hy, h⟩ := typO_le h
  exact ⟨_, by rw [hy]; rfl, h⟩
theorem fillK_le {place : Nat → Option (Nat × Nat)} : ∀ {parts : List (Nat × PV)} {cs : List PV} {K : List PV → Rs} {r : PV × St}, fillK place cs parts K = some r → ∃ y, fillA place cs parts = some y ∧ K y = some r
  | [], cs, K, r, h => ⟨_, rfl, h⟩
  | (i, v) :: rest, cs, K, r, h => by
    simp only [fillK] at h
    obtain ⟨p, hp, h⟩ := Option.bind_eq_some_iff.1 h
    obtain ⟨u, hu, h⟩ := Option.bind_eq_some_iff.1 h
    split at h
    · rename_i hl
      obtain ⟨y, hy, h⟩ := fillK_le h
      refine ⟨y, ?_, h⟩
      simp only [fillA, hp, Option.bind_some, asCells]
      rw [hu, Option.map_some, Option.bind_some, if_pos hl]
      exact hy
    · cases h
theorem buildK_le {t : TypeId} {parts : List (Nat × PV)} {K : PV → Rs} {r : PV × St} (h : buildK P t parts K = some r) : ∃ y, buildA P t parts = some y ∧ K y = some r := by
  unfold buildK at h
  unfold buildA
  obtain ⟨z, hz, h⟩ := Option.bind_eq_some_iff.1 h
  rw [hz, Option.bind_some]
  cases hu : P.underlying t with
  | none => rw [hu] at h; cases h
  | some u =>
    rw [hu] at h
    cases u with
    | struct fs =>
      simp only at h ⊢
      obtain ⟨ps, hps, h⟩ := Option.bind_eq_some_iff.1 h
      obtain ⟨y, hy, h⟩ := fillK_le h
      exact ⟨_, by rw [hps, Option.bind_some, hy]; rfl, h⟩
    | _ => cases h
theorem buildSlK_le {t : TypeId} {n : Nat} {parts : List (Nat × PV)} {K : PV → Rs} {r : PV × St} (h : buildSlK P t n parts K = some r) : ∃ y, buildSl P t n parts = some y ∧ K y = some r := by
  unfold buildSlK at h
  unfold buildSl
  cases hu : P.underlying t with
  | none => rw [hu] at h; cases h
  | some u =>
    rw [hu] at h
    cases u with
    | slice e =>
      simp only at h ⊢
      obtain ⟨sz, hsz, h⟩ := Option.bind_eq_some_iff.1 h
      obtain ⟨z, hz, h⟩ := Option.bind_eq_some_iff.1 h
      rw [hsz, Option.bind_some, hz, Option.bind_some]
      split at h
      · rename_i h0
        rw [if_pos h0]
        split at h
        · cases h
        · rename_i hc
          rw [if_neg hc]
          exact ⟨_, rfl, h⟩
      · rename_i h0
        rw [if_neg h0]
        split at h
        · cases h
        · rename_i hc
          rw [if_neg hc]
          obtain ⟨y, hy, h⟩ := fillK_le h
          exact ⟨_, by rw [hy]; rfl, h⟩
    | _ => cases h
theorem cpsO_le (free : Bool) (o : Oper) {K : KontS} {F : Fr} {S : St} {r : PV × St} (h : cpsO P T call f free o K F S = some r) : ∃ y, evalO P T call f free o F S = some y ∧ K y.1 y.2 = some r := by
  obtain ⟨dst, op, type, pos, after, guard⟩ := o
  cases op with
  | move x => exact valK_le h
  | assign x => exact valK_le h
  | pick c x y =>
    simp only [cpsO] at h
    obtain ⟨b, hb, h⟩ := Option.bind_eq_some_iff.1 h
    simp only [evalO, hb, Option.bind_some]
    cases b
    · exact valK_le h
    · exact valK_le h
  | alloc t =>
    simp only [cpsO] at h
    obtain ⟨z, hz, h⟩ := Option.bind_eq_some_iff.1 h
    simp only [evalO, hz, Option.bind_some]
    cases dst with
    | none => cases h
    | some d =>
      simp only at h ⊢
      cases he : T.esc f d with
      | true => simp only [he, if_true] at h ⊢; exact ⟨_, rfl, h⟩
      | false =>
        simp only [he, Bool.false_eq_true, if_false] at h ⊢
        obtain ⟨u, hu, h⟩ := Option.bind_eq_some_iff.1 h
        exact ⟨_, by rw [hu]; rfl, h⟩
  | box t x =>
    simp only [cpsO] at h
    obtain ⟨n, hn, h⟩ := Option.bind_eq_some_iff.1 h
    obtain ⟨cs, hcs, h⟩ := newK_le h
    simp only [evalO, hn, hcs, Option.bind_some]
    cases dst with
    | none => cases h
    | some d =>
      simp only at h ⊢
      cases he : T.esc f d with
      | true => simp only [he, if_true] at h ⊢; exact ⟨_, rfl, h⟩
      | false =>
        simp only [he, Bool.false_eq_true, if_false] at h ⊢
        obtain ⟨u, hu, h⟩ := Option.bind_eq_some_iff.1 h
        exact ⟨_, by rw [hu]; rfl, h⟩
  | load t p =>
    simp only [cpsO] at h
    obtain ⟨n, hn, h⟩ := Option.bind_eq_some_iff.1 h
    simp only [evalO, hn, Option.bind_some]
    exact ldK_le (o := { dst := dst, op := .load t p, type := type, pos := pos, after := after, guard := guard }) h
  | store t p x =>
    simp only [cpsO] at h
    obtain ⟨n, hn, h⟩ := Option.bind_eq_some_iff.1 h
    simp only [evalO, hn, Option.bind_some]
    obtain ⟨y, hy, h⟩ := stoK_le h
    exact ⟨_, by rw [hy]; rfl, h⟩
  | nilCheck x => exact nilcK_le h
  | binOp b t x y t' => exact pv_le h
  | unOp b t x => exact pv_le h
  | convert a b x => exact pv_le h
  | makeFunc g first caps =>
    cases g with
    | func g =>
      simp only [cpsO] at h
      simp only [evalO]
      split at h
      · rename_i hf; rw [if_pos hf]; exact ⟨_, rfl, h⟩
      · cases h
    | _ => simp [cpsO] at h
  | makeMap t q => cases q with
    | none => exact ⟨_, rfl, h⟩
    | some q => simp [cpsO] at h
  | makeSlice t l c =>
    simp only [cpsO] at h
    obtain ⟨l', hl, h⟩ := Option.bind_eq_some_iff.1 h
    obtain ⟨c', hc, h⟩ := Option.bind_eq_some_iff.1 h
    simp only [evalO, hl, hc, Option.bind_some]
    cases hu : P.underlying t with
    | none => rw [hu] at h; cases h
    | some u =>
      rw [hu] at h
      cases u with
      | slice e =>
        simp only at h ⊢
        obtain ⟨i, hi, h⟩ := Option.bind_eq_some_iff.1 h
        obtain ⟨z, hz, h⟩ := Option.bind_eq_some_iff.1 h
        obtain ⟨q, hq, h⟩ := Option.bind_eq_some_iff.1 h
        simp only [hi, hz, Option.bind_some]
        rw [hq, Option.bind_some]
        cases dst with
        | none => cases h
        | some d =>
          simp only at h ⊢
          split at h
          · rename_i he; rw [if_pos he]; exact ⟨_, rfl, h⟩
          · rename_i he; rw [if_neg he]; exact ⟨_, rfl, h⟩
      | _ => cases h
  | slice t x lo hi mx =>
    simp only [cpsO] at h
    obtain ⟨l, hl, h⟩ := Option.bind_eq_some_iff.1 h
    obtain ⟨u, hu, h⟩ := Option.bind_eq_some_iff.1 h
    obtain ⟨m, hm, h⟩ := Option.bind_eq_some_iff.1 h
    simp only [evalO, hl, hu, hm, Option.bind_some]
    split at h
    · rename_i hs
      rw [if_pos hs]
      split at h
      · rename_i hx
        rw [if_pos hx]
        exact pv_le h
      · cases h
    · rename_i hs
      rw [if_neg hs]
      obtain ⟨e, he, h⟩ := Option.bind_eq_some_iff.1 h
      obtain ⟨y, hy, h⟩ := Option.bind_eq_some_iff.1 h
      rw [he, Option.bind_some]
      exact ⟨_, valE_v (o := { dst := dst, op := .slice t x lo hi mx, type := type, pos := pos, after := after, guard := guard }) (by rw [hy]; rfl), h⟩
  | fieldAddr t x i =>
    simp only [cpsO] at h
    obtain ⟨q, hq, h⟩ := Option.bind_eq_some_iff.1 h
    simp only [evalO, hq, Option.bind_some]
    split at h
    · cases h
    · rename_i hz; rw [if_neg hz]; exact fadrK_le h
  | field t x i =>
    simp only [cpsO] at h
    obtain ⟨q, hq, h⟩ := Option.bind_eq_some_iff.1 h
    simp only [evalO, hq, Option.bind_some]
    obtain ⟨y, hy, h⟩ := typO_le h
    exact ⟨_, field_le (o := { dst := dst, op := .field t x i, type := type, pos := pos, after := after, guard := guard }) hy, h⟩
  | indexAddr t x i =>
    simp only [cpsO] at h
    obtain ⟨q, hq, h⟩ := Option.bind_eq_some_iff.1 h
    obtain ⟨e, he, h⟩ := Option.bind_eq_some_iff.1 h
    obtain ⟨y, hy, h⟩ := Option.bind_eq_some_iff.1 h
    simp only [evalO, hq, he, hy, Option.bind_some]
    exact ⟨_, rfl, h⟩
  | index t x i =>
    simp only [cpsO] at h
    simp only [evalO]
    split at h
    · rename_i hs
      rw [if_pos hs]
      obtain ⟨q, hq, h⟩ := Option.bind_eq_some_iff.1 h
      rw [hq, Option.bind_some]
      exact pv_le h
    · cases h
  | lookup t m k ok =>
    simp only [cpsO] at h
    obtain ⟨ke, hke, h⟩ := Option.bind_eq_some_iff.1 h
    obtain ⟨S', hS', h⟩ := Option.bind_eq_some_iff.1 h
    obtain ⟨u, hu, h⟩ := Option.bind_eq_some_iff.1 h
    obtain ⟨es, hes, h⟩ := Option.bind_eq_some_iff.1 h
    obtain ⟨q, hq, h⟩ := Option.bind_eq_some_iff.1 h
    obtain ⟨z, hz, h⟩ := Option.bind_eq_some_iff.1 h
    simp only [evalO, hke, hS', hu, hes, hq, hz, Option.bind_some]
    exact pv_le h
  | mapUpdate t m k v =>
    simp only [cpsO] at h
    obtain ⟨ke, hke, h⟩ := Option.bind_eq_some_iff.1 h
    obtain ⟨S', hS', h⟩ := Option.bind_eq_some_iff.1 h
    simp only [evalO, hke, Option.bind_some]
    unfold upMap at hS'
    cases hm : opv F m with
    | mp id =>
      rw [hm] at hS'
      simp only at hS' ⊢
      cases ho : S.objs[id]? with
      | none => rw [ho] at hS'; cases hS'
      | some ob => cases ob with
        | map es =>
          rw [ho] at hS'
          simp only at hS' ⊢
          obtain ⟨u, hu, hS'⟩ := Option.bind_eq_some_iff.1 hS'
          obtain ⟨es', he, hS'⟩ := Option.map_eq_some_iff.1 hS'
          rw [hu, Option.bind_some, he]
          cases hS'
          exact ⟨_, rfl, h⟩
        | cells cs => rw [ho] at hS'; cases hS'
        | dead => rw [ho] at hS'; cases hS'
        | blk => rw [ho] at hS'; cases hS'
        | bld _ _ _ => rw [ho] at hS'; cases hS'
    | _ => rw [hm] at hS'; cases hS'
  | build t ps =>
    simp only [cpsO] at h
    obtain ⟨y, hy, h⟩ := buildK_le h
    exact ⟨_, by simp only [evalO]; rw [hy]; rfl, h⟩
  | buildSlice t n ps =>
    simp only [cpsO] at h
    obtain ⟨y, hy, h⟩ := buildSlK_le h
    exact ⟨_, valE_v (o := { dst := dst, op := .buildSlice t n ps, type := type, pos := pos, after := after, guard := guard }) (by rw [hy]; rfl), h⟩
  | extract x i =>
    simp only [cpsO] at h
    obtain ⟨y, hy, h⟩ := Option.bind_eq_some_iff.1 h
    simp only [evalO, hy, Option.bind_some]
    exact pv_le h
  | call c =>
    obtain ⟨callee, as, ts⟩ := c
    cases callee with
    | value g =>
      simp only [cpsO] at h
      obtain ⟨q, hq, h⟩ := Option.bind_eq_some_iff.1 h
      obtain ⟨y, hy, h⟩ := typO_le h
      simp only [evalO]
      unfold callV at hq
      cases hg : opv F g with
      | fn g' caps =>
        rw [hg] at hq
        simp only at hq ⊢
        rw [hq]
        cases hy
        exact ⟨_, rfl, h⟩
      | _ => rw [hg] at hq; cases hq
    | invoke q m => simp [cpsO] at h
    | builtin b =>
      cases b with
      | max => exact pv_le h
      | min => exact pv_le h
      | append =>
        obtain ⟨l1⟩ := as
        obtain ⟨l2⟩ := ts
        match l1, l2, h with
        | [x, y], [t, t'], h =>
          simp only [cpsO] at h
          simp only [evalO]
          obtain ⟨y', hy, h⟩ := Option.bind_eq_some_iff.1 h
          obtain ⟨q, hq, h⟩ := Option.bind_eq_some_iff.1 h
          rw [hy, Option.bind_some]
          unfold appendA
          rw [hq]
          exact ⟨_, rfl, h⟩
        | [], _, h => simp [cpsO] at h
        | [_], _, h => simp [cpsO] at h
        | [_, _], [], h => simp [cpsO] at h
        | [_, _], [_], h => simp [cpsO] at h
        | [_, _], _ :: _ :: _ :: _, h => simp [cpsO] at h
        | _ :: _ :: _ :: _, _, h => simp [cpsO] at h
      | len =>
        obtain ⟨l1⟩ := as
        obtain ⟨l2⟩ := ts
        match l1, l2, h with
        | [x], [t], h =>
          simp only [cpsO] at h
          simp only [evalO]
          cases hm : mapOf P t with
          | some ke =>
            rw [hm] at h
            simp only at h ⊢
            obtain ⟨q, hq, h⟩ := Option.bind_eq_some_iff.1 h
            obtain ⟨es, hes, h⟩ := Option.bind_eq_some_iff.1 h
            rw [hq, Option.bind_some, hes]
            exact ⟨_, rfl, h⟩
          | none =>
            rw [hm] at h
            simp only at h ⊢
            split at h
            · rename_i hs
              rw [if_pos hs]
              obtain ⟨q, hq, h⟩ := Option.bind_eq_some_iff.1 h
              rw [hq]
              exact ⟨_, rfl, h⟩
            · rename_i hs
              rw [if_neg hs]
              split at h
              · rename_i hs
                rw [if_pos hs]
                obtain ⟨q, hq, h⟩ := Option.bind_eq_some_iff.1 h
                rw [hq]
                exact ⟨_, rfl, h⟩
              · cases h
        | [], _, h => simp [cpsO] at h
        | [_], [], h => simp [cpsO] at h
        | [_], _ :: _ :: _, h => simp [cpsO] at h
        | _ :: _ :: _, _, h => simp [cpsO] at h
      | _ => simp [cpsO] at h
  | _ => simp [cpsO] at h
def guardK (F : Fr) (d : Tmp) (want : Bool) (yes no : Fr → Rs) : Rs := match F.get d with
  | .v (.bool b) k => if b then (if want then yes else no) (F.set d (.v (.bool true) k)) else (if want then no else yes) (F.set d (.v (.bool false) k))
  | .v (.tup []) _ => no F
  | _ => none
def cpsG (P : Program) (T : Hints) (call : CallF) (f : FuncId) (ops : List Oper) (free : Bool) (o : Oper) (K : KontS) (F : Fr) (S : St) : Rs :=
  match o.guard with
  | none => cpsO P T call f free o K F S
  | some (j, want) => match (ops[j]?).bind (·.dst) with
    | some d => guardK F d want (fun F => cpsO P T call f free o K F S) (fun F => K (F.put o.dst (.v (.tup []) none)) S)
    | none => none
theorem set_same {F : Fr} {d : Tmp} {x : SV} (h : F.get d = x) (hx : x ≠ .v .undef none) : F.set d x = F := by
  unfold Fr.set
  have hd : d < F.env.length := by
    refine Nat.not_le.1 fun hl => hx ?_
    rw [← h]; simp [Fr.get, List.getElem?_eq_none hl]
  have : F.env[d] = x := by
    rw [← h]; simp [Fr.get, hd]
  rw [← this, List.set_getElem_self]
theorem cpsG_le (ops : List Oper) (free : Bool) (o : Oper) {K : KontS} {F : Fr} {S : St} {r : PV × St} (h : cpsG P T call f ops free o K F S = some r) :
    ∃ y, evalG P T call f ops free o F S = some y ∧ K y.1 y.2 = some r := by
  unfold cpsG at h
  unfold evalG
  cases hg : o.guard with
  | none => rw [hg] at h; exact cpsO_le _ _ h
  | some jw =>
    obtain ⟨j, want⟩ := jw
    rw [hg] at h
    simp only at h ⊢
    cases hd : (ops[j]?).bind (·.dst) with
    | none => rw [hd] at h; cases h
    | some d =>
      rw [hd] at h
      simp only at h ⊢
      unfold guardK at h
      split at h
      · rename_i b k hb
        rw [hb]
        have e1 : b = true → F.set d (.v (.bool true) k) = F := fun e => set_same (by rw [hb, e]) (by simp)
        have e2 : b = false → F.set d (.v (.bool false) k) = F := fun e => set_same (by rw [hb, e]) (by simp)
        simp only [SV.pv, guardA, Option.bind_some]
        cases b <;> cases want <;> simp only [e1, e2, if_true, Bool.false_eq_true, if_false] at h ⊢ <;> first | exact cpsO_le _ _ h | exact ⟨_, rfl, h⟩
      · rename_i k hb
        rw [hb]
        exact ⟨_, rfl, h⟩
      · cases h
end
def cpsL (P : Program) (T : Hints) (call : CallF) (f : FuncId) (ops : List Oper) (free : Nat → Bool) : Nat → List Oper → KontS → Fr → St → Rs
  | _, [], K, F, S => K F S
  | i, o :: rest, K, F, S => cpsG P T call f ops (free i) o (cpsL P T call f ops free (i + 1) rest K) F S
def cpsR (P : Program) (T : Hints) (call : CallF) (f : FuncId) (id : Nat) (ops : Array Oper) (draw : Bool) (K : KontS) (F : Fr) (S : St) : Rs :=
  if draw then (if drawOk T f ops && startOk ops (F.forget (T.kill f id)) then cpsL P T call f ops.toList (freeAt T f ops) 0 ops.toList (fun F S => K (F.forget (T.last f id)).clr S) (F.forget (T.kill f id)) S else none)
  else cpsL P T call f ops.toList (fun _ => false) 0 ops.toList (fun F S => K (F.forget (T.last f id)).clr S) (F.forget (T.kill f id)) S
def kSeq (C : Fr → St → Rs) (K : Kont) : Kont := fun e F' S' => match e with
  | .normal => C F' S'
  | e => K e F' S'
def kBlock (id : Nat) (K : Kont) : Kont := fun e F' S' => match e with
  | .exit id' => if id' = id then K .normal F' S' else K (.exit id') F' S'
  | e => K e F' S'
noncomputable def again (P : Program) (T : Hints) (f : FuncId) (rs : List Tmp) (b : Code) (K : Kont) : Kont := fun e F' S' => match e with
  | .normal => loopK P T f rs b K F' S'
  | e => K e F' S'
def condK (T : Hints) (f : FuncId) (c : Operand) (F : Fr) (yes no : Fr → Rs) : Rs :=
  (asBool (opv F c)).bind fun b =>
    let F' := match c with
      | .tmp t => if (T.ckill f).contains t then F.set t (.v .undef none) else F
      | _ => F
    if b then yes F' else no F'
noncomputable def cps (P : Program) (T : Hints) (f : FuncId) (rs : List Tmp) : Code → Kont → Fr → St → Rs
  | .skip, K, F, S => K .normal F S
  | .region id ops draw, K, F, S => cpsR P T (Run P T) f id ops draw (K .normal) F S
  | .seq a b, K, F, S => cps P T f rs a (kSeq (cps P T f rs b K) K) F S
  | .cond c x y, K, F, S => condK T f c F (fun F => cps P T f rs x K F S) (fun F => cps P T f rs y K F S)
  | .block id b, K, F, S => cps P T f rs b (kBlock id K) F S
  | .loop b, K, F, S => loopK P T f rs b K F S
  | .exit id, K, F, S => K (.exit id) F S
  | .ret, K, F, S => K .ret (keepOnly rs F) S
  | _, _, _, _ => none
section
variable {P : Program} {T : Hints} {call : CallF} {f : FuncId} {rs : List Tmp}
theorem cpsL_le (ops : List Oper) (free : Nat → Bool) : ∀ (l : List Oper) (i : Nat) {K : KontS} {F : Fr} {S : St} {r : PV × St}, cpsL P T call f ops free i l K F S = some r →
    ∃ y, evalL P T call f ops free i l F S = some y ∧ K y.1 y.2 = some r
  | [], i, K, F, S, r, h => ⟨_, rfl, h⟩
  | o :: l, i, K, F, S, r, h => by
    rw [cpsL] at h
    obtain ⟨y, hy, h⟩ := cpsG_le _ _ _ h
    obtain ⟨z, hz, h⟩ := cpsL_le ops free l (i + 1) h
    exact ⟨z, by rw [evalL, hy]; exact hz, h⟩
theorem cpsR_le {id : Nat} {ops : Array Oper} {draw : Bool} {K : KontS} {F : Fr} {S : St} {r : PV × St} (h : cpsR P T call f id ops draw K F S = some r) :
    ∃ y, evalR P T call f id ops draw F S = some y ∧ K y.1 y.2 = some r := by
  unfold cpsR at h
  unfold evalR
  simp only
  split at h
  · rename_i hd
    rw [if_pos hd]
    split at h
    · rename_i hk
      rw [if_pos hk]
      obtain ⟨y, hy, h⟩ := cpsL_le _ _ _ _ h
      exact ⟨_, by rw [hy]; rfl, h⟩
    · cases h
  · rename_i hd
    rw [if_neg hd]
    obtain ⟨y, hy, h⟩ := cpsL_le _ _ _ _ h
    exact ⟨_, by rw [hy]; rfl, h⟩
theorem cps_le (c : Code) : ∀ {K : Kont} {F : Fr} {S : St} {r : PV × St}, cps P T f rs c K F S = some r → ∃ y, D P T f rs c F S = some y ∧ K y.1 y.2.1 y.2.2 = some r := by
  induction c with
  | skip => intro K F S r h; exact ⟨_, D_const (fun k => rfl), h⟩
  | region id ops draw =>
    intro K F S r h
    obtain ⟨y, hy, h⟩ := cpsR_le h
    exact ⟨_, by rw [D_region, hy]; rfl, h⟩
  | seq a b iha ihb =>
    intro K F S r h
    obtain ⟨⟨e, F', S'⟩, hy, h⟩ := iha h
    rw [D_seq, hy]
    cases e with
    | normal => exact ihb h
    | exit id => exact ⟨_, rfl, h⟩
    | ret => exact ⟨_, rfl, h⟩
  | cond c x y ihx ihy =>
    intro K F S r h
    simp only [cps, condK] at h
    obtain ⟨b, hb, h⟩ := Option.bind_eq_some_iff.1 h
    rw [D_cond]
    unfold condA
    rw [hb]
    cases b
    · cases c <;> exact ihy h
    · cases c <;> exact ihx h
  | block id b ih =>
    intro K F S r h
    obtain ⟨⟨e, F', S'⟩, hy, h⟩ := ih h
    rw [D_block, hy]
    cases e with
    | normal => exact ⟨_, rfl, h⟩
    | ret => exact ⟨_, rfl, h⟩
    | exit id' =>
      simp only [kBlock] at h
      by_cases e : id' = id
      · simp only [e, if_true] at h ⊢; exact ⟨_, rfl, h⟩
      · simp only [e, if_false] at h ⊢; exact ⟨_, rfl, h⟩
  | loop b ih => intro K F S r h; exact Option.bind_eq_some_iff.1 h
  | exit id => intro K F S r h; exact ⟨_, D_const (fun k => rfl), h⟩
  | ret => intro K F S r h; exact ⟨_, D_const (fun k => rfl), h⟩
  | rangeFunc _ _ _ _ => intro K F S r h; cases h
  | scope _ => intro K F S r h; cases h
  | label _ => intro K F S r h; cases h
  | goto _ => intro K F S r h; cases h
  | refuse _ => intro K F S r h; cases h
theorem loopK_of {b : Code} {K : Kont} {F : Fr} {S : St} {r : PV × St} (h : cps P T f rs b (again P T f rs b K) F S = some r) : loopK P T f rs b K F S = some r := by
  obtain ⟨⟨e, F', S'⟩, hy, h⟩ := cps_le b h
  rw [loopK, D_loop, hy]
  cases e with
  | normal => exact h
  | exit id => exact h
  | ret => exact h
theorem Run_of {args : List PV} {S : St} {fn : Func} {c : Code} {r : PV × St} (hx : T.ext f = none) (hf : P.funcs[f]? = some fn) (hb : fn.body = some c)
    (h : cps P T f (resTmps fn.results.toList) c (finish P T.trim fn S) (initF fn args) S = some r) : Run P T f args S = some r := by
  obtain ⟨y, hy, h⟩ := cps_le c h
  rw [Run_eq hx hf hb, hy]; exact h
end
def sa : Code → Code | .seq a _ => a | _ => .skip
def sb : Code → Code | .seq _ b => b | _ => .skip
def ca : Code → Code | .cond _ a _ => a | _ => .skip
def cb : Code → Code | .cond _ _ b => b | _ => .skip
def bb : Code → Code | .block _ b => b | _ => .skip
def lb : Code → Code | .loop b => b | _ => .skip
def bodyOf (fn : Func) : Code := fn.body.getD .skip
def E (n : Nat) (l : List (Nat × SV)) : List SV := l.foldl (fun e p => e.set p.1 p.2) (List.replicate n (.v .undef none))
def St.ht (S : St) (hs : Toks) : St := { S with htoks := hs }
def Le {α : Type} (x y : Option α) : Prop := ∀ r, x = some r → y = some r
theorem Le.refl {α : Type} (x : Option α) : Le x x := fun _ h => h
theorem Le.none {α : Type} (y : Option α) : Le .none y := fun _ h => by cases h
theorem Le.trans {α : Type} {x y z : Option α} (h : Le x y) (h' : Le y z) : Le x z := fun r hr => h' r (h r hr)
theorem Le.bind {α β : Type} {x y : Option α} {f g : α → Option β} (h : Le x y) (hf : ∀ a, Le (f a) (g a)) : Le (x.bind f) (y.bind g) := by
  intro r hr
  obtain ⟨a, ha, hr⟩ := Option.bind_eq_some_iff.1 hr
  rw [h a ha]; exact hf a r hr
theorem Le.ite {α : Type} {c : Prop} [Decidable c] {x y x' y' : Option α} (h : Le x x') (h' : Le y y') : Le (if c then x else y) (if c then x' else y') := by
  split
  · exact h
  · exact h'
theorem Le.callV {c c' : CallF} {g : PV} {args : List PV} {S : St} (h : ∀ f a S, Le (c f a S) (c' f a S)) : Le (callV c g args S) (callV c' g args S) := by
  cases g with
  | fn f caps => exact h _ _ _
  | _ => exact Le.refl _
end Go.Abs
namespace Go.Abs
def codeAt : List Nat → Code → Code
  | 0 :: p, .seq a _ => codeAt p a
  | 1 :: p, .seq _ b => codeAt p b
  | 2 :: p, .cond _ a _ => codeAt p a
  | 3 :: p, .cond _ _ b => codeAt p b
  | 4 :: p, .block _ b => codeAt p b
  | 5 :: p, .loop b => codeAt p b
  | [], c => c
  | _, _ => .skip
noncomputable def contAt (P : Program) (T : Hints) (f : FuncId) (rs : List Tmp) : List Nat → Code → Kont → Kont
  | 0 :: p, .seq a b, K => contAt P T f rs p a (kSeq (cps P T f rs b K) K)
  | 1 :: p, .seq _ b, K => contAt P T f rs p b K
  | 2 :: p, .cond _ a _, K => contAt P T f rs p a K
  | 3 :: p, .cond _ _ b, K => contAt P T f rs p b K
  | 4 :: p, .block id b, K => contAt P T f rs p b (kBlock id K)
  | 5 :: p, .loop b, K => contAt P T f rs p b (again P T f rs b K)
  | _, _, K => K
def rsOf (fn : Func) : List Tmp := resTmps fn.results.toList
noncomputable def jAt (P : Program) (T : Hints) (f : FuncId) (fn : Func) (p : List Nat) (S0 : St) (F : Fr) (S : St) : Rs :=
  cps P T f (rsOf fn) (codeAt p (bodyOf fn)) (contAt P T f (rsOf fn) p (bodyOf fn) (finish P T.trim fn S0)) F S
noncomputable def lAt (P : Program) (T : Hints) (f : FuncId) (fn : Func) (p : List Nat) (S0 : St) (F : Fr) (S : St) : Rs :=
  loopK P T f (rsOf fn) (lb (codeAt p (bodyOf fn))) (contAt P T f (rsOf fn) p (bodyOf fn) (finish P T.trim fn S0)) F S
def Lf (x y : Rs) : Prop := ∀ {r : PV × St}, x = some r → y = some r
theorem lfJ {x y : Rs} (h : y = x) : Lf x y := fun {_} e => h.trans e
theorem lfL {P : Program} {T : Hints} {f : FuncId} {fn : Func} {p : List Nat} {S0 : St} {F : Fr} {S : St} {x : Rs}
    (h : cps P T f (rsOf fn) (lb (codeAt p (bodyOf fn))) (again P T f (rsOf fn) (lb (codeAt p (bodyOf fn))) (contAt P T f (rsOf fn) p (bodyOf fn) (finish P T.trim fn S0))) F S = x) : Lf x (lAt P T f fn p S0 F S) :=
  fun {_} e => loopK_of (h.trans e)
theorem lfF {P : Program} {T : Hints} {f : FuncId} {fn : Func} {args : List PV} {S0 : St} {x : Rs} (hx : T.ext f = none) (hf : P.funcs[f]? = some fn) (hb : fn.body = some (bodyOf fn))
    (h : cps P T f (rsOf fn) (bodyOf fn) (finish P T.trim fn S0) (initF fn args) S0 = x) : Lf x (Run P T f args S0) :=
  fun {_} e => Run_of hx hf hb (h.trans e)
theorem lt {x y z : Rs} (h : Le x y) (h' : Lf y z) : Le x z := fun r e => h' (h r e)
inductive Tb (α : Type) where
  | l
  | n (f : FuncId) (a : α) (x y : Tb α)
def Tb.look {α : Type} (f : FuncId) : Tb α → Option α
  | .l => none
  | .n g a x y => if f = g then some a else if f < g then x.look f else y.look f
def Tb.all {α : Type} (Q : FuncId → α → Prop) : Tb α → Prop
  | .l => True
  | .n f a x y => Q f a ∧ x.all Q ∧ y.all Q
theorem Tb.of_look {α : Type} {Q : FuncId → α → Prop} {f : FuncId} {a : α} : ∀ {t : Tb α}, t.all Q → t.look f = some a → Q f a
  | .l, _, h => by cases h
  | .n g b x y, hq, h => by
    unfold Tb.look at h
    split at h
    · rename_i e; subst e; cases h; exact hq.1
    · split at h
      · exact Tb.of_look hq.2.1 h
      · exact Tb.of_look hq.2.2 h
end Go.Abs
namespace Go.Abs
def AdR (σ : List Nat) (N : Nat → Prop) (a : Option AAd) (b o : Nat) : Prop := a = none ∨ (a = some (.real ⟨b, o, none⟩) ∧ N b) ∨ ∃ id, a = some (.ob id o) ∧ σ[id]? = some b
theorem AdR.mono {σ σ' : List Nat} {N N' : Nat → Prop} (hσ : ∀ (id b : Nat), σ[id]? = some b → σ'[id]? = some b) (hN : ∀ b, N b → N' b) {a : Option AAd} {b o : Nat} (h : AdR σ N a b o) : AdR σ' N' a b o := by
  rcases h with h | ⟨h, h'⟩ | ⟨id, h, h'⟩
  · exact .inl h
  · exact .inr (.inl ⟨h, hN _ h'⟩)
  · exact .inr (.inr ⟨id, h, hσ _ _ h'⟩)
theorem AdR.pure {σ σ' : List Nat} {N : Nat → Prop} {a : Option AAd} {b o : Nat} (h : AdR σ N a b o) (hp : noOb a = true) : AdR σ' N a b o := by
  rcases h with h | h | ⟨id, h, h'⟩
  · exact .inl h
  · exact .inr (.inl h)
  · rw [h] at hp; cases hp
theorem AdR.add {σ : List Nat} {N : Nat → Prop} {a : Option AAd} {b o : Nat} (h : AdR σ N a b o) (n : Nat) : AdR σ N (a.map (·.add n)) b (o + n) := by
  rcases h with rfl | ⟨rfl, h⟩ | ⟨id, rfl, h⟩
  · exact .inl rfl
  · refine .inr (.inl ⟨?_, h⟩)
    simp only [Option.map_some, AAd.add, Addr.add]
    split
    · rename_i hn; subst hn; rfl
    · rfl
  · exact .inr (.inr ⟨id, rfl, h⟩)
inductive VR (σ : List Nat) (I : Nat → Nat → Prop) (N : Nat → Prop) (w : World) : PV → Value → Prop where
  | bool (b : Bool) : VR σ I N w (.bool b) (.bool b)
  | int (k : IntKind) (n : Int) : VR σ I N w (.int k n) (.int k n)
  | str (s : ByteArray) : VR σ I N w (.str s) (.string s)
  | nilp : VR σ I N w .nilp (.pointer none)
  | snil : VR σ I N w .snil (.slice none 0 0)
  | mnil : VR σ I N w .mnil (.map none)
  | fnil : VR σ I N w .fnil .nilFunc
  | ref (id off b : Nat) (h : σ[id]? = some b) : VR σ I N w (.ref id off) (.pointer (some ⟨b, off, none⟩))
  | mp (id b : Nat) (h : σ[id]? = some b) : VR σ I N w (.mp id) (.map (some b))
  | ar (id sz off len b cap : Nat) (h : σ[id]? = some b) (hc : len ≤ cap) : VR σ I N w (.ar id sz off len) (.slice (some ⟨b, off * sz, none⟩) len cap)
  | ip (a : Option AAd) (cs : List PV) (b o : Nat) (g : Nat → Value) (ha : AdR σ N a b o)
      (hc : ∀ i, i < cs.length → w.cell? ⟨b, o + i, none⟩ = some (g i) ∧ I b (o + i) ∧ (g i).oneCell' = true) (hv : ∀ i, i < cs.length → VR σ I N w (cs.getD i .undef) (g i)) :
      VR σ I N w (.ip a cs) (.pointer (some ⟨b, o, none⟩))
  | sl (a : Option AAd) (sz : Nat) (es : List PV) (b o cap : Nat) (g : Nat → Value) (hsz : 0 < sz) (ha : AdR σ N a b o) (hcap : es.length ≤ cap)
      (hl : ∀ i, i < es.length → (es.getD i .undef).cells.length = sz)
      (hc : ∀ i, i < es.length * sz → w.cell? ⟨b, o + i, none⟩ = some (g i) ∧ I b (o + i) ∧ (g i).oneCell' = true)
      (hv : ∀ i j, i < es.length → j < sz → VR σ I N w ((es.getD i .undef).cell j) (g (i * sz + j))) :
      VR σ I N w (.sl a sz es) (.slice (some ⟨b, o, none⟩) es.length cap)
  | sl0 (sz : Nat) (p : Addr) (hsz : 0 < sz) : VR σ I N w (.sl none sz []) (.slice (some p) 0 0)
  | fn (f : FuncId) (cs : List PV) (vs : Array Value) (hl : cs.length = vs.size) (hv : ∀ i, i < cs.length → VR σ I N w (cs.getD i .undef) (vs.getD i Go.undef)) :
      VR σ I N w (.fn f cs) (.func (.func f) #[] vs)
  | agg (cs : List PV) (vs : Array Value) (hl : cs.length = vs.size) (h1 : ∀ i, i < cs.length → (vs.getD i Go.undef).oneCell' = true) (hv : ∀ i, i < cs.length → VR σ I N w (cs.getD i .undef) (vs.getD i Go.undef)) :
      VR σ I N w (.agg cs) (.agg vs)
  | tup (cs : List PV) (vs : Array Value) (hl : cs.length = vs.size) (hv : ∀ i, i < cs.length → VR σ I N w (cs.getD i .undef) (vs.getD i Go.undef)) :
      VR σ I N w (.tup cs) (.tuple vs)
  | undef (v : Value) : VR σ I N w .undef v
theorem VR.mono {σ σ' : List Nat} {I I' : Nat → Nat → Prop} {N N' : Nat → Prop} {w w' : World} (hσ : ∀ (id b : Nat), σ[id]? = some b → σ'[id]? = some b)
    (hI : ∀ b o v, w.cell? ⟨b, o, none⟩ = some v → I b o → w'.cell? ⟨b, o, none⟩ = some v ∧ I' b o) (hN : ∀ b, N b → N' b)
    {x : PV} {v : Value} (h : VR σ I N w x v) : VR σ' I' N' w' x v := by
  induction h with
  | bool b => exact .bool b
  | int k n => exact .int k n
  | str s => exact .str s
  | nilp => exact .nilp
  | snil => exact .snil
  | mnil => exact .mnil
  | fnil => exact .fnil
  | ref id off b h => exact .ref id off b (hσ _ _ h)
  | mp id b h => exact .mp id b (hσ _ _ h)
  | ar id sz off len b cap h hc => exact .ar id sz off len b cap (hσ _ _ h) hc
  | ip a cs b o g ha hc _ ih => exact .ip a cs b o g (ha.mono hσ hN) (fun i hi => let ⟨p, q, r⟩ := hc i hi; let ⟨p', q'⟩ := hI _ _ _ p q; ⟨p', q', r⟩) ih
  | sl a sz es b o cap g hsz ha hcap hl hc _ ih => exact .sl a sz es b o cap g hsz (ha.mono hσ hN) hcap hl (fun i hi => let ⟨p, q, r⟩ := hc i hi; let ⟨p', q'⟩ := hI _ _ _ p q; ⟨p', q', r⟩) ih
  | sl0 sz p h => exact .sl0 sz p h
  | fn f cs vs hl _ ih => exact .fn f cs vs hl ih
  | agg cs vs hl h1 _ ih => exact .agg cs vs hl h1 ih
  | tup cs vs hl _ ih => exact .tup cs vs hl ih
  | undef v => exact .undef v
theorem pureL_get : ∀ {cs : List PV}, PV.pureL cs = true → ∀ i, (cs.getD i .undef).pure = true
  | [], _, i => by simp [PV.pure]
  | c :: cs, h, i => by
    simp only [PV.pureL, Bool.and_eq_true] at h
    cases i with
    | zero => simpa using h.1
    | succ i => simpa using pureL_get h.2 i
theorem pure_cell {e : PV} (h : e.pure = true) (i : Nat) : (e.cell i).pure = true := by
  unfold PV.cell PV.cells
  split
  · rename_i cs; rw [PV.pure] at h; exact pureL_get h i
  · cases i with
    | zero => simpa using h
    | succ i => simp [PV.pure]
theorem VR.pure {σ σ' : List Nat} {I : Nat → Nat → Prop} {N : Nat → Prop} {w : World} {x : PV} {v : Value} (h : VR σ I N w x v) (hp : x.pure = true) : VR σ' I N w x v := by
  induction h with
  | bool b => exact .bool b
  | int k n => exact .int k n
  | str s => exact .str s
  | nilp => exact .nilp
  | snil => exact .snil
  | mnil => exact .mnil
  | fnil => exact .fnil
  | ref id off b h => cases hp
  | mp id b h => cases hp
  | ar id sz off len b cap h hc => cases hp
  | ip a cs b o g ha hc _ ih => rw [PV.pure, Bool.and_eq_true] at hp; exact .ip a cs b o g (ha.pure hp.1) hc (fun i hi => ih i hi (pureL_get hp.2 i))
  | sl a sz es b o cap g hsz ha hcap hl hc _ ih => rw [PV.pure, Bool.and_eq_true] at hp; exact .sl a sz es b o cap g hsz (ha.pure hp.1) hcap hl hc (fun i j hi hj => ih i j hi hj (pure_cell (pureL_get hp.2 i) j))
  | sl0 sz p h => exact .sl0 sz p h
  | fn f cs vs hl _ ih => rw [PV.pure] at hp; exact .fn f cs vs hl (fun i hi => ih i hi (pureL_get hp i))
  | agg cs vs hl h1 _ ih => rw [PV.pure] at hp; exact .agg cs vs hl h1 (fun i hi => ih i hi (pureL_get hp i))
  | tup cs vs hl _ ih => rw [PV.pure] at hp; exact .tup cs vs hl (fun i hi => ih i hi (pureL_get hp i))
  | undef v => exact .undef v
inductive Own where
  | obj (id : Nat)
  | htok (t : Nat)
  | box (slot : Nat)
  | tok (t : Nat)
  | foreign
structure Gh where
  σ : List Nat
  τ : List Nat
  ψ : List Nat
  O : Nat → Option Own
  M : Nat → Nat
def Gh.imm (g : Gh) (b o : Nat) : Prop := g.O b = none ∨ o < g.M b
def Gh.plain (g : Gh) (w : World) (b : Nat) : Prop := g.O b = none ∧ ∃ arr ty, w.heap[b]? = some (.cells arr ty (0, 0))
abbrev Gh.VR (g : Gh) (w : World) := Abs.VR g.σ g.imm (g.plain w) w
def slen : PV → Option Nat
  | .sl _ _ es => some es.length
  | _ => none
def OwnR (w : World) (toks : Toks) (bs : List Nat) (t : Nat) (x : PV) (v : Value) : Prop :=
  t < toks.length ∧ ∀ n sz, toks[t]? = some (some (n, sz)) → ∃ m, slen x = some m ∧ m ≤ n ∧ (m = n → ∃ e vals b, w.ownsRow 0 e sz v n vals ∧ bs[t]? = some b ∧ v.ownBlock = some b)
def TkR (g : Gh) (toks htoks : Toks) (w : World) (k : Option Tk) (x : PV) (v : Value) : Prop := match k with
  | none => True
  | some .full => ∃ a n, v = .slice a n n
  | some (.loc t) => OwnR w toks g.ψ t x v
  | some (.hp t) => OwnR w htoks g.τ t x v
def CellR (g : Gh) (toks htoks : Toks) (w : World) (c : Cell) (v : Value) : Prop := g.VR w c.1 v ∧ TkR g toks htoks w c.2 c.1 v ∧ v.oneCell' = true
def BlockR (g : Gh) (toks htoks : Toks) (w : World) (b : Nat) (cs : List Cell) : Prop :=
  ∃ arr ty, w.heap[b]? = some (.cells arr ty (0, 0)) ∧ arr.size = cs.length ∧ ∀ i c, cs[i]? = some c → CellR g toks htoks w c (arr.getD i Go.undef)
structure FrR (g : Gh) (F : Fr) (htoks : Toks) (w : World) (a : Act) : Prop where
  size : a.tmps.size = F.env.length
  defers : a.defers = []
  vals : ∀ t x k, F.env[t]? = some (.v x k) → g.VR w x (a.tmps.getD t Go.undef) ∧ TkR g F.toks htoks w k x (a.tmps.getD t Go.undef)
  boxes : ∀ t cs, F.env[t]? = some (.box cs) → ∃ b, a.tmps.getD t Go.undef = .pointer (some ⟨b, 0, none⟩) ∧ g.O b = some (.box t) ∧ g.M b = 0 ∧ BlockR g F.toks htoks w b cs
  lps : ∀ t s o cs, F.env[t]? = some (.lp s o) → F.env[s]? = some (.box cs) → ∃ b, a.tmps.getD t Go.undef = .pointer (some ⟨b, o, none⟩) ∧ a.tmps.getD s Go.undef = .pointer (some ⟨b, 0, none⟩)
  toks : ∀ t n sz, F.toks[t]? = some (some (n, sz)) → ∃ b, g.ψ[t]? = some b ∧ g.O b = some (.tok t) ∧ g.M b = n * sz ∧ b < w.heap.size
  psi : g.ψ.length = F.toks.length
def noLoc : Option Tk → Prop
  | some (.loc _) => False
  | _ => True
def Free (g : Gh) (b : Nat) : Prop := ∀ id, g.O b ≠ some (.obj id)
def BldR (g : Gh) (w : World) (id b : Nat) (T e : TypeId) (l : List UInt8) : Prop :=
  ∃ p v, w.heap[b]? = some (.cells #[p, v] T (0, 0)) ∧ T ≠ e ∧ (p = .pointer none ∨ p = .pointer (some ⟨b, 0, none⟩)) ∧
    ((v = .slice none 0 0 ∧ l = []) ∨ ∃ b2 cap cur, v = .slice (some ⟨b2, 0, none⟩) l.length cap ∧ (g.O b2 = some (.obj id) ∧ g.M b2 = 0) ∧ b2 ≠ b ∧ w.heap[b2]? = some (.cells cur e (0, 0)) ∧
      l ≠ [] ∧ l.length ≤ cap ∧ cap ≤ maxLen ∧ cur.size = cap ∧ cur.toList.take l.length = l.map fun x => Value.int .u8 x.toNat)
theorem BldR.keep {g g' : Gh} {w w' : World} {id b : Nat} {T e : TypeId} {l : List UInt8} (h : BldR g w id b T e l) (hb : g.O b = some (.obj id))
    (hk : ∀ c, c < w.heap.size → g.O c = some (.obj id) → g'.O c = some (.obj id) ∧ g'.M c = g.M c ∧ w'.heap[c]? = w.heap[c]?) : BldR g' w' id b T e l := by
  obtain ⟨p, v, h1, h2, h3, h4⟩ := h
  refine ⟨p, v, (hk b (Array.getElem?_eq_some_iff.1 h1).1 hb).2.2.trans h1, h2, h3, ?_⟩
  rcases h4 with h4 | ⟨b2, cap, cur, q1, q2, q3, q4, q5⟩
  · exact .inl h4
  · obtain ⟨r1, r2, r3⟩ := hk b2 (Array.getElem?_eq_some_iff.1 q4).1 q2.1
    exact .inr ⟨b2, cap, cur, q1, ⟨r1, r2.trans q2.2⟩, q3, r3.trans q4, q5⟩
structure StR (g : Gh) (S : St) (w : World) : Prop where
  sigma : g.σ.length = S.objs.length
  tau : g.τ.length = S.htoks.length
  cells : ∀ id cs, S.objs[id]? = some (.cells cs) → (∃ b, g.σ[id]? = some b ∧ g.O b = some (.obj id) ∧ g.M b = 0 ∧ BlockR g [] S.htoks w b cs) ∧ ∀ c ∈ cs, noLoc c.2
  maps : ∀ id es, S.objs[id]? = some (.map es) → ∃ b ents clock, g.σ[id]? = some b ∧ (g.O b = some (.obj id) ∧ g.M b = 0) ∧ w.heap[b]? = some (.map ents clock) ∧ ents.size = es.length ∧
    ∀ i e, es[i]? = some e → g.VR w e.1 (ents.getD i default).key ∧ g.VR w e.2 (ents.getD i default).val
  toks : ∀ t n sz, S.htoks[t]? = some (some (n, sz)) → ∃ b, g.τ[t]? = some b ∧ g.O b = some (.htok t) ∧ g.M b = n * sz ∧ b < w.heap.size
  blks : ∀ (id : Nat), S.objs[id]? = some Ob.blk → ∃ b : Nat, g.σ[id]? = some b ∧ Free g b ∧ ∃ arr ty, w.heap[b]? = some (.cells arr ty (0, 0))
  blds : ∀ (id : Nat) T e l, S.objs[id]? = some (Ob.bld T e l) → ∃ b : Nat, g.σ[id]? = some b ∧ g.O b = some (.obj id) ∧ g.M b = 0 ∧ BldR g w id b T e l
  binj : ∀ (id id' b : Nat), S.objs[id]? = some Ob.blk → S.objs[id']? = some Ob.blk → g.σ[id]? = some b → g.σ[id']? = some b → id = id'
structure Tr (ch : Own → Prop) (g g' : Gh) (w w' : World) : Prop where
  os : w'.os = w.os
  tape : w'.tape = w.tape
  output : w'.output = w.output
  size : w.heap.size ≤ w'.heap.size
  sigma : ∀ (id b : Nat), g.σ[id]? = some b → g'.σ[id]? = some b
  imm : ∀ b o v, w.cell? ⟨b, o, none⟩ = some v → g.imm b o → w'.cell? ⟨b, o, none⟩ = some v ∧ g'.imm b o
  none : ∀ b, b < w.heap.size → g.O b = none → g'.O b = none ∧ w'.heap[b]? = w.heap[b]?
  oth : ∀ b o, b < w.heap.size → g.O b = some o → ¬ ch o → g'.O b = some o ∧ g'.M b = g.M b ∧ w'.heap[b]? = w.heap[b]?
  cz : ∀ b arr ty, w.heap[b]? = some (.cells arr ty (0, 0)) → Free g b → (∃ arr', w'.heap[b]? = some (.cells arr' ty (0, 0))) ∧ Free g' b
theorem Tr.vr {ch : Own → Prop} {g g' : Gh} {w w' : World} (h : Tr ch g g' w w') {x : PV} {v : Value} (hx : g.VR w x v) : g'.VR w' x v :=
  VR.mono h.sigma h.imm (fun b ⟨hO, arr, ty, hb⟩ => by
    obtain ⟨h1, h2⟩ := h.none b (Array.getElem?_eq_some_iff.1 hb).1 hO
    exact ⟨h1, arr, ty, by rw [h2]; exact hb⟩) hx
theorem Tr.refl (ch : Own → Prop) (g : Gh) (w : World) : Tr ch g g w w :=
  ⟨rfl, rfl, rfl, Nat.le_refl _, fun _ _ h => h, fun _ _ _ h i => ⟨h, i⟩, fun _ _ h => ⟨h, rfl⟩, fun _ _ _ h _ => ⟨h, rfl, rfl⟩, fun _ arr _ h i => ⟨⟨arr, h⟩, i⟩⟩
theorem Tr.trans {ch : Own → Prop} {g g' g'' : Gh} {w w' w'' : World} (h : Tr ch g g' w w') (h' : Tr ch g' g'' w' w'') : Tr ch g g'' w w'' :=
  ⟨h'.os.trans h.os, h'.tape.trans h.tape, h'.output.trans h.output, Nat.le_trans h.size h'.size, fun id b hb => h'.sigma _ _ (h.sigma _ _ hb),
   fun b o v hv hi => let ⟨a, c⟩ := h.imm b o v hv hi; h'.imm b o v a c,
   fun b hb hn => let ⟨a, c⟩ := h.none b hb hn; let ⟨a', c'⟩ := h'.none b (Nat.lt_of_lt_of_le hb h.size) a; ⟨a', c'.trans c⟩,
   fun b o hb ho hc => let ⟨a, c, d⟩ := h.oth b o hb ho hc; let ⟨a', c', d'⟩ := h'.oth b o (Nat.lt_of_lt_of_le hb h.size) a hc; ⟨a', c'.trans c, d'.trans d⟩,
   fun b arr ty hb hf => let ⟨⟨_, a⟩, c⟩ := h.cz b arr ty hb hf; h'.cz b _ ty a c⟩
theorem Tr.weaken {ch ch' : Own → Prop} {g g' : Gh} {w w' : World} (h : Tr ch g g' w w') (hc : ∀ o, ch o → ch' o) : Tr ch' g g' w w' :=
  ⟨h.os, h.tape, h.output, h.size, h.sigma, h.imm, h.none, fun b o hb ho hn => h.oth b o hb ho (fun x => hn (hc o x)), h.cz⟩
theorem ownsRow_same {w w' : World} {base : Nat} {e : TypeId} {sz : Nat} {v : Value} {n : Nat} {xs : List Value} (h : w.ownsRow base e sz v n xs)
    (hb : ∀ b, v.ownBlock = some b → w'.heap[b]? = w.heap[b]?) : w'.ownsRow base e sz v n xs := by
  refine ⟨h.1, ?_⟩
  rcases h.2 with hn | ⟨g, cap, cur, rfl, hbs, hg, rest⟩
  · exact .inl hn
  · exact .inr ⟨g, cap, cur, rfl, hbs, by rw [hb g rfl]; exact hg, rest⟩
def TokTr (ts ts' : Toks) (bs bs' : List Nat) (w w' : World) : Prop := ts.length ≤ ts'.length ∧ ∀ t n sz, t < ts.length → ts'[t]? = some (some (n, sz)) →
  ∃ n0, ts[t]? = some (some (n0, sz)) ∧ (n0 < n ∨ (n0 = n ∧ ∀ b, bs[t]? = some b → bs'[t]? = some b ∧ w'.heap[b]? = w.heap[b]?))
theorem TokTr.refl (ts : Toks) (bs : List Nat) (w : World) : TokTr ts ts bs bs w w := ⟨Nat.le_refl _, fun t n sz _ h => ⟨n, h, .inr ⟨rfl, fun b hb => ⟨hb, rfl⟩⟩⟩⟩
theorem TokTr.trans {ts ts' ts'' : Toks} {bs bs' bs'' : List Nat} {w w' w'' : World} (h : TokTr ts ts' bs bs' w w') (h' : TokTr ts' ts'' bs' bs'' w' w'') : TokTr ts ts'' bs bs'' w w'' := by
  refine ⟨Nat.le_trans h.1 h'.1, fun t n sz ht hn => ?_⟩
  obtain ⟨n1, h1, h2⟩ := h'.2 t n sz (Nat.lt_of_lt_of_le ht h.1) hn
  obtain ⟨n0, h3, h4⟩ := h.2 t n1 sz ht h1
  refine ⟨n0, h3, ?_⟩
  rcases h2 with h2 | ⟨rfl, h2⟩
  · rcases h4 with h4 | ⟨rfl, h4⟩
    · exact .inl (by omega)
    · exact .inl h2
  · rcases h4 with h4 | ⟨rfl, h4⟩
    · exact .inl h4
    · exact .inr ⟨rfl, fun b hb => let ⟨a, c⟩ := h4 b hb; let ⟨a', c'⟩ := h2 b a; ⟨a', c'.trans c⟩⟩
theorem OwnR.keep {w w' : World} {ts ts' : Toks} {bs bs' : List Nat} {t : Nat} {x : PV} {v : Value} (h : OwnR w ts bs t x v) (hk : TokTr ts ts' bs bs' w w') : OwnR w' ts' bs' t x v := by
  refine ⟨Nat.lt_of_lt_of_le h.1 hk.1, fun n sz hn => ?_⟩
  obtain ⟨n0, h1, h2⟩ := hk.2 t n sz h.1 hn
  obtain ⟨m, hm, hle, ho⟩ := h.2 n0 sz h1
  refine ⟨m, hm, ?_, fun e => ?_⟩
  · rcases h2 with h2 | ⟨rfl, _⟩ <;> omega
  · rcases h2 with h2 | ⟨rfl, h2⟩
    · omega
    · obtain ⟨e', vals, b, ho, hb, hv⟩ := ho e
      obtain ⟨h1, h3⟩ := h2 b hb
      exact ⟨e', vals, b, ownsRow_same ho (fun b' hb' => by rw [hv] at hb'; cases hb'; exact h3), h1, hv⟩
theorem TkR.keep {g g' : Gh} {ft ft' ht ht' : Toks} {w w' : World} {k : Option Tk} {x : PV} {v : Value} (h : TkR g ft ht w k x v) (h1 : TokTr ft ft' g.ψ g'.ψ w w') (h2 : TokTr ht ht' g.τ g'.τ w w') :
    TkR g' ft' ht' w' k x v := by
  cases k with
  | none => trivial
  | some k => cases k with
    | full => exact h
    | loc t => exact OwnR.keep h h1
    | hp t => exact OwnR.keep h h2
theorem CellR.keep {ch : Own → Prop} {g g' : Gh} {ft ft' ht ht' : Toks} {w w' : World} {c : Cell} {v : Value} (h : CellR g ft ht w c v) (t : Tr ch g g' w w') (h1 : TokTr ft ft' g.ψ g'.ψ w w') (h2 : TokTr ht ht' g.τ g'.τ w w') :
    CellR g' ft' ht' w' c v := ⟨t.vr h.1, TkR.keep h.2.1 h1 h2, h.2.2⟩
theorem BlockR.keep {ch : Own → Prop} {g g' : Gh} {ft ft' ht ht' : Toks} {w w' : World} {b : Nat} {cs : List Cell} (h : BlockR g ft ht w b cs) (t : Tr ch g g' w w') (h1 : TokTr ft ft' g.ψ g'.ψ w w')
    (h2 : TokTr ht ht' g.τ g'.τ w w') (hb : w'.heap[b]? = w.heap[b]?) : BlockR g' ft' ht' w' b cs := by
  obtain ⟨arr, ty, h3, h4, h5⟩ := h
  exact ⟨arr, ty, by rw [hb]; exact h3, h4, fun i c hc => (h5 i c hc).keep t h1 h2⟩
theorem BlockR.lt {g : Gh} {ft ht : Toks} {w : World} {b : Nat} {cs : List Cell} (h : BlockR g ft ht w b cs) : b < w.heap.size := by
  obtain ⟨arr, ty, h3, _⟩ := h
  exact (Array.getElem?_eq_some_iff.1 h3).1
def TokB (g : Gh) (own : Nat → Own) (ts : Toks) (bs : List Nat) (w : World) : Prop := ∀ t n sz, ts[t]? = some (some (n, sz)) → ∃ b, bs[t]? = some b ∧ g.O b = some (own t) ∧ g.M b = n * sz ∧ b < w.heap.size
theorem FrR.keep {ch : Own → Prop} {g g' : Gh} {F : Fr} {ts' ht ht' : Toks} {w w' : World} {a : Act} (h : FrR g F ht w a) (t : Tr ch g g' w w') (hch : ∀ s, ¬ ch (.box s))
    (h1 : TokTr F.toks ts' g.ψ g'.ψ w w') (h2 : TokTr ht ht' g.τ g'.τ w w') (h3 : TokB g' .tok ts' g'.ψ w') (h4 : g'.ψ.length = ts'.length) : FrR g' { F with toks := ts' } ht' w' a := by
  refine ⟨h.size, h.defers, fun s x k hs => ?_, fun s cs hs => ?_, h.lps, h3, h4⟩
  · obtain ⟨a1, a2⟩ := h.vals s x k hs
    exact ⟨t.vr a1, a2.keep h1 h2⟩
  · obtain ⟨b, b1, b2, b3, b4⟩ := h.boxes s cs hs
    obtain ⟨c1, c2, c3⟩ := t.oth b _ b4.lt b2 (hch s)
    exact ⟨b, b1, c1, c2.trans b3, b4.keep t h1 h2 c3⟩
theorem StR.keep {ch : Own → Prop} {g g' : Gh} {S : St} {ht' : Toks} {w w' : World} (h : StR g S w) (t : Tr ch g g' w w') (hch : ∀ s, ¬ ch (.obj s)) (hσ : g'.σ = g.σ)
    (h2 : TokTr S.htoks ht' g.τ g'.τ w w') (h3 : TokB g' .htok ht' g'.τ w') (h4 : g'.τ.length = ht'.length) : StR g' { S with htoks := ht' } w' := by
  have hnil : TokTr [] [] g.ψ g'.ψ w w' := ⟨Nat.le_refl _, fun t n sz ht => by simp at ht⟩
  refine ⟨by rw [hσ]; exact h.sigma, h4, fun id cs hid => ?_, fun id es hid => ?_, h3, fun id hid => ?_, fun id T e l hid => ?_, fun id id' b h1 h2 h5 h6 => h.binj id id' b h1 h2 (by rw [← hσ]; exact h5) (by rw [← hσ]; exact h6)⟩
  rotate_left
  rotate_left
  · obtain ⟨b, b1, b2, arr, ty, b3⟩ := h.blks id hid
    obtain ⟨⟨arr', c1⟩, c2⟩ := t.cz b arr ty b3 b2
    exact ⟨b, by rw [hσ]; exact b1, c2, arr', ty, c1⟩
  · obtain ⟨b, b1, b2, b3, b4⟩ := h.blds id T e l hid
    have hk : ∀ c, c < w.heap.size → g.O c = some (.obj id) → g'.O c = some (.obj id) ∧ g'.M c = g.M c ∧ w'.heap[c]? = w.heap[c]? := fun c hc ho => t.oth c _ hc ho (hch id)
    obtain ⟨p, v, q1, _⟩ := b4
    obtain ⟨c1, c2, _⟩ := hk b (Array.getElem?_eq_some_iff.1 q1).1 b2
    obtain ⟨b', b1', b2', b3', b4'⟩ := h.blds id T e l hid
    rw [b1] at b1'; cases b1'
    exact ⟨b, by rw [hσ]; exact b1, c1, c2.trans b3, b4'.keep b2 hk⟩
  · obtain ⟨⟨b, b1, b2, b3, b4⟩, b5⟩ := h.cells id cs hid
    obtain ⟨c1, c2, c3⟩ := t.oth b _ b4.lt b2 (hch id)
    exact ⟨⟨b, by rw [hσ]; exact b1, c1, c2.trans b3, b4.keep t hnil h2 c3⟩, b5⟩
  · obtain ⟨b, ents, clock, b1, b2, b3, b4, b5⟩ := h.maps id es hid
    obtain ⟨c1, c2, c3⟩ := t.oth b _ (Array.getElem?_eq_some_iff.1 b3).1 b2.1 (hch id)
    exact ⟨b, ents, clock, by rw [hσ]; exact b1, ⟨c1, c2.trans b2.2⟩, by rw [c3]; exact b3, b4, fun i e he => ⟨t.vr (b5 i e he).1, t.vr (b5 i e he).2⟩⟩
theorem blks_keep {ch : Own → Prop} {g g' : Gh} {S : St} {w w' : World} (hS : StR g S w) (t : Tr ch g g' w w') {objs' : List Ob} (ho : ∀ (id : Nat), objs'[id]? = some Ob.blk → S.objs[id]? = some Ob.blk) :
    (∀ (id : Nat), objs'[id]? = some Ob.blk → ∃ b : Nat, g'.σ[id]? = some b ∧ Free g' b ∧ ∃ arr ty, w'.heap[b]? = some (.cells arr ty (0, 0))) ∧
    ∀ (id id' b : Nat), objs'[id]? = some Ob.blk → objs'[id']? = some Ob.blk → g'.σ[id]? = some b → g'.σ[id']? = some b → id = id' := by
  refine ⟨fun id hid => ?_, fun id id' b h1 h2 h3 h4 => ?_⟩
  · obtain ⟨b, b1, b2, arr, ty, b3⟩ := hS.blks id (ho id hid)
    obtain ⟨⟨arr', c1⟩, c2⟩ := t.cz b arr ty b3 b2
    exact ⟨b, t.sigma _ _ b1, c2, arr', ty, c1⟩
  · obtain ⟨b1, q1, _⟩ := hS.blks id (ho id h1)
    obtain ⟨b2, q2, _⟩ := hS.blks id' (ho id' h2)
    have e1 := t.sigma _ _ q1
    have e2 := t.sigma _ _ q2
    rw [h3] at e1; cases e1
    rw [h4] at e2; cases e2
    exact hS.binj id id' b (ho id h1) (ho id' h2) q1 q2
theorem blds_keep {g g' : Gh} {S : St} {w w' : World} (hS : StR g S w) {objs' : List Ob} (hσ : ∀ (id b : Nat), g.σ[id]? = some b → g'.σ[id]? = some b)
    (ho : ∀ (id : Nat) T e l, objs'[id]? = some (Ob.bld T e l) → S.objs[id]? = some (Ob.bld T e l) ∧
      ∀ c, c < w.heap.size → g.O c = some (.obj id) → g'.O c = some (.obj id) ∧ g'.M c = g.M c ∧ w'.heap[c]? = w.heap[c]?) :
    ∀ (id : Nat) T e l, objs'[id]? = some (Ob.bld T e l) → ∃ b : Nat, g'.σ[id]? = some b ∧ g'.O b = some (.obj id) ∧ g'.M b = 0 ∧ BldR g' w' id b T e l := by
  intro id T e l hid
  obtain ⟨h1, hk⟩ := ho id T e l hid
  obtain ⟨b, b1, b2, b3, b4⟩ := hS.blds id T e l h1
  have hlt : b < w.heap.size := by obtain ⟨p, v, q1, _⟩ := b4; exact (Array.getElem?_eq_some_iff.1 q1).1
  obtain ⟨c1, c2, _⟩ := hk b hlt b2
  exact ⟨b, hσ _ _ b1, c1, c2.trans b3, b4.keep b2 hk⟩
theorem bld_push {objs : List Ob} {x : Ob} (hx : ∀ T e l, x ≠ Ob.bld T e l) (id : Nat) (T e : TypeId) (l : List UInt8) (h : (objs ++ [x])[id]? = some (Ob.bld T e l)) : objs[id]? = some (Ob.bld T e l) := by
  by_cases hlt : id < objs.length
  · rwa [List.getElem?_append_left hlt] at h
  · rw [List.getElem?_append_right (Nat.not_lt.1 hlt)] at h
    have h0 : id - objs.length = 0 := by
      have := (List.getElem?_eq_some_iff.1 h).1
      simpa using this
    rw [h0] at h
    simp at h
    exact absurd h (hx T e l)
theorem blk_push {objs : List Ob} {x : Ob} (hx : x ≠ Ob.blk) (id : Nat) (h : (objs ++ [x])[id]? = some Ob.blk) : objs[id]? = some Ob.blk := by
  by_cases hlt : id < objs.length
  · rwa [List.getElem?_append_left hlt] at h
  · rw [List.getElem?_append_right (Nat.not_lt.1 hlt)] at h
    have h0 : id - objs.length = 0 := by
      have := (List.getElem?_eq_some_iff.1 h).1
      simpa using this
    rw [h0] at h
    simp at h
    exact absurd h hx
theorem blk_set {objs : List Ob} {x : Ob} {i : Nat} (hx : x ≠ Ob.blk) (id : Nat) (h : (objs.set i x)[id]? = some Ob.blk) : objs[id]? = some Ob.blk := by
  rw [List.getElem?_set] at h
  split at h
  · split at h
    · exact absurd (Option.some.inj h) hx
    · cases h
  · exact h
end Go.Abs
namespace Go.Abs
theorem chk_some {c : Bool} {u : Unit} (h : chk c = some u) : c = true := by unfold chk at h; split at h <;> simp_all
theorem addr_add (b o n : Nat) : (⟨b, o, none⟩ : Addr).add n = ⟨b, o + n, none⟩ := by unfold Addr.add; split <;> simp_all
section
variable {σ : List Nat} {I : Nat → Nat → Prop} {N : Nat → Prop} {w : World}
theorem VR_ofVal0 (v : Value) : VR σ I N w (ofVal0 v) v := by
  unfold ofVal0
  split <;> constructor
theorem VR_ofVal (v : Value) : VR σ I N w (ofVal v) v := by
  unfold ofVal
  split
  · rename_i cs
    split
    · rename_i h
      refine .agg _ _ (by simp) (fun i hi => ?_) (fun i hi => ?_)
      · simp only [List.length_map, Array.length_toList] at hi
        have := (List.all_eq_true.1 h) cs[i] (by simp)
        simpa [hi] using this
      · simp only [List.length_map, Array.length_toList] at hi
        simpa [hi] using VR_ofVal0 cs[i]
    · exact .undef _
  · exact VR_ofVal0 _
theorem VR.cells {e : PV} {v : Value} {n : Nat} (h : VR σ I N w e v) (hn : e.okCells n = true) :
    v.cells.size = n ∧ e.cells.length = n ∧ ∀ j, j < n → VR σ I N w (e.cell j) (v.cells.getD j Go.undef) ∧ (v.cells.getD j Go.undef).oneCell' = true := by
  have one : ∀ {e : PV} {v : Value}, VR σ I N w e v → e.okCells n = true → e.one = true → v.cells = #[v] → v.oneCell' = true → e.cells = [e] →
      v.cells.size = n ∧ e.cells.length = n ∧ ∀ j, j < n → VR σ I N w (e.cell j) (v.cells.getD j Go.undef) ∧ (v.cells.getD j Go.undef).oneCell' = true := by
    intro e v h hn h1 hv ho he
    have hn1 : n = 1 := by
      unfold PV.okCells at hn
      split at hn
      · cases h1
      · simpa [h1] using hn
    subst hn1
    refine ⟨by rw [hv]; rfl, by rw [he]; rfl, fun j hj => ?_⟩
    obtain rfl : j = 0 := by omega
    rw [hv]
    refine ⟨?_, ho⟩
    unfold PV.cell
    rw [he]; exact h
  cases h with
  | agg cs vs hl h1 hv =>
    have hn' : cs.length = n := by simpa [PV.okCells] using hn
    subst hn'
    exact ⟨hl.symm, rfl, fun j hj => ⟨hv j hj, h1 j hj⟩⟩
  | tup cs vs hl hv => simp [PV.okCells, PV.one] at hn
  | undef v => simp [PV.okCells, PV.one] at hn
  | bool b => exact one (.bool b) hn rfl rfl rfl rfl
  | int k m => exact one (.int k m) hn rfl rfl rfl rfl
  | str s => exact one (.str s) hn rfl rfl rfl rfl
  | nilp => exact one .nilp hn rfl rfl rfl rfl
  | snil => exact one .snil hn rfl rfl rfl rfl
  | mnil => exact one .mnil hn rfl rfl rfl rfl
  | fnil => exact one .fnil hn rfl rfl rfl rfl
  | ref id off b h => exact one (.ref id off b h) hn rfl rfl rfl rfl
  | mp id b h => exact one (.mp id b h) hn rfl rfl rfl rfl
  | ar id sz off len b cap h hc => exact one (.ar id sz off len b cap h hc) hn rfl rfl rfl rfl
  | ip a cs b o g ha hc hv => exact one (.ip a cs b o g ha hc hv) hn rfl rfl rfl rfl
  | sl a sz es b o cap g hsz ha hcap hl hc hv => exact one (.sl a sz es b o cap g hsz ha hcap hl hc hv) hn rfl rfl rfl rfl
  | sl0 sz p h => exact one (.sl0 sz p h) hn rfl rfl rfl rfl
  | fn f cs vs hl hv => exact one (.fn f cs vs hl hv) hn rfl rfl rfl rfl
theorem VR.one {e : PV} {v : Value} (h : VR σ I N w e v) (hn : e.one = true) : v.oneCell' = true := by
  cases h <;> first | rfl | (simp [PV.one] at hn)
end
theorem asCells_some {e : PV} {n : Nat} {cs : List PV} (h : asCells e n = some cs) : e.okCells n = true ∧ cs = e.proj n := by
  unfold asCells at h
  obtain ⟨u, hu, rfl⟩ := Option.map_eq_some_iff.1 h
  exact ⟨chk_some hu, rfl⟩
theorem proj_length (e : PV) (n : Nat) : (e.proj n).length = n := by simp [PV.proj]
theorem proj_get (e : PV) (n j : Nat) (h : j < n) : (e.proj n)[j]? = some (e.cell j) := by simp [PV.proj, h]
section
variable {g : Gh} {F : Fr} {ht : Toks} {w : World} {a : Act}
theorem env_get {t : Tmp} {x : SV} (h : F.env[t]? = some x) : F.get t = x := by simp [Fr.get, List.getD, h]
theorem env_getV {t : Tmp} {x : SV} (h : F.get t = x) (hx : x ≠ .v .undef none) : F.env[t]? = some x := by
  unfold Fr.get at h
  rw [List.getD_eq_getElem?_getD] at h
  cases hh : F.env[t]? with
  | none => rw [hh] at h; exact absurd h.symm hx
  | some y => rw [hh] at h; simp at h; rw [h]
def OpdR (g : Gh) (F : Fr) (ht : Toks) (w : World) (a : Act) (x : SV) (v : Value) : Prop := match x with
  | .v y k => g.VR w y v ∧ TkR g F.toks ht w k y v
  | .lp s o => ∀ cs, F.env[s]? = some (.box cs) → ∃ b, v = .pointer (some ⟨b, o, none⟩) ∧ a.tmps.getD s Go.undef = .pointer (some ⟨b, 0, none⟩)
  | .box _ => False
theorem opdR (h : FrR g F ht w a) (x : Operand) : OpdR g F ht w a (opd F x) (a.eval x) := by
  cases x with
  | const v => exact ⟨VR_ofVal v, trivial⟩
  | global i => exact ⟨.undef _, trivial⟩
  | func f => exact ⟨.fn f [] #[] rfl (fun i hi => by simp at hi), trivial⟩
  | tmp t =>
    unfold opd
    cases hx : F.env[t]? with
    | none => simp only [Fr.get, List.getD_eq_getElem?_getD, hx, Option.getD_none]; exact ⟨.undef _, trivial⟩
    | some x =>
      simp only [env_get hx]
      cases x with
      | v y k => exact h.vals t y k hx
      | lp s o => exact fun cs hcs => h.lps t s o cs hx hcs
      | box cs =>
        intro cs' hcs'
        obtain ⟨b, hb, _⟩ := h.boxes t cs hx
        exact ⟨b, hb, hb⟩
theorem opvR (h : FrR g F ht w a) (x : Operand) : g.VR w (opv F x) (a.eval x) := by
  have := opdR h x
  unfold opv
  cases hx : opd F x with
  | v y k => rw [hx] at this; exact this.1
  | lp s o => exact .undef _
  | box cs => exact .undef _
theorem getD_put (a : Act) (d t : Nat) (v : Value) (h : d < a.tmps.size) : (a.put (some d) v).tmps.getD t Go.undef = if t = d then v else a.tmps.getD t Go.undef := by
  simp only [Act.put, Array.getD_eq_getD_getElem?]
  by_cases e : t = d
  · subst e; simp [h]
  · rw [if_neg e, Array.getElem?_setIfInBounds_ne (fun h => e h.symm)]
theorem set_get {α : Type} (l : List α) (d t : Nat) (x : α) (h : d < l.length) : (l.set d x)[t]? = if t = d then some x else l[t]? := by
  by_cases e : t = d
  · subst e; simp [h]
  · rw [if_neg e, List.getElem?_set_ne (fun h => e h.symm)]
theorem FrR.put (h : FrR g F ht w a) (d : Option Tmp) (x : SV) (v : Value) (hx : OpdR g F ht w a x v) (hl : ∀ t, d = some t → ∀ s o, x = .lp s o → s ≠ t) :
    FrR g (F.put d x) ht w (a.put d v) := by
  cases d with
  | none => exact h
  | some d =>
    by_cases hd : d < F.env.length
    · have hd' : d < a.tmps.size := by rw [h.size]; exact hd
      have hne : ∀ cs, x ≠ .box cs := fun cs e => by subst e; exact hx
      refine ⟨?_, h.defers, ?_, ?_, ?_, h.toks, h.psi⟩
      · simp [Act.put, Fr.put, Fr.set, h.size]
      · intro t y k ht'
        simp only [Fr.put, Fr.set] at ht' ⊢
        rw [set_get _ _ _ _ hd] at ht'
        rw [getD_put _ _ _ _ hd']
        by_cases e : t = d
        · rw [if_pos e] at ht' ⊢; cases ht'; exact hx
        · rw [if_neg e] at ht' ⊢; exact h.vals t y k ht'
      · intro t cs ht'
        simp only [Fr.put, Fr.set] at ht' ⊢
        rw [set_get _ _ _ _ hd] at ht'
        rw [getD_put _ _ _ _ hd']
        by_cases e : t = d
        · rw [if_pos e] at ht'; cases ht'; exact absurd rfl (hne cs)
        · rw [if_neg e] at ht' ⊢; exact h.boxes t cs ht'
      · intro t s o cs ht' hs
        simp only [Fr.put, Fr.set] at ht' hs ⊢
        rw [set_get _ _ _ _ hd] at ht' hs
        rw [getD_put _ _ _ _ hd', getD_put _ _ _ _ hd']
        by_cases es : s = d
        · rw [if_pos es] at hs; cases hs; exact absurd rfl (hne cs)
        · rw [if_neg es] at hs ⊢
          by_cases e : t = d
          · rw [if_pos e] at ht' ⊢; cases ht'
            obtain ⟨b, hb, hb'⟩ := hx cs hs
            exact ⟨b, hb, hb'⟩
          · rw [if_neg e] at ht' ⊢; exact h.lps t s o cs ht' hs
    · have e1 : F.put (some d) x = F := by simp only [Fr.put, Fr.set]; rw [List.set_eq_of_length_le (Nat.not_lt.1 hd)]
      have e2 : a.put (some d) v = a := by
        simp only [Act.put]
        have hd' : a.tmps.size ≤ d := by rw [h.size]; exact Nat.not_lt.1 hd
        have : a.tmps.setIfInBounds d v = a.tmps := by simp [Array.setIfInBounds, Nat.not_lt.2 hd']
        rw [this]
      rw [e1, e2]; exact h
theorem FrR.putV (h : FrR g F ht w a) (d : Option Tmp) (x : PV) (k : Option Tk) (v : Value) (hx : g.VR w x v) (hk : TkR g F.toks ht w k x v) :
    FrR g (F.put d (.v x k)) ht w (a.put d v) := h.put d (.v x k) v ⟨hx, hk⟩ (fun _ _ _ _ e => by cases e)
end
end Go.Abs
namespace Go.Abs
section
variable {P : Program} {g : Gh} {F : Fr} {ht : Toks} {w : World} {a : Act}
def CellsAt (g : Gh) (ft ht : Toks) (w : World) (b o : Nat) (cs : List Cell) : Prop :=
  ∀ i c, cs[i]? = some c → ∃ v, w.cell? ⟨b, o + i, none⟩ = some v ∧ CellR g ft ht w c v
theorem BlockR.at {ft : Toks} {b : Nat} {cs : List Cell} (h : BlockR g ft ht w b cs) : CellsAt g ft ht w b 0 cs := by
  obtain ⟨arr, ty, hb, hs, hc⟩ := h
  intro i c hi
  have hlt : i < arr.size := by rw [hs]; exact (List.getElem?_eq_some_iff.1 hi).1
  refine ⟨arr.getD i Go.undef, ?_, hc i c hi⟩
  rw [cell_of_row w b (0 + i) arr ty (0, 0) hb]
  simp [hlt]
theorem CellsAt.part {ft : Toks} {b o off n : Nat} {cs cs' : List Cell} (h : CellsAt g ft ht w b o cs) (hp : Abs.part cs off n = some cs') :
    CellsAt g ft ht w b (o + off) cs' ∧ cs'.length = n := by
  unfold Abs.part at hp
  split at hp
  · rename_i hl
    cases hp
    refine ⟨fun i c hi => ?_, by simp; omega⟩
    rw [List.getElem?_take] at hi
    split at hi
    · rw [List.getElem?_drop] at hi
      obtain ⟨v, h1, h2⟩ := h _ _ hi
      exact ⟨v, by rw [Nat.add_assoc]; exact h1, h2⟩
    · cases hi
  · cases hp
theorem VR.ipAt {x : Option AAd} {cs : List PV} {v : Value} {ft : Toks} (h : g.VR w (.ip x cs) v) :
    ∃ b o, v = .pointer (some ⟨b, o, none⟩) ∧ AdR g.σ (g.plain w) x b o ∧ CellsAt g ft ht w b o (cs.map fun c => (c, none)) := by
  cases h with
  | ip a cs b o gv ha hc hv =>
    refine ⟨b, o, rfl, ha, fun i c hi => ?_⟩
    rw [List.getElem?_map] at hi
    obtain ⟨y, hy, rfl⟩ := Option.map_eq_some_iff.1 hi
    have hlt := (List.getElem?_eq_some_iff.1 hy).1
    obtain ⟨h1, h2, h3⟩ := hc i hlt
    refine ⟨_, h1, ?_, trivial, h3⟩
    have := hv i hlt
    rw [List.getD_eq_getElem?_getD, hy] at this
    exact this
theorem szOf_some {t : TypeId} {n : Nat} (h : szOf P t = some n) : ∃ d i, P.underlying t = some d ∧ P.info? t = some i ∧ i.size = n := by
  unfold szOf at h
  obtain ⟨d, hd, h⟩ := Option.bind_eq_some_iff.1 h
  obtain ⟨i, hi, h⟩ := Option.map_eq_some_iff.1 h
  exact ⟨d, i, hd, hi, h⟩
theorem load_at {ft : Toks} {t : TypeId} {n b o : Nat} {cs : List Cell} {x : SV} (hn : szOf P t = some n) (h : CellsAt g ft ht w b o cs) (hl : cs.length = n)
    (hx : aggV (aggOf P t) cs = some x) : ∃ v, (Instr.loadAt t (.pointer (some ⟨b, o, none⟩))).run P w = .ok v w ∧ ∃ y k, x = .v y k ∧ g.VR w y v ∧ TkR g ft ht w k y v := by
  obtain ⟨d, i, hd, hi, hs⟩ := szOf_some hn
  cases hagg : aggOf P t with
  | true =>
    rw [hagg] at hx
    simp only [aggV, if_true] at hx
    cases hx
    have hd' : d.isRow = true := by
      unfold aggOf at hagg
      rw [hd] at hagg
      cases d <;> simp_all
    have hex : ∃ vs : List Value, vs.length = n ∧ (w.rangeAt b o vs) ∧ ∀ (j : Nat) (c : Cell), cs[j]? = some c → ∃ v, vs[j]? = some v ∧ CellR g ft ht w c v := by
      refine ⟨(List.range n).map fun j => (w.cell? ⟨b, o + j, none⟩).getD Go.undef, by simp, ?_, ?_⟩
      · intro j v hj
        have hjn : j < n := by have := (List.getElem?_eq_some_iff.1 hj).1; simpa using this
        obtain ⟨v', hv', _⟩ := h j cs[j] (List.getElem?_eq_getElem (by omega))
        simp [hjn, hv'] at hj
        rw [hv', hj]
      · intro j c hj
        have hlt : j < n := by rw [← hl]; exact (List.getElem?_eq_some_iff.1 hj).1
        obtain ⟨v, hv, hc⟩ := h j c hj
        exact ⟨v, by simp [hlt, hv], hc⟩
    obtain ⟨vs, hvl, hr, hc⟩ := hex
    refine ⟨.agg vs.toArray, run_loadAt_mid w b o t vs d hr hd hd' (by simp [hi, hs, hvl]), _, _, rfl, ?_, trivial⟩
    have key : ∀ j, j < (cs.map (·.1)).length → g.VR w ((cs.map (·.1)).getD j .undef) (vs.toArray.getD j Go.undef) ∧ (vs.toArray.getD j Go.undef).oneCell' = true := by
      intro j hj
      simp only [List.length_map] at hj
      obtain ⟨v, hv, h1, _, h3⟩ := hc j cs[j] (List.getElem?_eq_getElem hj)
      simp [hj, hv, h1, h3]
    exact .agg _ _ (by simp [hl, hvl]) (fun j hj => (key j hj).2) (fun j hj => (key j hj).1)
  | false =>
    rw [hagg] at hx
    have hd' : d.isRow = false := by
      unfold aggOf at hagg
      rw [hd] at hagg
      cases d <;> simp_all
    match cs, hl, h, hx with
    | [c], hl, h, hx =>
      simp [aggV] at hx
      subst hx
      obtain ⟨v, hv, h1, h2, h3⟩ := h 0 c rfl
      refine ⟨v, ?_, _, _, rfl, h1, h2⟩
      have hagg' : (isAgg t).run P w = .ok false w := by
        unfold isAgg
        rw [Sem.run_bind, run_underlying hd w]
        cases d <;> simp_all
      simp only [Nat.add_zero] at hv
      simp [Instr.loadAt, Instr.sureAddr, loadVar, hagg', hv]
    | [], hl, h, hx => simp [aggV] at hx
    | _ :: _ :: _, hl, h, hx => simp [aggV] at hx
theorem ld_sound {S : St} {S? : Option St} (hS? : S? = none ∨ S? = some S) {t : TypeId} {n : Nat} {p x : SV} {v : Value} (hF : FrR g F S.htoks w a) (hS : StR g S w)
    (hp : OpdR g F S.htoks w a p v) (hn : szOf P t = some n) (h : ld S? F (aggOf P t) n p = some x) :
    ∃ r, (Instr.loadAt t v).run P w = .ok r w ∧ ∃ y k, x = .v y k ∧ g.VR w y r ∧ TkR g F.toks S.htoks w k y r := by
  cases p with
  | box cs => cases hp
  | lp s o =>
    simp only [ld] at h
    cases hb : F.get s with
    | v y k => rw [hb] at h; cases h
    | lp s' o' => rw [hb] at h; cases h
    | box cs =>
      rw [hb] at h
      have hb' := env_getV hb (by simp)
      obtain ⟨b, rfl, hs⟩ := hp cs hb'
      obtain ⟨b', h1, _, _, hB⟩ := hF.boxes s cs hb'
      rw [hs] at h1; cases h1
      obtain ⟨cs', hcs, h⟩ := Option.bind_eq_some_iff.1 h
      obtain ⟨hA, hl⟩ := hB.at.part hcs
      rw [Nat.zero_add] at hA
      exact load_at hn hA hl h
  | v y k =>
    obtain ⟨hy, _⟩ := hp
    cases y with
    | ip x' cs =>
      simp only [ld] at h
      obtain ⟨b, o, rfl, _, hA⟩ := VR.ipAt (ht := S.htoks) (ft := F.toks) hy
      obtain ⟨cs', hcs, h⟩ := Option.bind_eq_some_iff.1 h
      obtain ⟨hA, hl⟩ := hA.part hcs
      exact load_at hn hA hl h
    | ref id off =>
      simp only [ld] at h
      obtain ⟨S', hS', h⟩ := Option.bind_eq_some_iff.1 h
      rcases hS? with e | e
      · rw [e] at hS'; cases hS'
      · rw [e] at hS'; cases hS'
        cases hob : S.objs[id]? with
        | none => rw [hob] at h; cases h
        | some ob =>
          rw [hob] at h
          cases ob with
          | map es => cases h
          | dead => cases h
          | blk => cases h
          | bld _ _ _ => cases h
          | cells cs =>
            obtain ⟨⟨b, hσ, _, _, arr, ty, hb, hs, hc⟩, _⟩ := hS.cells id cs hob
            cases hy with
            | ref id off b' hb' =>
              rw [hσ] at hb'; cases hb'
              obtain ⟨cs', hcs, h⟩ := Option.bind_eq_some_iff.1 h
              have hB : BlockR g F.toks S.htoks w b cs := ⟨arr, ty, hb, hs, fun i c hi => by
                have hnl := (hS.cells id cs hob).2 c (List.mem_of_getElem? hi)
                obtain ⟨h1, h2, h3⟩ := hc i c hi
                refine ⟨h1, ?_, h3⟩
                obtain ⟨c1, c2⟩ := c
                cases c2 with
                | none => trivial
                | some k => cases k with
                  | full => exact h2
                  | loc t => cases hnl
                  | hp t => exact h2⟩
              obtain ⟨hA, hl⟩ := hB.at.part hcs
              rw [Nat.zero_add] at hA
              exact load_at hn hA hl h
    | _ => simp only [ld] at h; cases h
end
end Go.Abs
namespace Go.Abs
section
variable {P : Program} {g : Gh} {F : Fr} {ht : Toks} {w : World} {a : Act}
theorem pureOf_some {s : Sem Value} {v : Value} (h : pureOf s = some v) : s.run P w = .ok v w := by
  unfold pureOf at h
  split at h
  · cases h; rfl
  · cases h
theorem VR.int' {k : IntKind} {n : Int} {v : Value} (h : g.VR w (.int k n) v) : v = .int k n := by cases h; rfl
theorem VR.bool' {b : Bool} {v : Value} (h : g.VR w (.bool b) v) : v = .bool b := by cases h; rfl
theorem VR.str' {s : ByteArray} {v : Value} (h : g.VR w (.str s) v) : v = .string s := by cases h; rfl
theorem asInt_some {x : PV} {n : Int} (h : asInt x = some n) : ∃ k, x = .int k n := by unfold asInt at h; split at h <;> simp_all
theorem asBool_some {x : PV} {b : Bool} (h : asBool x = some b) : x = .bool b := by unfold asBool at h; split at h <;> simp_all
theorem isBoolT_some {t : TypeId} (h : isBoolT P t = true) : P.underlying t = some .bool := by
  unfold isBoolT at h; split at h <;> simp_all
theorem sizeOf_run {t : TypeId} {n : Nat} (h : szOf P t = some n) : (sizeOf t).run P w = .ok n w := by
  obtain ⟨d, i, hd, hi, hs⟩ := szOf_some h
  simp [sizeOf, typeInfo, hi, hs]
theorem plain_frozen {b o : Nat} (h : ∃ arr ty, w.heap[b]? = some (.cells arr ty (0, 0))) : w.frozen? ⟨b, o, none⟩ = false := by
  obtain ⟨arr, ty, hb⟩ := h
  simp [World.frozen?, hb]
theorem sameAddr_run {x y : Addr} (hx : ∃ arr ty, w.heap[x.block]? = some (.cells arr ty (0, 0))) (hy : ∃ arr ty, w.heap[y.block]? = some (.cells arr ty (0, 0))) :
    (sameAddr x y).run P w = .ok (decide (x = y)) w := by
  unfold sameAddr
  by_cases h : x.block = y.block
  · simp [h]
    rfl
  · obtain ⟨arr, ty, hx⟩ := hx
    obtain ⟨arr', ty', hy⟩ := hy
    have hne : x ≠ y := fun e => h (by rw [e])
    have f1 : ∀ o s, w.frozen? ⟨x.block, o, s⟩ = false := fun o s => by simp [World.frozen?, hx]
    have f2 : ∀ o s, w.frozen? ⟨y.block, o, s⟩ = false := fun o s => by simp [World.frozen?, hy]
    have f1' : w.frozen? x = false := by simp [World.frozen?, hx]
    have f2' : w.frozen? y = false := by simp [World.frozen?, hy]
    simp [h, hne, f1', f2', noView, viewAt, World.shape?, hx, hy, mayBeOne, stringish, f1, f2]
theorem sameAddr_apart {x y : Addr} (hx : ∃ arr ty fr, w.heap[x.block]? = some (.cells arr ty fr) ∧ 0 < arr.size) (hy : ∃ arr ty, w.heap[y.block]? = some (.cells arr ty (0, 0))) (hne : x.block ≠ y.block) :
    (sameAddr x y).run P w = .ok false w ∧ (sameAddr y x).run P w = .ok false w := by
  obtain ⟨arr, ty, fr, hx, hpos⟩ := hx
  obtain ⟨arr', ty', hy⟩ := hy
  have f2 : ∀ o s, w.frozen? ⟨y.block, o, s⟩ = false := fun o s => by simp [World.frozen?, hy]
  have f2' : w.frozen? y = false := by simp [World.frozen?, hy]
  have hne' : y.block ≠ x.block := fun e => hne e.symm
  have hz : ¬ arr.size = 0 := by omega
  unfold sameAddr
  constructor
  · simp [hne, f2', noView, viewAt, World.shape?, hx, hy, mayBeOne, stringish, f2, hz]
  · simp [hne', f2', noView, viewAt, World.shape?, hx, hy, mayBeOne, stringish, f2, hz]
theorem samePtr_sound {S : St} {x y : PV} {v u : Value} {b : Bool} {t e : TypeId} {n d : Nat} (hS : StR g S w) (hu : P.underlying t = some (.pointer e)) (hn : szOf P e = some n) (h0 : n ≠ 0)
    (hx : g.VR w x v) (hy : g.VR w y u) (h : samePtrS S x y = some b) : (Op.equalIn (d + 1) t v u).run P w = .ok b w := by
  have run : ∀ (p q : Addr), (sameAddr p q).run P w = .ok b w → (Op.equalIn (d + 1) t (.pointer (some p)) (.pointer (some q))).run P w = .ok b w := by
    intro p q hr
    rw [Op.equalIn, Sem.run_bind, run_underlying hu w]
    simp only [Result.andThen_ok, Sem.run_bind, sizeOf_run hn]
    simp [h0, hr]
  have key : ∀ (p q : Addr), (∃ arr ty, w.heap[p.block]? = some (.cells arr ty (0, 0))) → (∃ arr ty, w.heap[q.block]? = some (.cells arr ty (0, 0))) → b = decide (p = q) →
      (Op.equalIn (d + 1) t (.pointer (some p)) (.pointer (some q))).run P w = .ok b w := by
    intro p q hp hq hb
    exact run p q (by rw [sameAddr_run hp hq, hb])
  have self : ∀ (p q : Addr), p.block = q.block → b = decide (p = q) → (Op.equalIn (d + 1) t (.pointer (some p)) (.pointer (some q))).run P w = .ok b w := by
    intro p q hpq hb
    refine run p q ?_
    simp [sameAddr, hpq, hb]
    rfl
  have cell : ∀ id bk, isCells S id = true → g.σ[id]? = some bk → g.O bk = some (.obj id) ∧ g.M bk = 0 ∧ ∃ arr ty, w.heap[bk]? = some (.cells arr ty (0, 0)) := by
    intro id bk hc hb
    unfold isCells at hc
    split at hc
    · rename_i cs hcs
      obtain ⟨⟨b', h1, h2, h4, arr, ty, h3, _⟩, _⟩ := hS.cells id cs hcs
      rw [h1] at hb; cases hb
      exact ⟨h2, h4, arr, ty, h3⟩
    · cases hc
  have blk : ∀ id, isBlk S id = true → S.objs[id]? = some Ob.blk := by
    intro id hc
    unfold isBlk at hc
    split at hc
    · assumption
    · cases hc
  have apart : ∀ (a : Option AAd) (c : PV) (cs : List PV) (bk o : Nat) (gv : Nat → Value) (j bk' : Nat), (∀ i, i < (c :: cs).length → w.cell? ⟨bk, o + i, none⟩ = some (gv i) ∧ g.imm bk (o + i) ∧ (gv i).oneCell' = true) → isCells S j = true → g.σ[j]? = some bk' →
      bk ≠ bk' ∧ (∃ arr ty fr, w.heap[bk]? = some (.cells arr ty fr) ∧ 0 < arr.size) ∧ ∃ arr ty, w.heap[bk']? = some (.cells arr ty (0, 0)) := by
    intro a c cs bk o gv j bk' hc hj hb'
    obtain ⟨ho, hm, hh⟩ := cell j bk' hj hb'
    obtain ⟨h1, h2, _⟩ := hc 0 (by simp)
    refine ⟨fun e => ?_, ?_, hh⟩
    · subst e
      rcases h2 with h2 | h2
      · rw [h2] at ho; cases ho
      · omega
    · unfold World.cell? at h1
      simp only at h1
      split at h1
      · rename_i arr ty fr hb
        refine ⟨arr, ty, fr, hb, ?_⟩
        have := (Array.getElem?_eq_some_iff.1 h1).1
        omega
      · cases h1
  cases hx with
  | ip a cs bk o gv ha hc hv =>
    cases hy with
    | ip a' cs' bk' o' gv' ha' hc' hv' =>
      rcases ha with rfl | ⟨rfl, hp⟩ | ⟨i, rfl, hi⟩
      · simp [samePtrS, samePtr] at h
      · rcases ha' with rfl | ⟨rfl, hp'⟩ | ⟨j, rfl, hj⟩
        · simp [samePtrS, samePtr] at h
        · simp only [samePtrS, samePtr, Option.some.injEq] at h
          exact key _ _ hp.2 hp'.2 h.symm
        · simp [samePtrS, samePtr] at h
      · rcases ha' with rfl | ⟨rfl, hp'⟩ | ⟨j, rfl, hj⟩
        · simp [samePtrS, samePtr] at h
        · simp [samePtrS, samePtr] at h
        · simp only [samePtrS] at h
          split at h
          · rename_i e
            subst e
            rw [hi] at hj; cases hj
            cases h
            exact self _ _ rfl (by simp)
          · rename_i e
            split at h
            · rename_i hb
              simp only [Bool.and_eq_true] at hb
              have h1 := blk _ hb.1
              have h2 := blk _ hb.2
              obtain ⟨b1, q1, _, q3⟩ := hS.blks _ h1
              obtain ⟨b2, r1, _, r3⟩ := hS.blks _ h2
              rw [hi] at q1; cases q1
              rw [hj] at r1; cases r1
              cases h
              refine key _ _ q3 r3 (Eq.symm (decide_eq_false fun e' => ?_))
              have hbk : bk = bk' := congrArg Addr.block e'
              subst hbk
              exact e (hS.binj _ _ _ h1 h2 hi hj)
            · cases h
    | ref j p bk' hb' =>
      cases cs with
      | nil => rcases ha with rfl | ⟨rfl, hp⟩ | ⟨i, rfl, hi⟩ <;> simp [samePtrS, samePtr] at h
      | cons c cs =>
        simp only [samePtrS] at h
        split at h
        · rename_i hj
          obtain ⟨hne, h1, h2⟩ := apart a c cs bk o gv j bk' hc hj hb'
          cases h
          exact run _ _ (sameAddr_apart (x := ⟨bk, o, none⟩) (y := ⟨bk', p, none⟩) h1 h2 hne).1
        · cases h
    | _ => rcases ha with rfl | ⟨rfl, hp⟩ | ⟨i, rfl, hi⟩ <;> simp [samePtrS, samePtr] at h
  | ref i p bk hb =>
    cases hy with
    | ip a' cs' bk' o' gv' ha' hc' hv' =>
      cases cs' with
      | nil => rcases ha' with rfl | ⟨rfl, hp⟩ | ⟨j, rfl, hj⟩ <;> simp [samePtrS, samePtr] at h
      | cons c cs =>
        simp only [samePtrS] at h
        split at h
        · rename_i hj
          obtain ⟨hne, h1, h2⟩ := apart a' c cs bk' o' gv' i bk hc' hj hb
          cases h
          exact run _ _ (sameAddr_apart (x := ⟨bk', o', none⟩) (y := ⟨bk, p, none⟩) h1 h2 hne).2
        · cases h
    | ref j q bk' hb' =>
      simp only [samePtrS] at h
      split at h
      · rename_i e
        subst e
        rw [hb] at hb'; cases hb'
        cases h
        exact self _ _ rfl (by simp)
      · rename_i e
        split at h
        · rename_i hc
          simp only [Bool.and_eq_true] at hc
          obtain ⟨ho, _, hh⟩ := cell i bk hc.1 hb
          obtain ⟨ho', _, hh'⟩ := cell j bk' hc.2 hb'
          cases h
          refine key _ _ hh hh' (Eq.symm (decide_eq_false fun e' => ?_))
          have hbk : bk = bk' := congrArg Addr.block e'
          subst hbk
          rw [ho] at ho'; cases ho'
          exact e rfl
        · cases h
    | _ => simp [samePtrS, samePtr] at h
  | _ => cases hy <;> simp [samePtrS, samePtr] at h
theorem samePtr_S {S : St} {x y : PV} {b : Bool} (h : samePtr x y = some b) : samePtrS S x y = some b := by
  unfold samePtr at h
  split at h
  · simpa [samePtrS, samePtr] using h
  · split at h
    · rename_i e; simp only [samePtrS, if_pos e]; exact h
    · cases h
  · cases h
theorem famT_cases (P : Program) (t : TypeId) : famT P t = 0 ∨ (famT P t = 1 ∧ ∃ e n, P.underlying t = some (.pointer e) ∧ szOf P e = some n ∧ n ≠ 0) ∨ (famT P t = 2 ∧ ∃ e, P.underlying t = some (.slice e)) ∨
    (famT P t = 3 ∧ ∃ k e, P.underlying t = some (.map k e)) ∨ (famT P t = 4 ∧ ∃ p r v, P.underlying t = some (.func p r v)) := by
  unfold famT
  split
  · rename_i e hu
    split
    · rename_i n hn
      split
      · exact .inl rfl
      · rename_i h0; exact .inr (.inl ⟨rfl, e, n, hu, hn, h0⟩)
    · exact .inl rfl
  · rename_i e hu; exact .inr (.inr (.inl ⟨rfl, e, hu⟩))
  · rename_i k e hu; exact .inr (.inr (.inr (.inl ⟨rfl, k, e, hu⟩)))
  · rename_i p r v hu; exact .inr (.inr (.inr (.inr ⟨rfl, p, r, v, hu⟩)))
  · exact .inl rfl
theorem refEq_sound {S : St} {x y : PV} {v u : Value} {b : Bool} {t : TypeId} (hS : StR g S w) (hx : g.VR w x v) (hy : g.VR w y u) (h : refEq P t x y = some b) :
    (Op.equal t v u).run P w = .ok b w := by
  unfold refEq at h
  obtain ⟨c, hc, h⟩ := Option.bind_eq_some_iff.1 h
  have hc := chk_some hc
  simp only [Bool.and_eq_true, beq_iff_eq] at hc
  obtain ⟨h1, h2⟩ := hc
  rcases famT_cases P t with hk | ⟨hk, e, n, hu, hn, h0⟩ | ⟨hk, e, hu⟩ | ⟨hk, e, e', hu⟩ | ⟨hk, e, e', e'', hu⟩ <;> rw [hk] at h1 h2 h
  · exfalso; cases x <;> simp [fam] at h1
  · by_cases hnil : (isNil x || isNil y) = true
    · rw [if_pos hnil] at h
      cases h
      unfold Op.equal Op.maxDepth
      rw [Op.equalIn, Sem.run_bind, run_underlying hu w]
      cases hx <;> simp [fam] at h1 <;> cases hy <;> simp [fam] at h2 <;> simp [isNil] at hnil <;> simp [isNil]
    · rw [if_neg hnil, if_pos rfl] at h
      exact samePtr_sound (d := 9999) hS hu hn h0 hx hy (samePtr_S h)
  all_goals
    by_cases hnil : (isNil x || isNil y) = true
    · rw [if_pos hnil] at h
      cases h
      unfold Op.equal Op.maxDepth
      rw [Op.equalIn, Sem.run_bind, run_underlying hu w]
      cases hx <;> simp [fam] at h1 <;> cases hy <;> simp [fam] at h2 <;> simp [isNil] at hnil <;> simp [isNil]
    · rw [if_neg hnil] at h; simp at h
theorem famT_ne (P : Program) (t : TypeId) : famT P t ≠ 5 := by
  rcases famT_cases P t with hk | ⟨hk, _⟩ | ⟨hk, _⟩ | ⟨hk, _⟩ | ⟨hk, _⟩ <;> rw [hk] <;> simp
theorem binB_sound {S : St} {op : BinOp} {t : TypeId} {x y z : PV} {xo yo : Operand} {v u : Value} (hS : StR g S w) (hx : g.VR w x v) (hy : g.VR w y u) (h : binB P op t x y = some z) :
    ∃ r, (do eqGuard op t xo yo v u; binOp op t v u : Sem Value).run P w = .ok r w ∧ g.VR w z r := by
  have eqr : ∀ b, refEq P t x y = some b → (op = .eql ∧ z = .bool b ∨ op = .neq ∧ z = .bool (!b)) →
      ∃ r, (do eqGuard op t xo yo v u; binOp op t v u : Sem Value).run P w = .ok r w ∧ g.VR w z r := by
    intro b hb hop
    have he := refEq_sound hS hx hy hb
    unfold refEq at hb
    obtain ⟨c, hc, _⟩ := Option.bind_eq_some_iff.1 hb
    have hc := chk_some hc
    simp only [Bool.and_eq_true, beq_iff_eq] at hc
    have hfx : fam x ≠ 5 := by rw [hc.1]; exact famT_ne P t
    have hfy : fam y ≠ 5 := by rw [hc.2]; exact famT_ne P t
    refine ⟨.bool (if op = .eql then b else !b), ?_, ?_⟩
    · have hb1 : ∀ o, (o = .eql ∨ o = .neq) → (eqGuard o t xo yo v u).run P w = .ok () w := by
        intro o ho
        clear hS hb hc he
        cases hx <;> simp only [fam, ne_eq, not_true_eq_false] at hfx <;> cases hy <;> simp only [fam, ne_eq, not_true_eq_false] at hfy <;> rcases ho with rfl | rfl <;> rfl
      have hb2 : binOp .eql t v u = (do pure (.bool (← Op.equal t v u)) : Sem Value) := by
        clear hS hb hc he
        cases hx <;> simp only [fam, ne_eq, not_true_eq_false] at hfx <;> cases hy <;> simp only [fam, ne_eq, not_true_eq_false] at hfy <;> rfl
      have hb3 : binOp .neq t v u = (do pure (.bool (!(← Op.equal t v u))) : Sem Value) := by
        clear hS hb hc he
        cases hx <;> simp only [fam, ne_eq, not_true_eq_false] at hfx <;> cases hy <;> simp only [fam, ne_eq, not_true_eq_false] at hfy <;> rfl
      rcases hop with ⟨rfl, rfl⟩ | ⟨rfl, rfl⟩
      · rw [Sem.run_bind, hb1 _ (.inl rfl), Result.andThen_ok, hb2, Sem.run_bind, he]; rfl
      · rw [Sem.run_bind, hb1 _ (.inr rfl), Result.andThen_ok, hb3, Sem.run_bind, he]; rfl
    · rcases hop with ⟨rfl, rfl⟩ | ⟨rfl, rfl⟩ <;> exact .bool _
  unfold binB at h
  split at h
  · rename_i a b
    obtain ⟨c, hc, rfl⟩ := Option.map_eq_some_iff.1 h
    have hu := isBoolT_some (chk_some hc)
    cases hx; cases hy
    refine ⟨_, ?_, .bool _⟩
    have he : (Op.equal t (.bool a) (.bool b)).run P w = .ok (a == b) w := by
      unfold Op.equal Op.maxDepth
      rw [Op.equalIn, Sem.run_bind, run_underlying hu w]
      rfl
    rw [Sem.run_bind, show (eqGuard .eql t xo yo (.bool a) (.bool b)).run P w = .ok () w from rfl, Result.andThen_ok,
      show binOp .eql t (.bool a) (.bool b) = (do pure (.bool (← Op.equal t (.bool a) (.bool b))) : Sem Value) from rfl, Sem.run_bind, he]; rfl
  · rename_i a b
    obtain ⟨c, hc, rfl⟩ := Option.map_eq_some_iff.1 h
    have hu := isBoolT_some (chk_some hc)
    cases hx; cases hy
    refine ⟨_, ?_, .bool _⟩
    have he : (Op.equal t (.bool a) (.bool b)).run P w = .ok (a == b) w := by
      unfold Op.equal Op.maxDepth
      rw [Op.equalIn, Sem.run_bind, run_underlying hu w]
      rfl
    rw [Sem.run_bind, show (eqGuard .neq t xo yo (.bool a) (.bool b)).run P w = .ok () w from rfl, Result.andThen_ok,
      show binOp .neq t (.bool a) (.bool b) = (do pure (.bool (!(← Op.equal t (.bool a) (.bool b)))) : Sem Value) from rfl, Sem.run_bind, he]; rfl
  · rename_i j a k b
    obtain ⟨r, hr, rfl⟩ := Option.map_eq_some_iff.1 h
    cases hx; cases hy
    refine ⟨r, ?_, VR_ofVal0 r⟩
    have := pureOf_some (P := P) (w := w) hr
    rw [Sem.run_bind]
    have hg : (eqGuard op t xo yo (.int j a) (.int k b)).run P w = .ok () w := by
      unfold eqGuard
      cases op <;> rfl
    rw [hg]; exact this
  · rename_i a b
    obtain ⟨r, hr, rfl⟩ := Option.map_eq_some_iff.1 h
    cases hx; cases hy
    refine ⟨r, ?_, VR_ofVal0 r⟩
    have := pureOf_some (P := P) (w := w) hr
    rw [Sem.run_bind]
    have hg : (eqGuard op t xo yo (.string a) (.string b)).run P w = .ok () w := by
      unfold eqGuard
      cases op <;> rfl
    rw [hg]
    have e : binOp op t (.string a) (.string b) = Op.stringOp op a b := by cases op <;> rfl
    rw [Result.andThen_ok, e]; exact this
  · obtain ⟨b, hb, rfl⟩ := Option.map_eq_some_iff.1 h
    exact eqr b hb (.inl ⟨rfl, rfl⟩)
  · obtain ⟨b, hb, rfl⟩ := Option.map_eq_some_iff.1 h
    exact eqr b hb (.inr ⟨rfl, rfl⟩)
  · cases h
theorem toScalar_some {x : PV} {v u : Value} (hx : g.VR w x v) (h : toScalar x = some u) : v = u := by
  cases hx <;> simp [toScalar] at h <;> exact h
theorem unA_sound {op : UnOp} {x z : PV} {v : Value} (hx : g.VR w x v) (h : unA op x = some z) : ∃ r, (Op.unary op v).run P w = .ok r w ∧ g.VR w z r := by
  unfold unA at h
  split at h
  · rename_i u hu
    obtain ⟨r, hr, rfl⟩ := Option.map_eq_some_iff.1 h
    rw [toScalar_some hx hu]
    exact ⟨r, pureOf_some hr, VR_ofVal0 r⟩
  · cases h
theorem convA_sound {s d : TypeId} {x z : PV} {v : Value} (hx : g.VR w x v) (h : convA P s d x = some z) : ∃ r, (convert s d v).run P w = .ok r w ∧ g.VR w z r := by
  unfold convA at h
  split at h
  · rename_i h1 h2
    cases h; cases hx
    refine ⟨_, ?_, .int _ _⟩
    simp [convert, run_underlying h1, run_underlying h2, Conv.intToInt]
  · rename_i h1 h2
    cases h; cases hx
    refine ⟨_, ?_, .str _⟩
    simp [convert, run_underlying h1, run_underlying h2]
  · cases h
theorem fieldOf_some {t : TypeId} {i off n : Nat} {agg : Bool} (h : fieldOf P t i = some (off, n, agg)) :
    ∃ fs f, P.underlying t = some (.struct fs) ∧ fs[i]? = some f ∧ f.offset = off ∧ szOf P f.type = some n ∧ aggOf P f.type = agg := by
  unfold fieldOf at h
  split at h
  · rename_i fs hu
    obtain ⟨f, hf, h⟩ := Option.bind_eq_some_iff.1 h
    obtain ⟨n', hn, h⟩ := Option.map_eq_some_iff.1 h
    cases h
    exact ⟨fs, f, hu, hf, rfl, hn, rfl⟩
  · cases h
theorem elemOf_some {t : TypeId} {sz by' : Nat} {agg : Bool} (h : Abs.elemOf P t = some (sz, by', agg)) :
    ∃ e i, P.underlying t = some (.slice e) ∧ P.info? e = some i ∧ i.size = sz ∧ i.bytes = by' ∧ aggOf P e = agg := by
  unfold Abs.elemOf at h
  split at h
  · rename_i e hu
    obtain ⟨i, hi, h⟩ := Option.map_eq_some_iff.1 h
    cases h
    exact ⟨e, i, hu, hi, rfl, rfl, rfl⟩
  · cases h
theorem isBox_some {t : Tmp} (h : isBox F t = true) : ∃ cs, F.env[t]? = some (.box cs) := by
  unfold isBox at h
  split at h
  · rename_i cs hcs; exact ⟨cs, env_getV hcs (by simp)⟩
  · cases h
theorem nilc_sound {p x : SV} {v : Value} {o : Oper} {y : Operand} (ho : o.op = .nilCheck y) (hv : a.eval y = v) (hp : OpdR g F ht w a p v) (h : nilc F p = some x) :
    (execOp a.eval o).run P w = .ok (.value v) w ∧ OpdR g F ht w a x v := by
  have hrun : (∃ ad, v = .pointer (some ad)) ∨ (∃ f vs, v = .func (.func f) #[] vs) → (execOp a.eval o).run P w = .ok (.value v) w := by
    intro hh
    unfold execOp
    rw [ho]
    simp only [hv]
    rcases hh with ⟨ad, rfl⟩ | ⟨f, vs, rfl⟩ <;> rfl
  cases p with
  | box cs => cases hp
  | lp s o' =>
    simp only [nilc] at h
    obtain ⟨c, hc, rfl⟩ := Option.map_eq_some_iff.1 h
    obtain ⟨cs, hcs⟩ := isBox_some (chk_some hc)
    obtain ⟨b, hb, hs⟩ := hp cs hcs
    exact ⟨hrun (.inl ⟨_, hb⟩), fun cs' _ => ⟨b, hb, hs⟩⟩
  | v z k =>
    obtain ⟨hy, _⟩ := hp
    have hy' := hy
    cases z <;> simp [nilc] at h <;> subst h <;> cases hy <;> exact ⟨hrun (by simp), hy', trivial⟩
theorem fadr_sound {t : TypeId} {i off n : Nat} {agg : Bool} {p x : SV} {v : Value} (hp : OpdR g F ht w a p v) (hf : fieldOf P t i = some (off, n, agg)) (h0 : n ≠ 0) (h : fadr F off p = some x) :
    ∃ r, (Instr.fieldAt t v i).run P w = .ok r w ∧ OpdR g F ht w a x r := by
  obtain ⟨fs, f, hu, hfi, ho, hn, _⟩ := fieldOf_some hf
  have hrun : ∀ b o, (Instr.fieldAt t (.pointer (some ⟨b, o, none⟩)) i).run P w = .ok (.pointer (some ⟨b, o + off, none⟩)) w := by
    intro b o
    simp [Instr.fieldAt, run_underlying hu, hfi, Instr.sureAddr, fieldPlace, sizeOf_run hn, h0, addr_add, ho]
  cases p with
  | box cs => cases hp
  | lp s o =>
    simp only [fadr] at h
    obtain ⟨c, hc, rfl⟩ := Option.map_eq_some_iff.1 h
    obtain ⟨cs, hcs⟩ := isBox_some (chk_some hc)
    obtain ⟨b, rfl, hs⟩ := hp cs hcs
    exact ⟨_, hrun b o, fun cs' _ => ⟨b, rfl, hs⟩⟩
  | v y k =>
    obtain ⟨hy, _⟩ := hp
    cases y with
    | ip x' cs =>
      simp only [fadr, Option.some.injEq] at h
      subst h
      cases hy with
      | ip a' cs b o gv ha hc hv =>
        refine ⟨_, hrun b o, ?_, trivial⟩
        refine .ip _ _ b (o + off) (fun j => gv (off + j)) ?_ (fun j hj => ?_) (fun j hj => ?_)
        · exact ha.add off
        · simp only [List.length_drop] at hj
          have := hc (off + j) (by omega)
          rw [Nat.add_assoc]; exact this
        · simp only [List.length_drop] at hj
          have := hv (off + j) (by omega)
          simpa [List.getD_eq_getElem?_getD, List.getElem?_drop] using this
    | ref id o =>
      simp only [fadr, Option.some.injEq] at h
      subst h
      cases hy with
      | ref id o b hb => exact ⟨_, hrun b o, .ref _ _ b hb, trivial⟩
    | _ => simp [fadr] at h
end
end Go.Abs
namespace Go.Abs
section
variable {P : Program} {g : Gh} {F : Fr} {ht : Toks} {w : World} {a : Act}
theorem iadr_sound {t : TypeId} {sz by' : Nat} {agg : Bool} {x z : PV} {k : IntKind} {i : Int} {v : Value} (hx : g.VR w x v) (he : Abs.elemOf P t = some (sz, by', agg)) (h : iadr sz x i = some z) :
    ∃ r, (Instr.indexAt t v (.int k i)).run P w = .ok r w ∧ g.VR w z r := by
  obtain ⟨e, inf, hu, hi, hs, _, _⟩ := elemOf_some he
  have hrun : ∀ (b o : Nat) (len cap : Nat), 0 ≤ i → i < len → (Instr.indexAt t (.slice (some ⟨b, o, none⟩) len cap) (.int k i)).run P w = .ok (.pointer (some ⟨b, o + i.toNat * sz, none⟩)) w := by
    intro b o len cap h0 h1
    simp [Instr.indexAt, asIntOf, run_underlying hu, h0, h1, Go.sizeOf, typeInfo, hi, hs, addr_add]
  cases hx with
  | sl a' sz' es b o cap gv hsz ha hcap hl hc hv =>
    simp only [iadr] at h
    obtain ⟨c, hcc, rfl⟩ := Option.map_eq_some_iff.1 h
    have hcc := chk_some hcc
    simp only [Bool.and_eq_true, beq_iff_eq, decide_eq_true_eq] at hcc
    obtain ⟨⟨rfl, h0⟩, h1⟩ := hcc
    have hin : i.toNat < es.length := by omega
    refine ⟨_, hrun b o es.length cap h0 h1, ?_⟩
    have hle : (i.toNat + 1) * sz' ≤ es.length * sz' := Nat.mul_le_mul_right _ hin
    have hle' : i.toNat * sz' + sz' ≤ es.length * sz' := by rw [Nat.add_mul, Nat.one_mul] at hle; exact hle
    refine .ip _ _ b (o + i.toNat * sz') (fun j => gv (i.toNat * sz' + j)) ?_ (fun j hj => ?_) (fun j hj => ?_)
    · exact ha.add _
    · rw [proj_length] at hj
      have := hc (i.toNat * sz' + j) (by omega)
      rw [Nat.add_assoc]; exact this
    · rw [proj_length] at hj
      have := hv i.toNat j hin hj
      rw [List.getD_eq_getElem?_getD, proj_get _ _ _ hj]
      exact this
  | sl0 sz' p hsz =>
    simp only [iadr] at h
    obtain ⟨c, hcc, rfl⟩ := Option.map_eq_some_iff.1 h
    have hcc := chk_some hcc
    simp only [Bool.and_eq_true, beq_iff_eq, decide_eq_true_eq] at hcc
    obtain ⟨⟨_, h0⟩, h1⟩ := hcc
    simp at h1
    omega
  | ar id sz' off len b cap hb hc =>
    simp only [iadr] at h
    obtain ⟨c, hcc, rfl⟩ := Option.map_eq_some_iff.1 h
    have hcc := chk_some hcc
    simp only [Bool.and_eq_true, beq_iff_eq, decide_eq_true_eq] at hcc
    obtain ⟨⟨rfl, h0⟩, h1⟩ := hcc
    refine ⟨_, hrun b (off * sz') len cap h0 h1, ?_⟩
    rw [← Nat.add_mul]
    exact .ref id _ b hb
  | _ => simp [iadr] at h
theorem isStr_some {t : TypeId} (h : isStr P t = true) : P.underlying t = some .string := by unfold isStr at h; split at h <;> simp_all
theorem isSlice_some {t : TypeId} (h : isSlice P t = true) : ∃ e, P.underlying t = some (.slice e) := by unfold isSlice at h; split at h <;> simp_all
theorem mapOf_some {t k e : TypeId} (h : mapOf P t = some (k, e)) : P.underlying t = some (.map k e) ∧ keyT P k = true := by
  unfold mapOf at h
  split at h
  · rename_i k' e' hu
    obtain ⟨c, hc, h⟩ := Option.map_eq_some_iff.1 h
    cases h
    exact ⟨hu, chk_some hc⟩
  · cases h
theorem idx_sound {t : TypeId} {x z : PV} {k : IntKind} {i : Int} {v : Value} (hx : g.VR w x v) (hs : isStr P t = true) (h : idx x i = some z) :
    ∃ r, (Instr.index t v (.int k i)).run P w = .ok r w ∧ g.VR w z r := by
  have hu := isStr_some hs
  cases hx with
  | str s =>
    simp only [idx] at h
    obtain ⟨c, hcc, rfl⟩ := Option.map_eq_some_iff.1 h
    have hcc := chk_some hcc
    simp only [Bool.and_eq_true, decide_eq_true_eq] at hcc
    obtain ⟨h0, h1⟩ := hcc
    have hin : i.toNat < s.size := by omega
    refine ⟨.int .u8 (s[i.toNat]).toNat, ?_, ?_⟩
    · have : s[i.toNat]? = some s[i.toNat] := by simp [hin]
      simp [Instr.index, asIntOf, run_underlying hu, h0, this]
    · have : byteAt s i.toNat = (s[i.toNat]).toNat := by
        unfold byteAt
        have : i.toNat < s.data.size := hin
        rw [Array.getD_eq_getD_getElem?, Array.getElem?_eq_getElem this, Option.getD_some]
        rfl
      rw [this]
      exact .int _ _
  | _ => simp [idx] at h
def BdR (g : Gh) (w : World) (x : Option Int) (v : Option Value) : Prop := match x, v with
  | none, none => True
  | some n, some u => ∃ k, u = .int k n
  | _, _ => False
theorem bounds_run {isSlice : Bool} {len cap : Nat} {lo hi mx : Option Int} {lv hv mv : Option Value} (h1 : BdR g w lo lv) (h2 : BdR g w hi hv) (h3 : BdR g w mx mv)
    (b1 : 0 ≤ lo.getD 0) (b2 : lo.getD 0 ≤ hi.getD len) (b3 : hi.getD len ≤ len) (hlc : len ≤ cap) (hm : mx = none ∨ mx = some (hi.getD len)) (hmh : mx ≠ none → hi ≠ none) :
    (Instr.sliceBounds isSlice len cap lv hv mv).run P w = .ok ((lo.getD 0).toNat, (hi.getD len).toNat, if mx = none then cap else (hi.getD len).toNat) w := by
  have sb : ∀ (k : IntKind) (n : Int) (y : Nat) (c : BoundsCode), 0 ≤ n → n ≤ y → (Instr.sliceBound (.int k n) y c).run P w = .ok n.toNat w := by
    intro k n y c ha hb
    simp [Instr.sliceBound, asIntOf, ha, hb]
  unfold Instr.sliceBounds
  cases mx with
  | none =>
    cases mv with
    | some u => exact h3.elim
    | none =>
      cases hi with
      | none =>
        cases hv with
        | some u => exact h2.elim
        | none =>
          cases lo with
          | none => cases lv with
            | some u => exact h1.elim
            | none => simp
          | some l => cases lv with
            | none => exact h1.elim
            | some u =>
              obtain ⟨k, rfl⟩ := h1
              simp only [Option.getD_some, Option.getD_none] at b1 b2 b3
              simp [sb k l len _ b1 b2]
      | some h =>
        cases hv with
        | none => exact h2.elim
        | some u =>
          obtain ⟨k, rfl⟩ := h2
          simp only [Option.getD_some] at b2 b3
          cases lo with
          | none => cases lv with
            | some u => exact h1.elim
            | none =>
              simp only [Option.getD_none] at b2
              simp [sb k h cap _ b2 (by omega)]
          | some l => cases lv with
            | none => exact h1.elim
            | some u =>
              obtain ⟨k', rfl⟩ := h1
              simp only [Option.getD_some] at b1 b2
              simp [sb k h cap _ (by omega) (by omega), sb k' l h.toNat _ b1 (by omega)]
  | some m =>
    cases mv with
    | none => exact h3.elim
    | some u =>
      obtain ⟨km, rfl⟩ := h3
      rcases hm with hm | hm
      · cases hm
      · cases hm
        cases hi with
        | none => exact absurd rfl (hmh (by simp))
        | some h =>
          cases hv with
          | none => exact h2.elim
          | some u =>
            obtain ⟨k, rfl⟩ := h2
            simp only [Option.getD_some] at b2 b3 ⊢
            cases lo with
            | none => cases lv with
              | some u => exact h1.elim
              | none =>
                simp only [Option.getD_none] at b2
                simp [sb km h cap _ b2 (by omega), sb k h h.toNat _ b2 (by omega)]
            | some l => cases lv with
              | none => exact h1.elim
              | some u =>
                obtain ⟨k', rfl⟩ := h1
                simp only [Option.getD_some] at b1 b2
                simp [sb km h cap _ (by omega) (by omega), sb k h h.toNat _ (by omega) (by omega), sb k' l h.toNat _ b1 (by omega)]
theorem slc_sound {t : TypeId} {sz by' : Nat} {agg : Bool} {x : PV} {z : PV × Option Tk} {lo hi mx : Option Int} {v : Value} {lv hv mv : Option Value} {ft : Toks} (hx : g.VR w x v)
    (he : Abs.elemOf P t = some (sz, by', agg)) (h1 : BdR g w lo lv) (h2 : BdR g w hi hv) (h3 : BdR g w mx mv) (h : slc sz x lo hi mx = some z) :
    ∃ r, (Instr.sliceAt t v lv hv mv).run P w = .ok r w ∧ g.VR w z.1 r ∧ TkR g ft ht w z.2 z.1 r := by
  obtain ⟨e, inf, hu, hi', hs, _, _⟩ := elemOf_some he
  have hrun : ∀ (base : Option Addr) (len cap l hh m : Nat), (Instr.sliceBounds true len cap lv hv mv).run P w = .ok (l, hh, m) w →
      (Instr.sliceAt t (.slice base len cap) lv hv mv).run P w = .ok (.slice (if m = l then base else base.map (·.add (l * sz))) (hh - l) (m - l)) w := by
    intro base len cap l hh m hb
    simp only [Instr.sliceAt, Instr.slice, Sem.run_bind, run_underlying hu, Result.andThen_ok, hb, Go.sizeOf, typeInfo, run_program, hi', Sem.run_pure, hs]
  cases hx with
  | sl a' sz' es b o cap gv hsz ha hcap hl hc hval =>
    simp only [slc] at h
    obtain ⟨c, hcc, rfl⟩ := Option.map_eq_some_iff.1 h
    have hcc := chk_some hcc
    simp only [Bool.and_eq_true, beq_iff_eq, decide_eq_true_eq, Bool.or_eq_true] at hcc
    obtain ⟨⟨⟨⟨rfl, b1⟩, b2⟩, b3⟩, hm⟩ := hcc
    have hb := bounds_run (P := P) (isSlice := true) (cap := cap) h1 h2 h3 b1 b2 b3 hcap (by rcases hm with hm | ⟨_, hm⟩; exact .inl hm; exact .inr hm)
      (fun hn => by rcases hm with hm | ⟨hm, _⟩; exact absurd hm hn; intro e; rw [e] at hm; cases hm)
    have hr := hrun (some ⟨b, o, none⟩) es.length cap _ _ _ hb
    generalize hL : (lo.getD 0).toNat = L at *
    generalize hH : (hi.getD es.length).toNat = H at *
    have hLH : L ≤ H := by omega
    have hHl : H ≤ es.length := by omega
    have hlen : ((es.drop L).take (H - L)).length = H - L := by simp; omega
    refine ⟨_, hr, ?_, ?_⟩
    · have hcapm : H ≤ (if mx = none then cap else H) := by split <;> omega
      clear hr hb
      generalize (if mx = none then cap else H) = m at *
      have hsl : ∃ o', (if m = L then some (⟨b, o, none⟩ : Addr) else some ((⟨b, o, none⟩ : Addr).add (L * sz'))) = some ⟨b, o', none⟩ ∧ (L < H → o' = o + L * sz') ∧ (L = 0 → o' = o) := by
        by_cases e : m = L
        · rw [if_pos e]; exact ⟨o, rfl, fun hlt => by omega, fun _ => rfl⟩
        · rw [if_neg e]; exact ⟨o + L * sz', by rw [addr_add], fun _ => rfl, fun h0 => by rw [h0]; simp⟩
      obtain ⟨o', ho', hlt', h0'⟩ := hsl
      simp only [Option.map_some]
      rw [ho']
      have cells : ∀ j, j < (H - L) * sz' → w.cell? ⟨b, o' + j, none⟩ = some (gv (L * sz' + j)) ∧ g.imm b (o' + j) ∧ (gv (L * sz' + j)).oneCell' = true := by
        intro j hj
        have hlt : L < H := by
          rcases Nat.lt_or_ge L H with h | h
          · exact h
          · have : H - L = 0 := by omega
            rw [this] at hj; simp at hj
        have hle : (H - L) * sz' + L * sz' ≤ es.length * sz' := by rw [← Nat.add_mul]; exact Nat.mul_le_mul_right _ (by omega)
        have := hc (L * sz' + j) (by omega)
        rw [hlt' hlt, Nat.add_assoc]; exact this
      have get : ∀ i, i < H - L → ((es.drop L).take (H - L)).getD i .undef = es.getD (L + i) .undef := by
        intro i hi
        simp [List.getD_eq_getElem?_getD, List.getElem?_take, List.getElem?_drop, hi]
      have key : g.VR w (.sl (if lo = none then a' else none) sz' ((es.drop L).take (H - L))) (.slice (some ⟨b, o', none⟩) ((es.drop L).take (H - L)).length (m - L)) := by
       refine .sl _ sz' _ b o' _ (fun j => gv (L * sz' + j)) hsz ?_ ?_ (fun i hi => ?_) (fun j hj => ?_) (fun i j hi hj => ?_)
       · split
         · rename_i hlo
           rw [h0' (by rw [← hL, hlo]; rfl)]
           exact ha
         · exact .inl rfl
       · rw [hlen]; omega
       · rw [hlen] at hi; rw [get i hi]; exact hl _ (by omega)
       · rw [hlen] at hj; exact cells j hj
       · rw [hlen] at hi
         rw [get i hi]
         have := hval (L + i) j (by omega) hj
         rw [Nat.add_mul, Nat.add_assoc] at this
         exact this
      rwa [hlen] at key
    · cases mx with
      | none => trivial
      | some m => simp only [TkR, reduceCtorEq, if_false]; exact ⟨_, _, rfl⟩
  | snil =>
    simp only [slc] at h
    obtain ⟨c, hcc, rfl⟩ := Option.map_eq_some_iff.1 h
    have hcc := chk_some hcc
    simp only [Bool.and_eq_true, beq_iff_eq, Bool.or_eq_true] at hcc
    obtain ⟨⟨hlo, hhi⟩, rfl⟩ := hcc
    have e1 : lo.getD 0 = 0 := by rcases hlo with rfl | rfl <;> rfl
    have e2 : hi.getD ((0 : Nat) : Int) = 0 := by rcases hhi with rfl | rfl <;> rfl
    have hb := bounds_run (P := P) (isSlice := true) (len := 0) (cap := 0) h1 h2 h3 (by omega) (by omega) (by omega) (Nat.le_refl _) (.inl rfl) (fun hn => absurd rfl hn)
    have hr := hrun none 0 0 _ _ _ hb
    rw [e1, e2] at hr
    exact ⟨_, hr, .snil, trivial⟩
  | sl0 sz' p hsz =>
    simp only [slc] at h
    obtain ⟨c, hcc, rfl⟩ := Option.map_eq_some_iff.1 h
    have hcc := chk_some hcc
    simp only [Bool.and_eq_true, beq_iff_eq, decide_eq_true_eq, Bool.or_eq_true, List.length_nil] at hcc
    obtain ⟨⟨⟨⟨rfl, b1⟩, b2⟩, b3⟩, hm⟩ := hcc
    have hb := bounds_run (P := P) (isSlice := true) (len := 0) (cap := 0) h1 h2 h3 b1 b2 b3 (Nat.le_refl _) (by rcases hm with hm | ⟨_, hm⟩; exact .inl hm; exact .inr hm)
      (fun hn => by rcases hm with hm | ⟨hm, _⟩; exact absurd hm hn; intro e; rw [e] at hm; cases hm)
    have hr := hrun (some p) 0 0 _ _ _ hb
    generalize hL : (lo.getD 0).toNat = L at *
    generalize hH : (hi.getD ((0 : Nat) : Int)).toNat = H at *
    have hH0 : H = 0 := by omega
    have hL0 : L = 0 := by omega
    subst hH0; subst hL0
    have e0 : (if mx = none then 0 else 0) = 0 := by split <;> rfl
    rw [e0] at hr
    refine ⟨_, hr, ?_, ?_⟩
    · simp only [if_true, Nat.sub_self, List.length_nil, List.drop_nil, List.take_nil, ite_self]
      exact .sl0 _ p hsz
    · cases mx with
      | none => trivial
      | some m => simp only [TkR, reduceCtorEq, if_false]; exact ⟨_, _, rfl⟩
  | ar id sz' off len b cap hb' hc =>
    simp only [slc] at h
    obtain ⟨c, hcc, rfl⟩ := Option.map_eq_some_iff.1 h
    have hcc := chk_some hcc
    simp only [Bool.and_eq_true, beq_iff_eq, decide_eq_true_eq] at hcc
    simp only [Bool.or_eq_true, decide_eq_true_eq, beq_iff_eq] at hcc
    obtain ⟨⟨⟨⟨⟨rfl, b1⟩, b2⟩, b3⟩, b4⟩, rfl⟩ := hcc
    have hb := bounds_run (P := P) (isSlice := true) (cap := cap) h1 h2 h3 b1 b2 b3 hc (.inl rfl) (fun hn => absurd rfl hn)
    have hr := hrun (some ⟨b, off * sz', none⟩) len cap _ _ _ hb
    generalize hL : (lo.getD 0).toNat = L at *
    generalize hH : (hi.getD len).toNat = H at *
    refine ⟨_, hr, ?_, trivial⟩
    simp only [if_true, Option.map_some, addr_add]
    rw [← Nat.add_mul]
    have hA : (if cap = L then some (⟨b, off * sz', none⟩ : Addr) else some ⟨b, (off + L) * sz', none⟩) = some ⟨b, (off + L) * sz', none⟩ := by
      split
      · rename_i e
        have : L = 0 := by rcases b4 with b4 | b4 <;> omega
        rw [this]; simp
      · rfl
    rw [hA]
    exact .ar id sz' (off + L) (H - L) b _ hb' (by omega)
  | _ => simp [slc] at h
theorem strSlc_sound {t : TypeId} {x z : PV} {lo hi : Option Int} {v : Value} {lv hv : Option Value} (hx : g.VR w x v)
    (hs : isStr P t = true) (h1 : BdR g w lo lv) (h2 : BdR g w hi hv) (h : strSlc x lo hi = some z) :
    ∃ r, (Instr.sliceAt t v lv hv none).run P w = .ok r w ∧ g.VR w z r := by
  have hu := isStr_some hs
  cases hx with
  | str s =>
    simp only [strSlc] at h
    obtain ⟨c, hcc, rfl⟩ := Option.map_eq_some_iff.1 h
    have hcc := chk_some hcc
    simp only [Bool.and_eq_true, decide_eq_true_eq] at hcc
    obtain ⟨⟨b1, b2⟩, b3⟩ := hcc
    have hb := bounds_run (P := P) (mx := none) (mv := none) (isSlice := false) (len := s.size) (cap := s.size) h1 h2 trivial b1 b2 b3 (Nat.le_refl _) (.inl rfl) (fun hn => absurd rfl hn)
    refine ⟨_, ?_, .str _⟩
    simp [Instr.sliceAt, Instr.slice, run_underlying hu, hb]
  | _ => simp [strSlc] at h
end
end Go.Abs
namespace Go.Abs
section
variable {P : Program} {g : Gh} {F : Fr} {ht : Toks} {w : World} {a : Act}
theorem isAgg_run {t : TypeId} {n : Nat} (h : szOf P t = some n) : (isAgg t).run P w = .ok (aggOf P t) w := by
  obtain ⟨d, i, hd, hi, hs⟩ := szOf_some h
  unfold isAgg aggOf
  rw [Sem.run_bind, run_underlying hd w, hd]
  cases d <;> rfl
theorem fieldA_sound {t : TypeId} {i off n : Nat} {agg : Bool} {x : PV} {z : SV} {v : Value} (hx : g.VR w x v) (hf : fieldOf P t i = some (off, n, agg)) (h : fieldA off n agg x = some z) :
    ∃ r, (Instr.field t v i).run P w = .ok r w ∧ ∃ y k, z = .v y k ∧ g.VR w y r ∧ TkR g F.toks ht w k y r := by
  obtain ⟨fs, f, hu, hfi, ho, hn, hagg⟩ := fieldOf_some hf
  cases hx with
  | agg cs vs hl h1 hv =>
    simp only [fieldA] at h
    obtain ⟨cs', hp, h⟩ := Option.bind_eq_some_iff.1 h
    unfold Abs.part at hp
    split at hp
    · rename_i hle
      cases hp
      simp only [List.length_map] at hle
      have hrun : (Instr.field t (.agg vs) i).run P w = (Go.part f.type vs off).run P w := by
        simp [Instr.field, run_underlying hu, hfi, asAgg, ho]
      have hia := isAgg_run (P := P) (w := w) hn
      rw [hagg] at hia
      rw [hrun]
      cases agg with
      | true =>
        simp only [aggV, if_true] at h
        cases h
        refine ⟨.agg (vs.extract off (off + n)), ?_, _, _, rfl, ?_, trivial⟩
        · simp [Go.part, hia, sizeOf_run hn]
        · have hlen : (List.map (fun x => x.1) (List.take n (List.drop off (List.map (fun c => (c, none)) cs) : List Cell))).length = n := by simp; omega
          have hg : ∀ j, j < n → (List.map (fun x => x.1) (List.take n (List.drop off (List.map (fun c => (c, none)) cs) : List Cell))).getD j .undef = cs.getD (off + j) .undef ∧ (vs.extract off (off + n)).getD j Go.undef = vs.getD (off + j) Go.undef := by
            intro j hj
            constructor
            · have hj' : off + j < cs.length := by omega
              simp [List.getD_eq_getElem?_getD, List.getElem?_take, List.getElem?_drop, hj, hj']
            · have hj' : off + j < vs.size := by omega
              have hj2 : j < (vs.extract off (off + n)).size := by simp; omega
              simp only [Array.getD_eq_getD_getElem?, Array.getElem?_eq_getElem hj2, Array.getElem?_eq_getElem hj', Option.getD_some]
              simp
          refine .agg _ _ (by rw [hlen]; simp; omega) (fun j hj => ?_) (fun j hj => ?_)
          · rw [hlen] at hj; rw [(hg j hj).2]; exact h1 _ (by omega)
          · rw [hlen] at hj; rw [(hg j hj).1, (hg j hj).2]; exact hv _ (by omega)
      | false =>
        have hn1 : n = 1 ∧ ∃ c, cs[off]? = some c ∧ z = .v c none := by
          have hlen : (List.take n (List.drop off (List.map (fun c => (c, none)) cs)) : List Cell).length = n := by simp; omega
          simp only [aggV, Bool.false_eq_true, if_false] at h
          split at h
          · rename_i c hc
            rw [hc] at hlen
            have hn1 : n = 1 := by simpa using hlen.symm
            subst hn1
            rename_i hz
            simp only [Option.some.injEq] at hz
            subst hz
            have hlt : off < cs.length := by omega
            have : (List.take 1 (List.drop off (List.map (fun c => (c, none)) cs)) : List Cell)[0]? = some c := by rw [hc]; rfl
            simp [List.getElem?_take, List.getElem?_drop, hlt] at this
            subst this
            exact ⟨rfl, cs[off], by simp [hlt], rfl⟩
          · cases h
        clear h
        obtain ⟨hn1, c, hc, hz⟩ := hn1
        subst hn1
        subst hz
        have hlt : off < vs.size := by omega
        refine ⟨vs.getD off Go.undef, ?_, _, _, rfl, ?_, trivial⟩
        · simp [Go.part, hia, hlt]
        · have := hv off (by omega)
          rw [List.getD_eq_getElem?_getD, hc] at this
          exact this
    · cases hp
  | _ => simp [fieldA] at h
theorem keyT1_cases {t : TypeId} (h : keyT1 P t = true) : szOf P t = some 1 ∧ aggOf P t = false ∧ ((∃ k, P.underlying t = some (.int k)) ∨ P.underlying t = some .string ∨ P.underlying t = some .bool ∨
    (∃ e n, P.underlying t = some (.pointer e) ∧ szOf P e = some n ∧ n ≠ 0)) := by
  unfold keyT1 at h
  split at h
  · rename_i k hu; exact ⟨by simpa using h, by simp [aggOf, hu], .inl ⟨k, hu⟩⟩
  · rename_i hu; exact ⟨by simpa using h, by simp [aggOf, hu], .inr (.inl hu)⟩
  · rename_i hu; exact ⟨by simpa using h, by simp [aggOf, hu], .inr (.inr (.inl hu))⟩
  · rename_i e hu
    simp only [Bool.and_eq_true, beq_iff_eq] at h
    refine ⟨h.2, by simp [aggOf, hu], .inr (.inr (.inr ?_))⟩
    rcases famT_cases P t with hk | ⟨hk, e', n, hu', hn, h0⟩ | ⟨hk, _⟩ | ⟨hk, _⟩ | ⟨hk, _⟩ <;> rw [hk] at h <;> simp at h
    exact ⟨e', n, hu', hn, h0⟩
  · cases h
theorem keyEq_sound {S : St} {t : TypeId} {x y : PV} {v u : Value} {b : Bool} {d : Nat} (hS : StR g S w) (hx : g.VR w x v) (hy : g.VR w y u) (h : keyEq P S t x y = some b) :
    (Op.equalIn (d + 1) t v u).run P w = .ok b w := by
  unfold keyEq at h
  split at h
  · rename_i k hu
    split at h
    · split at h
      · rename_i e; subst e
        cases h; cases hx; cases hy
        rw [Op.equalIn, Sem.run_bind, run_underlying hu w]
        simp
      · cases h
    · cases h
  · rename_i hu
    split at h
    · cases h; cases hx; cases hy
      rw [Op.equalIn, Sem.run_bind, run_underlying hu w]
      simp
    · cases h
  · rename_i hu
    split at h
    · cases h; cases hx; cases hy
      rw [Op.equalIn, Sem.run_bind, run_underlying hu w]
      simp
    · cases h
  · rename_i e hu
    split at h
    · rename_i hk
      rcases famT_cases P t with hk' | ⟨_, e', n, hu', hn, h0⟩ | ⟨hk', _⟩ | ⟨hk', _⟩ | ⟨hk', _⟩ <;> try (rw [hk] at hk'; cases hk')
      exact samePtr_sound hS hu' hn h0 hx hy h
    · cases h
  · cases h
theorem keysEq_sound {S : St} {d : Nat} (hS : StR g S w) (xs ys : List PV) (vs us : Array Value) (hv : ∀ i, i < xs.length → g.VR w (xs.getD i .undef) (vs.getD i Go.undef)) (hu : ∀ i, i < ys.length → g.VR w (ys.getD i .undef) (us.getD i Go.undef))
    (hlv : xs.length = vs.size) (hlu : ys.length = us.size) :
    ∀ (fs : List Field) (n : Nat) {b : Bool}, ((fs.zipIdx n).all fun f => f.1.name != "_" && f.1.offset == f.2 && keyT1 P f.1.type) = true →
      keysEq P S (fs.map (·.type)) (xs.drop n) (ys.drop n) = some b → (Op.eqFields (d + 1) vs us fs).run P w = .ok b w
  | [], n, b, _, h => by
    cases hx : xs.drop n <;> cases hy : ys.drop n <;> rw [hx, hy] at h <;> simp [keysEq] at h
    subst h
    simp [Op.eqFields]
  | f :: fs, n, b, hf, h => by
    simp only [List.zipIdx_cons, List.all_cons, Bool.and_eq_true, bne_iff_ne, beq_iff_eq] at hf
    obtain ⟨⟨⟨hn, ho⟩, hk⟩, hrest⟩ := hf
    obtain ⟨hsz, hagg, _⟩ := keyT1_cases hk
    have hx1 : n < xs.length := by
      rcases Nat.lt_or_ge n xs.length with hlt | hge
      · exact hlt
      · rw [List.drop_eq_nil_of_le hge] at h; simp [keysEq] at h
    have hy1 : n < ys.length := by
      rcases Nat.lt_or_ge n ys.length with hlt | hge
      · exact hlt
      · rw [List.drop_eq_nil_of_le hge, List.drop_eq_getElem_cons hx1] at h; simp [keysEq] at h
    rw [List.drop_eq_getElem_cons hx1, List.drop_eq_getElem_cons hy1] at h
    simp only [List.map_cons, keysEq] at h
    obtain ⟨b1, hb1, h⟩ := Option.bind_eq_some_iff.1 h
    obtain ⟨b2, hb2, rfl⟩ := Option.map_eq_some_iff.1 h
    have hv' := hv n hx1
    have hu' := hu n hy1
    rw [List.getD_eq_getElem?_getD, List.getElem?_eq_getElem hx1] at hv'
    rw [List.getD_eq_getElem?_getD, List.getElem?_eq_getElem hy1] at hu'
    have he := keyEq_sound (d := d) hS hv' hu' hb1
    have hia := isAgg_run (P := P) (w := w) hsz
    rw [hagg] at hia
    have p1 : (Go.part f.type vs f.offset).run P w = .ok (vs.getD n Go.undef) w := by
      simp [Go.part, hia, ho, show n < vs.size by omega]
    have p2 : (Go.part f.type us f.offset).run P w = .ok (us.getD n Go.undef) w := by
      simp [Go.part, hia, ho, show n < us.size by omega]
    have ih := keysEq_sound (d := d) hS xs ys vs us hv hu hlv hlu fs (n + 1) hrest hb2
    simp only [Op.eqFields, if_pos hn, Sem.run_bind, p1, p2, he, Result.andThen_ok]
    cases b1
    · simp
    · simpa using ih
theorem keyEqT_sound {S : St} {t : TypeId} {x y : PV} {v u : Value} {b : Bool} {d : Nat} (hS : StR g S w) (hk : keyT P t = true) (hx : g.VR w x v) (hy : g.VR w y u) (h : keyEqT P S t x y = some b) :
    (Op.equalIn (d + 2) t v u).run P w = .ok b w := by
  unfold keyEqT at h
  split at h
  · rename_i fs xs ys hu
    unfold keyT at hk
    rw [hu] at hk
    simp only [Bool.and_eq_true, Bool.not_eq_true'] at hk
    cases hx with
    | agg _ vs hl h1 hv =>
      cases hy with
      | agg _ us hl' h1' hv' =>
        have hf : P.fieldsOf t = fs := by simp [Program.fieldsOf, hu]
        rw [run_equalIn_struct (P := P) w (d + 1) t vs us (by rw [hf]; exact hu) hk.1, hf]
        exact keysEq_sound hS xs ys vs us hv hv' hl hl' fs.toList 0 hk.2 (by simpa using h)
  · cases h
  · exact keyEq_sound (d := d + 1) hS hx hy h
theorem keyEq_mono {S : St} {t : TypeId} {x y : PV} {b : Bool} (h : keyEq P ⟨[], []⟩ t x y = some b) : keyEq P S t x y = some b := by
  unfold keyEq at h ⊢
  cases hu : P.underlying t with
  | none => rw [hu] at h; cases h
  | some d =>
    rw [hu] at h
    cases d <;> first | exact h | skip
    simp only at h ⊢
    split at h
    · rename_i hf
      rw [if_pos hf]
      unfold samePtrS at h
      split at h
      · rename_i i o j p
        split at h
        · rename_i hij
          simp only [samePtrS]
          rw [if_pos hij]; exact h
        · simp [isCells] at h
      · simp [isCells] at h
      · simp [isCells] at h
      · rename_i i o c1 j p c2
        split at h
        · rename_i hij
          simp only [samePtrS]
          rw [if_pos hij]; exact h
        · simp [isBlk] at h
      · exact samePtr_S h
    · cases h
theorem keysEq_mono {S : St} : ∀ (ts : List TypeId) (xs ys : List PV) {b : Bool}, keysEq P ⟨[], []⟩ ts xs ys = some b → keysEq P S ts xs ys = some b
  | [], [], [], b, h => h
  | t :: ts, x :: xs, y :: ys, b, h => by
    rw [keysEq] at h ⊢
    obtain ⟨c, h1, h2⟩ := Option.bind_eq_some_iff.1 h
    obtain ⟨e, h3, h4⟩ := Option.map_eq_some_iff.1 h2
    rw [keyEq_mono h1, Option.bind_some, keysEq_mono ts xs ys h3, Option.map_some, h4]
  | [], [], _ :: _, b, h => by simp [keysEq] at h
  | [], _ :: _, _, b, h => by simp [keysEq] at h
  | _ :: _, [], _, b, h => by simp [keysEq] at h
  | _ :: _, _ :: _, [], b, h => by simp [keysEq] at h
theorem keyEqT_mono {S : St} {t : TypeId} {x y : PV} {b : Bool} (h : keyEqT P ⟨[], []⟩ t x y = some b) : keyEqT P S t x y = some b := by
  unfold keyEqT at h ⊢
  split at h
  · exact keysEq_mono _ _ _ h
  · cases h
  · exact keyEq_mono h
theorem binA_sound {S : St} {op : BinOp} {t : TypeId} {x y z : PV} {xo yo : Operand} {v u : Value} (hS : StR g S w) (hx : g.VR w x v) (hy : g.VR w y u) (h : binA P op t x y = some z) :
    ∃ r, (do eqGuard op t xo yo v u; binOp op t v u : Sem Value).run P w = .ok r w ∧ g.VR w z r := by
  have eqr : ∀ xs ys b, x = .agg xs → y = .agg ys → aggEq P t xs ys = some b → (Op.equal t v u).run P w = .ok b w ∧ (∀ o, (o = .eql ∨ o = .neq) → (eqGuard o t xo yo v u).run P w = .ok () w) ∧ (∃ vs us, v = .agg vs ∧ u = .agg us) := by
    rintro xs ys b rfl rfl hb
    unfold aggEq at hb
    obtain ⟨c, hc, hb⟩ := Option.bind_eq_some_iff.1 hb
    have hc := chk_some hc
    simp only [Bool.and_eq_true, Bool.not_eq_true'] at hc
    have he : (Op.equal t v u).run P w = .ok b w := keyEqT_sound (d := 9998) hS hc.1 hx hy (keyEqT_mono hb)
    cases hx with
    | agg _ vs _ _ _ =>
    cases hy with
    | agg _ us _ _ _ =>
    refine ⟨he, fun o ho => ?_, _, _, rfl, rfl⟩
    rcases ho with rfl | rfl <;> simp [eqGuard, Sem.run_bind, run_program, hc.2, Sem.run_pure]
  unfold binA at h
  split at h
  · rename_i xs ys
    obtain ⟨b, hb, rfl⟩ := Option.map_eq_some_iff.1 h
    obtain ⟨he, hg, vs, us, rfl, rfl⟩ := eqr xs ys b rfl rfl hb
    refine ⟨.bool b, ?_, .bool _⟩
    rw [Sem.run_bind, hg _ (.inl rfl), Result.andThen_ok, show binOp .eql t (.agg vs) (.agg us) = (do pure (.bool (← Op.equal t (.agg vs) (.agg us))) : Sem Value) from rfl, Sem.run_bind, he]; rfl
  · rename_i xs ys
    obtain ⟨b, hb, rfl⟩ := Option.map_eq_some_iff.1 h
    obtain ⟨he, hg, vs, us, rfl, rfl⟩ := eqr xs ys b rfl rfl hb
    refine ⟨.bool (!b), ?_, .bool _⟩
    rw [Sem.run_bind, hg _ (.inr rfl), Result.andThen_ok, show binOp .neq t (.agg vs) (.agg us) = (do pure (.bool (!(← Op.equal t (.agg vs) (.agg us)))) : Sem Value) from rfl, Sem.run_bind, he]; rfl
  · exact binB_sound hS hx hy h
end
end Go.Abs
namespace Go.Abs
section
variable {P : Program} {g : Gh} {F : Fr} {ht : Toks} {w : World} {a : Act}
def EntsR (g : Gh) (w : World) : List (PV × PV) → List MapEntry → Prop
  | [], [] => True
  | e :: es, m :: ms => g.VR w e.1 m.key ∧ g.VR w e.2 m.val ∧ EntsR g w es ms
  | _, _ => False
def firstKind (d : TypeDesc) : Bool := match d with
  | .int _ | .string | .bool => true
  | _ => false
theorem sameNow_key {S : St} {t : TypeId} {d : TypeDesc} {x y : PV} {v u : Value} {b : Bool} (hd : P.underlying t = some d) (hk : firstKind d = true) (hx : g.VR w x v) (hy : g.VR w y u)
    (h : keyEqT P S t x y = some b) : Instr.sameNow d v u = some b := by
  unfold keyEqT at h
  rw [hd] at h
  cases d <;> simp [firstKind] at hk <;> simp only [keyEq, hd] at h
  · split at h
    · cases h; cases hx; cases hy; rfl
    · cases h
  · split at h
    · split at h
      · rename_i e; subst e; cases h; cases hx; cases hy; simp [Instr.sameNow]
      · cases h
    · cases h
  · split at h
    · cases h; cases hx; cases hy; rfl
    · cases h
theorem sameNow_none {d : TypeDesc} (v u : Value) (hk : firstKind d = false) : Instr.sameNow d v u = none := by
  cases d <;> simp [firstKind] at hk <;> rfl
theorem findNow_sound {S : St} {t : TypeId} {d : TypeDesc} {k : PV} {kv : Value} (hd : P.underlying t = some d) (hk : firstKind d = true) (hx : g.VR w k kv) :
    ∀ (es : List (PV × PV)) (ms : List MapEntry) (i : Nat) (r : Option PV), EntsR g w es ms → findKey P S t k es = some r →
      ∃ q, Instr.findNow d kv ms i = some q ∧ match r, q with
        | none, none => True
        | some x, some (j, v) => i ≤ j ∧ g.VR w x v ∧ j < i + ms.length
        | _, _ => False
  | [], [], i, r, _, h => by cases h; exact ⟨none, rfl, trivial⟩
  | e :: es, m :: ms, i, r, ⟨h1, h2, h3⟩, h => by
    simp only [findKey] at h
    obtain ⟨b, hb, h⟩ := Option.bind_eq_some_iff.1 h
    have hs := sameNow_key hd hk hx h1 hb
    cases b with
    | true =>
      simp only [if_true] at h
      cases h
      exact ⟨some (i, m.val), by simp [Instr.findNow, hs], Nat.le_refl _, h2, by simp⟩
    | false =>
      simp only [Bool.false_eq_true, if_false] at h
      obtain ⟨q, hq, hr⟩ := findNow_sound hd hk hx es ms (i + 1) r h3 h
      refine ⟨q, by simp [Instr.findNow, hs, hq], ?_⟩
      cases r <;> cases q <;> simp only at hr ⊢
      obtain ⟨ha, hb', hc⟩ := hr
      exact ⟨by omega, hb', by simp; omega⟩
  | [], _ :: _, _, _, h, _ => h.elim
  | _ :: _, [], _, _, h, _ => h.elim
theorem findAsking_sound {S : St} {t : TypeId} {k : PV} {kv : Value} (hS : StR g S w) (hT : keyT P t = true) (hx : g.VR w k kv) :
    ∀ (es : List (PV × PV)) (ms : List MapEntry) (i : Nat) (r : Option PV), EntsR g w es ms → findKey P S t k es = some r →
      ∃ q, (Instr.findAsking t kv ms i).run P w = .ok q w ∧ match r, q with
        | none, none => True
        | some x, some (j, v) => i ≤ j ∧ g.VR w x v ∧ j < i + ms.length
        | _, _ => False
  | [], [], i, r, _, h => by cases h; exact ⟨none, rfl, trivial⟩
  | e :: es, m :: ms, i, r, ⟨h1, h2, h3⟩, h => by
    simp only [findKey] at h
    obtain ⟨b, hb, h⟩ := Option.bind_eq_some_iff.1 h
    have hs : (Op.equal t kv m.key).run P w = .ok b w := keyEqT_sound (d := 9998) hS hT hx h1 hb
    cases b with
    | true =>
      simp only [if_true] at h
      cases h
      exact ⟨some (i, m.val), by simp [Instr.findAsking, hs], Nat.le_refl _, h2, by simp⟩
    | false =>
      simp only [Bool.false_eq_true, if_false] at h
      obtain ⟨q, hq, hr⟩ := findAsking_sound hS hT hx es ms (i + 1) r h3 h
      refine ⟨q, by simp [Instr.findAsking, hs, hq], ?_⟩
      cases r <;> cases q <;> simp only at hr ⊢
      obtain ⟨ha, hb', hc⟩ := hr
      exact ⟨by omega, hb', by simp; omega⟩
  | [], _ :: _, _, _, h, _ => h.elim
  | _ :: _, [], _, _, h, _ => h.elim
theorem findKey_sound {S : St} {t : TypeId} {k : PV} {kv : Value} {es : List (PV × PV)} {ms : List MapEntry} {r : Option PV} (hS : StR g S w) (hT : keyT P t = true) (hx : g.VR w k kv)
    (hE : EntsR g w es ms) (h : findKey P S t k es = some r) :
    ∃ q, (Instr.findKey t kv ms).run P w = .ok q w ∧ match r, q with
        | none, none => True
        | some x, some (j, v) => g.VR w x v ∧ j < ms.length
        | _, _ => False := by
  have hd : ∃ d, P.underlying t = some d := by
    unfold keyT keyT1 at hT
    cases hu : P.underlying t with
    | none => rw [hu] at hT; cases hT
    | some d => exact ⟨d, rfl⟩
  obtain ⟨d, hd⟩ := hd
  cases hf : firstKind d with
  | true =>
    obtain ⟨q, hq, hr⟩ := findNow_sound hd hf hx es ms 0 r hE h
    refine ⟨q, by simp [Instr.findKey, run_underlying hd, hq], ?_⟩
    cases r <;> cases q <;> simp only at hr ⊢
    exact ⟨hr.2.1, by omega⟩
  | false =>
    obtain ⟨q, hq, hr⟩ := findAsking_sound hS hT hx es ms 0 r hE h
    have : (Instr.findKey t kv ms).run P w = .ok q w := by
      simp only [Instr.findKey, Sem.run_bind, run_underlying hd, Result.andThen_ok]
      cases ms with
      | nil => simp [Instr.findNow]; simp [Instr.findAsking] at hq; exact hq
      | cons m ms => simp [Instr.findNow, sameNow_none _ _ hf, hq]
    refine ⟨q, this, ?_⟩
    cases r <;> cases q <;> simp only at hr ⊢
    exact ⟨hr.2.1, by omega⟩
theorem forIn_unit {α : Type} {body : α → PUnit → Sem (ForInStep PUnit)} : ∀ (l : List α), (∀ f ∈ l, (body f ⟨⟩).run P w = .ok (.yield ⟨⟩) w) → (forIn l ⟨⟩ body).run P w = .ok ⟨⟩ w
  | [], _ => by simp
  | f :: l, h => by
    rw [List.forIn_cons, Sem.run_bind, h f (by simp)]
    exact forIn_unit l fun f' hf => h f' (by simp [hf])
theorem checkKey_sound {t : TypeId} {v : Value} {em : Bool} {n : Nat} (hT : keyT P t = true) (hag : ∀ fs, P.underlying t = some (.struct fs) → ∃ vs, v = .agg vs ∧ fs.size ≤ vs.size) :
    (Instr.checkKey em (n + 2) t v).run P w = .ok () w := by
  have one : ∀ t v n, keyT1 P t = true → (Instr.checkKey em (n + 1) t v).run P w = .ok () w := by
    intro t v n h
    obtain ⟨_, _, hc⟩ := keyT1_cases h
    rcases hc with ⟨k, hu⟩ | hu | hu | ⟨e, n', hu, _⟩ <;> rw [Instr.checkKey, Sem.run_bind, run_underlying hu w] <;> rfl
  unfold keyT at hT
  split at hT
  · rename_i fs hu
    obtain ⟨vs, rfl, hcs⟩ := hag fs hu
    simp only [Bool.and_eq_true] at hT
    have hall := List.all_eq_true.1 hT.2
    rw [Instr.checkKey, Sem.run_bind, run_underlying hu w]
    simp only [Result.andThen_ok, Sem.run_bind]
    rw [← Array.forIn_toList, forIn_unit fs.toList ?_]
    · rfl
    intro f hf
    obtain ⟨m, hm, hfm⟩ := List.getElem_of_mem hf
    have := hall (f, m) (List.mem_zipIdx_iff_getElem?.2 (by rw [← hfm]; simp))
    simp only [Bool.and_eq_true, bne_iff_ne, beq_iff_eq] at this
    obtain ⟨⟨hn, ho⟩, hk⟩ := this
    obtain ⟨hsz, hagg, _⟩ := keyT1_cases hk
    have hia := isAgg_run (P := P) (w := w) hsz
    rw [hagg] at hia
    have p1 : (Go.part f.type vs f.offset).run P w = .ok (vs.getD m Go.undef) w := by
      simp only [Array.length_toList] at hm
      simp [Go.part, hia, ho, show m < vs.size by omega]
    simp only [if_pos hn, Sem.run_bind, p1, Result.andThen_ok, one _ _ n hk, Sem.run_pure]
  · exact one t v (n + 1) hT
theorem keyOk_agg {t : TypeId} {x : PV} {v : Value} (hx : g.VR w x v) (h : keyOk P t x = true) :
    ∀ fs, P.underlying t = some (.struct fs) → ∃ vs, v = .agg vs ∧ fs.size ≤ vs.size := by
  intro fs hu
  unfold keyOk at h
  rw [hu] at h
  cases hx <;> simp at h
  rename_i hl _ _
  exact ⟨_, rfl, by omega⟩
theorem zeroPV_sound {t : TypeId} {z : PV} (h : zeroPV P t = some z) : ∃ i zv, P.info? t = some i ∧ i.zero = some zv ∧ z = ofVal zv ∧ z.okCells i.size = true ∧ g.VR w z zv ∧ (zeroValue t).run P w = .ok zv w := by
  unfold zeroPV at h
  obtain ⟨i, hi, h⟩ := Option.bind_eq_some_iff.1 h
  obtain ⟨zv, hz, h⟩ := Option.bind_eq_some_iff.1 h
  obtain ⟨c, hc, rfl⟩ := Option.map_eq_some_iff.1 h
  exact ⟨i, zv, hi, hz, rfl, chk_some hc, VR_ofVal zv, by simp [zeroValue, typeInfo, hi, hz]⟩
theorem mapEs_sound {S : St} {x : PV} {v : Value} {es : List (PV × PV)} (hS : StR g S w) (hx : g.VR w x v) (h : mapEs S x = some es) :
    (v = .map none ∧ es = []) ∨ ∃ b ents clock, v = .map (some b) ∧ w.heap[b]? = some (.map ents clock) ∧ ents.size = es.length ∧ EntsR g w es ents.toList := by
  cases hx <;> simp [mapEs] at h
  · subst h; exact .inl ⟨rfl, rfl⟩
  · rename_i id b hb
    split at h
    · rename_i es' hes
      cases h
      obtain ⟨b', ents, clock, h1, _, h3, h4, h5⟩ := hS.maps id es hes
      rw [h1] at hb; cases hb
      refine .inr ⟨_, ents, clock, rfl, h3, h4, ?_⟩
      have : ∀ (es : List (PV × PV)) (ms : List MapEntry), ms.length = es.length → (∀ (i : Nat) e, es[i]? = some e → g.VR w e.1 (ms.getD i default).key ∧ g.VR w e.2 (ms.getD i default).val) → EntsR g w es ms := by
        intro es
        induction es with
        | nil => intro ms hl _; cases ms with
          | nil => trivial
          | cons m ms => simp at hl
        | cons e es ih =>
          intro ms hl hh
          cases ms with
          | nil => simp at hl
          | cons m ms =>
            have h0 := hh 0 e rfl
            exact ⟨h0.1, h0.2, ih ms (by simpa using hl) fun i e' he => hh (i + 1) e' he⟩
      refine this es ents.toList (by simpa using h4) fun i e he => ?_
      have := h5 i e he
      simpa [List.getD_eq_getElem?_getD, Array.getD_eq_getD_getElem?] using this
    · cases h
theorem lookup_sound {S : St} {t kt et : TypeId} {m k z : PV} {mv kv : Value} {es : List (PV × PV)} {r : Option PV} {ok : Bool} (hS : StR g S w) (hm : mapOf P t = some (kt, et)) (hM : g.VR w m mv) (hK : g.VR w k kv)
    (hok : keyOk P kt k = true) (hes : mapEs S m = some es) (hf : findKey P S kt k es = some r) (hz : zeroPV P et = some z) :
    ∃ v, (Instr.lookup t mv kv ok).run P w = .ok v w ∧ g.VR w (if ok then .tup [r.getD z, .bool r.isSome] else r.getD z) v := by
  obtain ⟨hu, hT⟩ := mapOf_some hm
  obtain ⟨i, zv, _, _, _, _, hzr, hzrun⟩ := zeroPV_sound (g := g) (w := w) hz
  have hck : ∀ em, (Instr.checkKey em 10000 kt kv).run P w = .ok () w := fun em => checkKey_sound (n := 9998) hT (keyOk_agg hK hok)
  have fin : ∀ (ms : List MapEntry), EntsR g w es ms → ((Instr.findKey kt kv ms).run P w = .ok none w ∧ r = none) ∨ ∃ n u x, (Instr.findKey kt kv ms).run P w = .ok (some (n, u)) w ∧ r = some x ∧ g.VR w x u := by
    intro ms hE
    obtain ⟨q, hq, hr⟩ := findKey_sound hS hT hK hE hf
    cases r with
    | none => cases q with
      | none => exact .inl ⟨hq, rfl⟩
      | some p => exact hr.elim
    | some x => cases q with
      | none => exact hr.elim
      | some p => exact .inr ⟨p.1, p.2, x, hq, rfl, hr.1⟩
  have close : ∀ v, g.VR w (r.getD z) v → g.VR w (if ok then .tup [r.getD z, .bool r.isSome] else r.getD z) (if ok then .tuple #[v, .bool r.isSome] else v) := by
    intro v hv
    cases ok with
    | false => exact hv
    | true =>
      refine .tup _ _ rfl (fun i hi => ?_)
      simp only [List.length_cons, List.length_nil] at hi
      rcases i with _ | _ | i
      · exact hv
      · exact .bool _
      · omega
  rcases mapEs_sound hS hM hes with ⟨rfl, rfl⟩ | ⟨b, ents, clock, rfl, hb, _, hE⟩
  · rcases fin [] trivial with ⟨hq, rfl⟩ | ⟨n, u, x, hq, rfl, hv⟩
    · refine ⟨_, ?_, close zv hzr⟩
      simp only [Instr.lookup, Sem.run_bind, run_underlying hu, Result.andThen_ok, Sem.run_pure, hck, hq, hzrun, Option.isSome_none]
    · cases hf
  · have hg : (getObj b).run P w = .ok (.map ents clock) w := by simp [getObj, Sem.run, hb]
    rcases fin ents.toList hE with ⟨hq, rfl⟩ | ⟨n, u, x, hq, rfl, hv⟩
    · refine ⟨_, ?_, close zv hzr⟩
      simp only [Instr.lookup, Sem.run_bind, run_underlying hu, Result.andThen_ok, Sem.run_pure, hck, hg, hq, hzrun, Option.isSome_none]
    · refine ⟨_, ?_, close u hv⟩
      simp only [Instr.lookup, Sem.run_bind, run_underlying hu, Result.andThen_ok, Sem.run_pure, hck, hg, hq, Option.isSome_some]
end
end Go.Abs
namespace Go.Abs
section
variable {P : Program} {g : Gh} {F : Fr} {ht : Toks} {w : World} {a : Act}
def CsR (g : Gh) (w : World) (cs : List PV) (arr : List Value) : Prop := arr.length = cs.length ∧ ∀ i, i < cs.length → g.VR w (cs.getD i .undef) (arr.getD i Go.undef) ∧ (arr.getD i Go.undef).oneCell' = true
theorem CsR.of {e : PV} {v : Value} {n : Nat} (h : g.VR w e v) (hn : e.okCells n = true) : CsR g w (e.proj n) v.cells.toList := by
  obtain ⟨h1, h2, h3⟩ := h.cells hn
  refine ⟨by rw [proj_length]; simpa using h1, fun i hi => ?_⟩
  rw [proj_length] at hi
  have := h3 i hi
  rw [List.getD_eq_getElem?_getD, proj_get _ _ _ hi]
  simpa [Array.getD_eq_getD_getElem?] using this
theorem CsR.of' {e : PV} {v : Value} {n : Nat} (h : g.VR w e v) (hn : e.okCells n = true) : CsR g w e.cells v.cells.toList ∧ e.cells.length = n := by
  obtain ⟨h1, h2, h3⟩ := h.cells hn
  refine ⟨⟨by rw [h2]; simpa using h1, fun i hi => ?_⟩, h2⟩
  rw [h2] at hi
  have := h3 i hi
  simpa [Array.getD_eq_getD_getElem?, PV.cell] using this
theorem CsR.append {cs ds : List PV} {as bs : List Value} (h : CsR g w cs as) (h' : CsR g w ds bs) : CsR g w (cs ++ ds) (as ++ bs) := by
  refine ⟨by simp [h.1, h'.1], fun i hi => ?_⟩
  simp only [List.getD_eq_getElem?_getD]
  by_cases hlt : i < cs.length
  · rw [List.getElem?_append_left hlt, List.getElem?_append_left (by rw [h.1]; exact hlt)]
    simpa using h.2 i hlt
  · rw [List.getElem?_append_right (Nat.not_lt.1 hlt), List.getElem?_append_right (by rw [h.1]; exact Nat.not_lt.1 hlt), h.1]
    simp only [List.length_append] at hi
    simpa using h'.2 (i - cs.length) (by omega)
theorem CsR.take {cs : List PV} {as : List Value} (h : CsR g w cs as) (n : Nat) : CsR g w (cs.take n) (as.take n) := by
  refine ⟨by simp [h.1], fun i hi => ?_⟩
  simp only [List.length_take] at hi
  have := h.2 i (by omega)
  simpa [List.getD_eq_getElem?_getD, List.getElem?_take, show i < n by omega] using this
theorem CsR.drop {cs : List PV} {as : List Value} (h : CsR g w cs as) (n : Nat) : CsR g w (cs.drop n) (as.drop n) := by
  refine ⟨by simp [h.1], fun i hi => ?_⟩
  simp only [List.length_drop] at hi
  have := h.2 (n + i) (by omega)
  simpa [List.getD_eq_getElem?_getD, List.getElem?_drop] using this
theorem foldl_set (off : Nat) : ∀ (l : List Value) (k : Nat) (cs : Array Value), off + k + l.length ≤ cs.size →
    ((l.zipIdx k).foldl (fun cs (p : Value × Nat) => cs.setIfInBounds (off + p.2) p.1) cs).toList = cs.toList.take (off + k) ++ l ++ cs.toList.drop (off + k + l.length)
  | [], k, cs, h => by simp
  | v :: l, k, cs, h => by
    simp only [List.zipIdx_cons, List.foldl_cons]
    simp only [List.length_cons] at h
    rw [foldl_set off l (k + 1) _ (by simp; omega)]
    have e := list_seg_step cs.toList (off + k) v l (by simp; omega)
    simpa [Array.toList_setIfInBounds, Nat.add_assoc] using e
theorem fill_sound {place : Nat → Option (Nat × Nat)} : ∀ (ps : List (Nat × PV)) (vs : List (Nat × Value)) (cs cs' : List PV) (arr : Array Value), CsR g w cs arr.toList →
    vs.length = ps.length → (∀ i, i < ps.length → (vs.getD i default).1 = (ps.getD i default).1 ∧ g.VR w (ps.getD i default).2 (vs.getD i default).2) → fillA place cs ps = some cs' →
    ∃ arr', Instr.fill place arr vs = some arr' ∧ CsR g w cs' arr'.toList ∧ cs'.length = cs.length
  | [], [], cs, cs', arr, h, _, _, hf => by cases hf; exact ⟨arr, rfl, h, rfl⟩
  | (i, x) :: ps, (j, v) :: vs, cs, cs', arr, h, hl, hr, hf => by
    have h0 := hr 0 (by simp)
    simp at h0
    obtain ⟨rfl, hx⟩ := h0
    simp only [fillA] at hf
    obtain ⟨p, hp, hf⟩ := Option.bind_eq_some_iff.1 hf
    obtain ⟨new, hnew, hf⟩ := Option.bind_eq_some_iff.1 hf
    obtain ⟨hok, rfl⟩ := asCells_some hnew
    split at hf
    · rename_i hle
      have hc := CsR.of hx hok
      obtain ⟨s1, _, _⟩ := hx.cells hok
      have hsz : arr.size = cs.length := by simpa using h.1
      have hset : (v.cells.zipIdx.foldl (fun cs (c : Value × Nat) => cs.setIfInBounds (p.1 + c.2) c.1) arr).toList = arr.toList.take p.1 ++ v.cells.toList ++ arr.toList.drop (p.1 + p.2) := by
        rw [← Array.foldl_toList, Array.toList_zipIdx, foldl_set p.1 v.cells.toList 0 arr (by simp [s1]; omega)]
        simp [s1]
      have hstep : CsR g w (cs.take p.1 ++ x.proj p.2 ++ cs.drop (p.1 + p.2)) (v.cells.zipIdx.foldl (fun cs (c : Value × Nat) => cs.setIfInBounds (p.1 + c.2) c.1) arr).toList := by
        rw [hset]
        exact ((h.take _).append hc).append (h.drop _)
      obtain ⟨arr', h1, h2, h3⟩ := fill_sound ps vs _ cs' _ hstep (by simpa using hl) (fun i hi => by have := hr (i + 1) (by simpa using hi); simpa using this) hf
      refine ⟨arr', ?_, h2, ?_⟩
      · simp only [Instr.fill, hp]
        rw [if_neg]
        · exact h1
        · simp [s1, hsz]; omega
      · rw [h3]; simp [proj_length]; omega
    · cases hf
  | [], _ :: _, _, _, _, _, hl, _, _ => by simp at hl
  | _ :: _, [], _, _, _, _, hl, _, _ => by simp at hl
theorem CsR.agg {cs : List PV} {arr : Array Value} (h : CsR g w cs arr.toList) : g.VR w (.agg cs) (.agg arr) :=
  .agg _ _ (by simpa using h.1.symm) (fun i hi => by simpa [Array.getD_eq_getD_getElem?] using (h.2 i hi).2) (fun i hi => by simpa [Array.getD_eq_getD_getElem?] using (h.2 i hi).1)
theorem zeroOf_sound {t : TypeId} {z : List PV} (h : zeroOf P t = some z) : ∃ i zv, P.info? t = some i ∧ i.zero = some zv ∧ CsR g w z zv.cells.toList ∧ z.length = i.size ∧ (zeroValue t).run P w = .ok zv w := by
  unfold zeroOf at h
  obtain ⟨z0, hz, rfl⟩ := Option.map_eq_some_iff.1 h
  obtain ⟨i, zv, h1, h2, _, h4, h5, h6⟩ := zeroPV_sound (g := g) (w := w) hz
  have := CsR.of' h5 h4
  exact ⟨i, zv, h1, h2, this.1, this.2, h6⟩
theorem buildA_sound {t : TypeId} {ps : List (Nat × PV)} {vs : Array (Nat × Value)} {z : PV} (hl : vs.size = ps.length)
    (hr : ∀ i, i < ps.length → (vs.toList.getD i default).1 = (ps.getD i default).1 ∧ g.VR w (ps.getD i default).2 (vs.toList.getD i default).2) (h : buildA P t ps = some z) :
    ∃ r, (Instr.build t vs).run P w = .ok r w ∧ g.VR w z r := by
  unfold buildA at h
  obtain ⟨zc, hz, h⟩ := Option.bind_eq_some_iff.1 h
  obtain ⟨i, zv, hi, hzv, hc, hlen, hrun⟩ := zeroOf_sound (g := g) (w := w) hz
  split at h
  · rename_i fs hu
    obtain ⟨pl, hpl, h⟩ := Option.bind_eq_some_iff.1 h
    obtain ⟨cs, hcs, rfl⟩ := Option.map_eq_some_iff.1 h
    obtain ⟨arr', h1, h2, _⟩ := fill_sound ps vs.toList zc cs zv.cells hc (by simpa using hl) hr hcs
    refine ⟨.agg arr', run_build w t vs arr' ?_, h2.agg⟩
    unfold placesOf at hpl
    simp only [Program.built, hi, hu, hzv, hpl]
    simpa using h1
  · cases h
theorem foldI_sound {gf : Int → Int → Int} {f2 : Value → Value → Sem Value} (hf : ∀ k a b, f2 (.int k a) (.int k b) = pure (.int k (gf a b))) {k : IntKind} :
    ∀ (xs : List PV) (vs : List Value) (n m : Int), vs.length = xs.length → (∀ i, i < xs.length → g.VR w (xs.getD i .undef) (vs.getD i Go.undef)) → foldI gf k n xs = some m →
      (vs.foldlM f2 (.int k n)).run P w = .ok (.int k m) w
  | [], [], n, m, _, _, h => by cases h; rfl
  | x :: xs, v :: vs, n, m, hl, hr, h => by
    have h0 : g.VR w x v := hr 0 (by simp)
    unfold foldI at h
    split at h
    · rename_i he; cases he
    · rename_i k' b rest he
      cases he
      split at h
      · rename_i e; subst e
        cases h0
        simp only [List.foldlM_cons, hf, Sem.run_bind, Sem.run_pure, Result.andThen_ok]
        exact foldI_sound hf xs vs _ m (by simpa using hl) (fun i hi => by have := hr (i + 1) (by simpa using hi); simpa using this) h
      · cases h
    · cases h
  | [], _ :: _, _, _, hl, _, _ => by simp at hl
  | _ :: _, [], _, _, hl, _, _ => by simp at hl
theorem foldInt_sound {gf : Int → Int → Int} {f2 : Value → Value → Sem Value} (hf : ∀ k a b, f2 (.int k a) (.int k b) = pure (.int k (gf a b))) (xs : List PV) (vs : List Value) (z : PV)
    (hl : vs.length = xs.length) (hr : ∀ i, i < xs.length → g.VR w (xs.getD i .undef) (vs.getD i Go.undef)) (h : foldInt gf xs = some z) :
      ∃ v rest r, vs = v :: rest ∧ (rest.foldlM f2 v).run P w = .ok r w ∧ g.VR w z r := by
  unfold foldInt at h
  split at h
  · rename_i k a rest
    obtain ⟨m, hm, rfl⟩ := Option.map_eq_some_iff.1 h
    cases vs with
    | nil => simp at hl
    | cons v vs =>
      have h0 : g.VR w (.int k a) v := hr 0 (by simp)
      cases h0
      exact ⟨_, vs, _, rfl, foldI_sound hf rest vs a m (by simpa using hl) (fun i hi => by have := hr (i + 1) (by simpa using hi); simpa using this) hm, .int _ _⟩
  · cases h
theorem lenStr_sound {t : TypeId} {x : PV} {n : Int} {v : Value} {ty : TypeId} (hs : isStr P t = true) (hx : g.VR w x v) (h : lenStr x = some n) :
    (Builtin.len_ #[t] ty #[v]).run P w = .ok (.int .i64 n) w := by
  have hu := isStr_some hs
  cases hx <;> simp [lenStr] at h
  subst h
  simp [Builtin.len_, run_underlying hu, goInt]
theorem lenSl_sound {t : TypeId} {x : PV} {n : Int} {v : Value} {ty : TypeId} (hs : isSlice P t = true) (hx : g.VR w x v) (h : lenSl x = some n) :
    (Builtin.len_ #[t] ty #[v]).run P w = .ok (.int .i64 n) w := by
  obtain ⟨e, hu⟩ := isSlice_some hs
  cases hx <;> simp [lenSl] at h <;> subst h <;> simp [Builtin.len_, run_underlying hu, goInt]
theorem lenMap_sound {S : St} {t kt et : TypeId} {x : PV} {es : List (PV × PV)} {v : Value} {ty : TypeId} (hS : StR g S w) (hm : mapOf P t = some (kt, et)) (hx : g.VR w x v) (h : mapEs S x = some es) :
    (Builtin.len_ #[t] ty #[v]).run P w = .ok (.int .i64 es.length) w := by
  obtain ⟨hu, _⟩ := mapOf_some hm
  rcases mapEs_sound hS hx h with ⟨rfl, rfl⟩ | ⟨b, ents, clock, rfl, hb, hsz, _⟩
  · simp [Builtin.len_, run_underlying hu, goInt]
  · have hg : (getObj b).run P w = .ok (.map ents clock) w := by simp [getObj, Sem.run, hb]
    simp [Builtin.len_, run_underlying hu, goInt, hg, hsz]
end
end Go.Abs
