import Derived.Below
import Derived.Orders
import Derived.Laws.CopyRow
import Derived.Great.FillDense
import Derived.Deep.AppendSrc
import Derived.Deep.Upon
set_option linter.unusedVariables false
set_option linter.unusedSimpArgs false
set_option linter.unusedSectionVars false
namespace Go.Proofs.YtapchldnmkfkoabDoor.Am
open Go

/-- A value as the abstract machine has it: frozen slices and frozen pointers bear what they hold; own ones a number. -/
inductive AV where
  | any
  | bool (b : Bool)
  | int (k : IntKind) (n : Int)
  | str (s : ByteArray)
  | agg (cs : List AV)
  | tup (vs : List AV)
  | fsl (els : List AV)
  | fptr (cs : List AV) (off : Nat)
  | osl (id off len tot : Nat)
  | optr (id off tot : Nat)
  | eptr (id ix off tot : Nat)
  | func (fn : Fn) (first cap : List AV)
  | nilf | nilp | nilsl | nili
  /-- one cell, as it is -/
  | raw (v : Value)
  /-- nil, or a pointer to the object's own first cell -/
  | slf (id tot : Nat)
  deriving Inhabited

/-- The cells of a value. -/
def AV.cells : AV → List AV
  | .agg cs => cs
  | v => [v]

def AV.one : AV → Bool
  | .any | .agg _ | .tup _ => false
  | _ => true

inductive Ob where
  | box (cells : List AV)
  | arr (esz : Nat) (els : List AV) (ro : Bool)
  /-- an object of which nothing is known any more -/
  | gone (n : Nat)
  /-- a strings.Builder: its own address (or nil), hidden; and its buffer -/
  | bld (ty : TypeId) (c : AV)
  /-- an own row in whose elements lie rows that are its own, too: cell by cell the width of such a row's elements -/
  | nar (esz : Nat) (els : List AV) (zs : List Nat)
  deriving Inhabited

def Ob.len : Ob → Nat
  | .box cs => cs.length
  | .arr _ es _ => es.length
  | .gone n => n
  | .bld _ _ => 2
  | .nar _ es _ => es.length

/-- An element's size, and the elements, of an own row. -/
def Ob.row : Ob → Option (Nat × List AV)
  | .arr esz es _ => some (esz, es)
  | .nar esz es _ => some (esz, es)
  | _ => none
def rowO (o : Option Ob) : Option (Nat × List AV) := match o with
  | some o => o.row
  | none => none

abbrev Hp := List (Nat × Ob)

def lkp {α : Type} : List (Nat × α) → Nat → Option α
  | [], _ => none
  | (i, v) :: m, j => if i = j then some v else lkp m j

def lk (m : List (Nat × AV)) (j : Nat) : AV := (lkp m j).getD .any

/-- The shape in which a value of a type is loaded: one cell, or so many together. -/
inductive TS where
  | sc
  | ag (n : Nat)

def TS.size : TS → Nat
  | .sc => 1
  | .ag n => n

def isAg (P : Program) (t : TypeId) : Option Bool :=
  match P.underlying t with
  | some (.struct _) | some (.array _ _) => some true
  | some _ => some false
  | none => none

def tsh (P : Program) (t : TypeId) : Option TS :=
  match isAg P t, P.info? t with
  | some true, some i => some (.ag i.size)
  | some false, some i => if i.size = 1 then some .sc else none
  | _, _ => none

/-- A field's place and shape. -/
def fld (P : Program) (s : TypeId) (f : Nat) : Option (Nat × TS) :=
  match P.underlying s with
  | some (.struct fs) => match fs[f]? with
    | some f => match tsh P f.type, P.info? f.type with
      | some ts, some i => if i.size = 0 then none else some (f.offset, ts)
      | _, _ => none
    | none => none
  | _ => none

/-- An element's shape and its bytes, of a slice type. -/
def elt (P : Program) (t : TypeId) : Option (TypeId × TS × Nat) :=
  match P.underlying t with
  | some (.slice e) => match tsh P e, P.info? e with
    | some ts, some i => if i.size = 0 then none else some (e, ts, i.bytes)
    | _, _ => none
  | _ => none

/-- Length and element's shape of an array type. -/
def art (P : Program) (t : TypeId) : Option (Nat × TS) :=
  match P.underlying t with
  | some (.array n e) => match tsh P e, P.info? e with
    | some ts, some i => if i.size = 0 then none else some (n, ts)
    | _, _ => none
  | _ => none

mutual
def ofV : Value → AV
  | .bool b => .bool b
  | .int k n => .int k n
  | .string s => .str s
  | .pointer none => .nilp
  | .slice none 0 0 => .nilsl
  | .nilFunc => .nilf
  | .nilIface => .nili
  | .agg ⟨cs⟩ => if (ofVL cs).all AV.one then .agg (ofVL cs) else .any
  | .tuple ⟨cs⟩ => .tup (ofVL cs)
  | .func fn ⟨[]⟩ ⟨[]⟩ => .func fn [] []
  | _ => .any
def ofVL : List Value → List AV
  | [] => []
  | v :: vs => ofV v :: ofVL vs
end

def zer (P : Program) (t : TypeId) : Option AV := ((P.info? t).bind (·.zero)).map ofV

/-- Field places for 'build'. -/
def plc (P : Program) (t : TypeId) : Option (List (Nat × Nat)) :=
  match P.underlying t with
  | some (.struct fs) => fs.toList.mapM fun f => (P.info? f.type).map fun i => (f.offset, i.size)
  | _ => none

structure Eff where
  v : AV
  rd : List Nat
  wr : Hp
  nx : Nat

def Eff.pure (v : AV) (nx : Nat) : Option Eff := some ⟨v, [], [], nx⟩

def spl (cs : List AV) (off : Nat) (new : List AV) : List AV := cs.take off ++ new ++ cs.drop (off + new.length)

/-- What a load of a shape finds among cells. -/
def ldc (ts : TS) (cs : List AV) (off : Nat) : Option AV :=
  match ts with
  | .sc => cs[off]?
  | .ag n => if off + n ≤ cs.length then some (.agg ((cs.drop off).take n)) else none

def sve (e : AV) (off : Nat) (new : List AV) : Option AV :=
  match e with
  | .agg cs => if off + new.length ≤ cs.length then some (.agg (spl cs off new)) else none
  | _ => match off, new with
    | 0, [v] => some v
    | _, _ => none

def filA (places : Nat → Option (Nat × Nat)) (cells : List AV) : List (Nat × AV) → Option (List AV)
  | [] => some cells
  | (i, v) :: rest =>
    match places i with
    | none => none
    | some (off, size) =>
      if v.cells.length = size ∧ off + size ≤ cells.length ∧ v.cells.all AV.one then filA places (spl cells off v.cells) rest else none


/-! The own numbers that a value bears. -/
mutual
def ids : AV → List Nat
  | .osl id _ _ _ => [id]
  | .optr id _ _ => [id]
  | .eptr id _ _ _ => [id]
  | .slf id _ => [id]
  | .agg cs => idsL cs
  | .tup cs => idsL cs
  | .func _ f c => idsL f ++ idsL c
  | _ => []
def idsL : List AV → List Nat
  | [] => []
  | c :: cs => ids c ++ idsL cs
end
/-! A value frozen: what it leads to is read out of the heap. -/
mutual
def frzW (g : Nat → Option Ob) (bx : List AV → Option (List AV)) : AV → Option AV
  | .any => none
  | .slf _ _ => none
  | .agg cs => (frzWL g bx cs).map .agg
  | .tup cs => (frzWL g bx cs).map .tup
  | .func fn f c => match frzWL g bx f, frzWL g bx c with
    | some f, some c => some (.func fn f c)
    | _, _ => none
  | .nilsl => some (.fsl [])
  | .osl id off len tot => match g id with
    | some (.arr _ es _) => if tot = es.length ∧ off + len ≤ es.length then some (.fsl ((es.drop off).take len)) else none
    | some (.nar _ es _) => if (tot = es.length ∧ off + len ≤ es.length) ∧ (idsL es).isEmpty = true then some (.fsl ((es.drop off).take len)) else none
    | _ => none
  | .optr id off tot => match g id with
    | some (.box cs) => if tot = cs.length then (bx cs).map (.fptr · off) else none
    | _ => none
  | .eptr id ix off tot => match g id with
    | some (.arr _ es _) => if tot = es.length then match es[ix]? with
      | some e => some (.fptr e.cells off)
      | none => none
      else none
    | _ => none
  | v => some v
def frzWL (g : Nat → Option Ob) (bx : List AV → Option (List AV)) : List AV → Option (List AV)
  | [] => some []
  | c :: cs => match frzW g bx c, frzWL g bx cs with
    | some c, some cs => some (c :: cs)
    | _, _ => none
end
def bxD (g : Nat → Option Ob) : Nat → List AV → Option (List AV)
  | 0, _ => none
  | d + 1, cs => frzWL g (bxD g d) cs
def frz (g : Nat → Option Ob) (v : AV) : Option AV := frzW g (bxD g 3) v
def frzL (g : Nat → Option Ob) (v : List AV) : Option (List AV) := frzWL g (bxD g 3) v

def Ob.ids : Ob → List Nat
  | .box cs => idsL cs
  | .arr _ _ _ => []
  | .gone _ => []
  | .bld _ c => _root_.Go.Proofs.YtapchldnmkfkoabDoor.Am.ids c
  | .nar _ es _ => idsL es

def addTo (l : List Nat) : List Nat → List Nat
  | [] => l
  | x :: xs => if l.contains x then addTo l xs else addTo (l ++ [x]) xs

/-- The numbers that are reached. -/
def clo (g : Nat → Option Ob) : Nat → List Nat → List Nat
  | 0, l => l
  | d + 1, l => clo g d (addTo l (l.flatMap fun i => match g i with | some o => o.ids | none => []))

mutual
def ren (f : Nat → Nat) : AV → AV
  | .osl id off len tot => .osl (f id) off len tot
  | .optr id off tot => .optr (f id) off tot
  | .eptr id ix off tot => .eptr (f id) ix off tot
  | .slf id tot => .slf (f id) tot
  | .agg cs => .agg (renL f cs)
  | .tup cs => .tup (renL f cs)
  | .func fn a c => .func fn (renL f a) (renL f c)
  | v => v
def renL (f : Nat → Nat) : List AV → List AV
  | [] => []
  | c :: cs => ren f c :: renL f cs
end
def Ob.ren (f : Nat → Nat) : Ob → Ob
  | .box cs => .box (renL f cs)
  | .bld t c => .bld t (_root_.Go.Proofs.YtapchldnmkfkoabDoor.Am.ren f c)
  | .nar esz es zs => .nar esz (renL f es) zs
  | o => o

mutual
/-- Nothing frozen is in it. -/
def plain : AV → Bool
  | .bool _ | .int _ _ | .str _ | .osl .. | .optr .. | .eptr .. | .nilf | .nilp | .nilsl | .nili | .raw _ | .slf .. => true
  | .agg cs => plainL cs
  | .tup cs => plainL cs
  | _ => false
def plainL : List AV → Bool
  | [] => true
  | c :: cs => plain c && plainL cs
end

def Ob.plain : Ob → Bool
  | .box cs => plainL cs
  | .arr _ es ro => !ro && plainL es
  | .gone _ => true
  | .bld _ c => _root_.Go.Proofs.YtapchldnmkfkoabDoor.Am.plain c
  | .nar _ _ _ => true

def ixOf : List Nat → Nat → Nat
  | [], _ => 0
  | x :: xs, i => if x = i then 0 else ixOf xs i + 1

structure Md where
  own : Bool := false
  keep : Bool := false
  /-- What comes back is plain: what was handed over frozen may be written again. -/
  lend : Bool := false

/-- Make what these numbers bear unwritable from now on; none where one is a box. -/
def roAll (g : Nat → Option Ob) : List Nat → Option Hp
  | [] => some []
  | i :: is => match g i, roAll g is with
    | some (.arr e es _), some h => some ((i, .arr e es true) :: h)
    | some (.nar e es _), some h => if (idsL es).isEmpty = true then some ((i, .arr e es true) :: h) else none
    | _, _ => none

def outOf (g : Nat → Option Ob) : List Nat → Option (List Ob)
  | [] => some []
  | i :: is => match g i, outOf g is with
    | some o, some os => some (o :: os)
    | _, _ => none

def zipAt (nx : Nat) : List Ob → Hp
  | [] => []
  | o :: os => (nx, o) :: zipAt (nx + 1) os

def zipTo : List Nat → List Ob → Hp
  | i :: is, o :: os => (i, o) :: zipTo is os
  | _, _ => []

/-- Is all that these objects lead to among them? -/
def closed (g : Nat → Option Ob) (l : List Nat) : Bool := l.all fun i => match g i with | some o => o.ids.all (l.contains ·) | none => true

abbrev Cl := FuncId → List AV → List Ob → Option (AV × List Ob)

/-- A call, seen from the caller. -/
def callV (cl : Cl) (E : FuncId → Md) (f : FuncId) (args : List AV) (g : Nat → Option Ob) (nx : Nat) : Option Eff :=
  let is := clo g 3 (addTo [] (idsL args))
  if !closed g is then none else
  if (E f).own then
    match outOf g is with
    | none => none
    | some sub => match cl f (renL (ixOf is) args) (sub.map (Ob.ren (ixOf is))) with
      | none => none
      | some (v, obs) =>
        let back := fun i => if i < is.length then is.getD i 0 else nx + (i - is.length)
        let obs := obs.map (Ob.ren back)
        some ⟨ren back v, is, zipTo is obs ++ zipAt nx (obs.drop is.length), nx + (obs.length - is.length)⟩
  else
    match frzL g args with
    | none => none
    | some args' => match cl f args' [] with
      | none => none
      | some (v, obs) =>
        match (if is.isEmpty || (plain v && (obs.isEmpty || ((E f).lend && obs.all Ob.plain))) then some [] else roAll g is) with
        | none => none
        | some ro => some ⟨ren (nx + ·) v, is, zipAt nx (obs.map (Ob.ren (nx + ·))) ++ ro, nx + obs.length⟩

/-- What a function hands back: its result, and the objects that came in, then those that are new and reached. -/
def doneV (md : Md) (k : Nat) (g : Nat → Option Ob) (v : AV) : Option (AV × List Ob) :=
  let old := List.range k
  let reach := clo g 3 old
  if md.keep then
    let all := clo g 3 (addTo reach (ids v))
    if !closed g all then none else
    match outOf g all with
    | none => none
    | some obs => some (ren (ixOf all) v, obs.map (Ob.ren (ixOf all)))
  else
    let own := clo g 3 (addTo [] (ids v))
    if !closed g reach || !closed g own || own.any (reach.contains ·) then none else
    match frz g v, outOf g reach with
    | some v, some obs => some (v, obs.map (Ob.ren (ixOf reach)))
    | _, _ => none

def bitsA (op : BinOp) (k : IntKind) (x y : Int) : Option Int :=
  let a := BitVec.ofInt k.bits x
  let b := BitVec.ofInt k.bits y
  match op with
  | .and => some (k.wrap (a &&& b).toNat)
  | .or => some (k.wrap (a ||| b).toNat)
  | .xor => some (k.wrap (a ^^^ b).toNat)
  | .andNot => some (k.wrap (a &&& ~~~b).toNat)
  | _ => none

def intA (op : BinOp) (k : IntKind) (x y : Int) : Option AV :=
  match op with
  | .add => some (.int k (k.wrap (x + y)))
  | .sub => some (.int k (k.wrap (x - y)))
  | .mul => some (.int k (k.wrap (x * y)))
  | .quo => if y = 0 then none else some (.int k (k.wrap (x.tdiv y)))
  | .rem => if y = 0 then none else some (.int k (x.tmod y))
  | .and | .or | .xor | .andNot => (bitsA op k x y).map (.int k)
  | .eql => some (.bool (decide (x = y)))
  | .neq => some (.bool (decide (x ≠ y)))
  | .lss => some (.bool (decide (x < y)))
  | .leq => some (.bool (decide (x ≤ y)))
  | .gtr => some (.bool (decide (x > y)))
  | .geq => some (.bool (decide (x ≥ y)))
  | _ => none

/-- The kinds of cells that are compared as they are. -/
inductive Kc where
  | b | i | s

/-- Whether two rows of cells of these kinds are the same. -/
def eqK : List Kc → List AV → List AV → Option Bool
  | [], [], [] => some true
  | .b :: ks, .bool x :: as, .bool y :: bs => (eqK ks as bs).map fun r => decide (x = y) && r
  | .i :: ks, .int k x :: as, .int k' y :: bs => if k = k' then (eqK ks as bs).map fun r => decide (x = y) && r else none
  | .s :: ks, .str x :: as, .str y :: bs => (eqK ks as bs).map fun r => decide (x = y) && r
  | _, _, _ => none

def kndFs (P : Program) (ok : TypeId → Option (List Kc)) : List Field → Nat → Nat → Option (List Kc)
  | [], o, e => if o = e then some [] else none
  | f :: fs, o, e => match tsh P f.type, ok f.type, kndFs P ok fs (o + ((tsh P f.type).map TS.size).getD 0) e with
    | some ts, some k1, some k2 => if f.name ≠ "_" ∧ f.offset = o ∧ k1.length = ts.size ∧ 0 < ts.size then some (k1 ++ k2) else none
    | _, _, _ => none
/-- The cells' kinds of a type whose values are compared cell by cell: bools, whole numbers, strings, structs of these. -/
def kndIn (P : Program) : Nat → TypeId → Option (List Kc)
  | 0, _ => none
  | d + 1, t => match P.underlying t, P.info? t with
    | some .bool, _ => some [.b]
    | some (.int _), _ => some [.i]
    | some .string, _ => some [.s]
    | some (.struct fs), some i => if P.stoodInHeld t then none else kndFs P (kndIn P d) fs.toList 0 i.size
    | _, _ => none
/-- Is it a struct, and which kinds of cells has it? -/
def eqk (P : Program) (t : TypeId) : Option (Bool × List Kc) :=
  match isAg P t, kndIn P 8 t with
  | some a, some k => if P.eqGuardType P.depth t then none else some (a, k)
  | _, _ => none

def eqA (P : Program) (t : TypeId) (x y : AV) : Option Bool :=
  match eqk P t, x, y with
  | some (true, k), .agg as, .agg bs => eqK k as bs
  | some (false, k), .bool a, .bool b => eqK k [.bool a] [.bool b]
  | _, _, _ => none

def binA (P : Program) (op : BinOp) (t : TypeId) (x y : AV) : Option AV :=
  match op, x, y with
  | .shl, .int k a, .int _ b => if b < 0 then none else some (.int k (k.wrap (a * 2 ^ (min b.toNat k.bits))))
  | .shr, .int k a, .int _ b => if b < 0 then none else some (.int k (a.fdiv (2 ^ (min b.toNat k.bits))))
  | op, .int k a, .int k' b => if k = k' then intA op k a b else none
  | .add, .str a, .str b => if ((a.size + b.size : Nat) : Int) > IntKind.i64.max then none else some (.str (a ++ b))
  | .eql, .str a, .str b => some (.bool (decide (a = b)))
  | .neq, .str a, .str b => some (.bool (decide (a ≠ b)))
  | .eql, x, y => (eqA P t x y).map .bool
  | .neq, x, y => (eqA P t x y).map (fun b => .bool (!b))
  | _, _, _ => none

def unA (op : UnOp) (x : AV) : Option AV :=
  match op, x with
  | .neg, .int k n => some (.int k (k.wrap (0 - n)))
  | .not, .bool b => some (.bool !b)
  | _, _ => none

/-- The elements of a slice value. -/
def elsOf (g : Nat → Option Ob) : AV → Option (List AV × List Nat)
  | .fsl es => some (es, [])
  | .nilsl => some ([], [])
  | .osl id off len tot => match g id with
    | some (.arr _ es _) => if tot = es.length ∧ off + len ≤ es.length then some ((es.drop off).take len, [id]) else none
    | _ => none
  | _ => none

def byteAV (b : UInt8) : AV := .int .u8 b.toNat
def byteOfAV : AV → Option UInt8
  | .int .u8 n => some (UInt8.ofNat n.toNat)
  | _ => none
def bytesA : List AV → Option (List UInt8)
  | [] => some []
  | v :: vs => match byteOfAV v, bytesA vs with
    | some b, some bs => some (b :: bs)
    | _, _ => none

inductive Cv where
  | int (k : IntKind) | str | bytesStr
def cvt (P : Program) (src dst : TypeId) : Option Cv :=
  match P.underlying src, P.underlying dst with
  | some (.int _), some (.int k) => some (.int k)
  | some .string, some .string => some .str
  | some (.slice e), some .string => match P.underlying e with
    | some (.int .u8) => some .bytesStr
    | _ => none
  | _, _ => none
def cvA (P : Program) (src dst : TypeId) (g : Nat → Option Ob) (nx : Nat) (x : AV) : Option Eff :=
  match cvt P src dst, x with
  | some (.int k), .int _ n => Eff.pure (.int k (k.wrap n)) nx
  | some .str, .str s => Eff.pure (.str s) nx
  | some .bytesStr, x => match elsOf g x with
    | some (es, is) => match bytesA es with
      | some bs => some ⟨.str ⟨bs.toArray⟩, is, [], nx⟩
      | none => none
    | none => none
  | _, _ => none

def room : Nat := 2 ^ 44

def widths (n : Nat) (es : List AV) : Bool := es.all fun e => e.cells.length == n && e.cells.all AV.one

/-- Is a type a slice or a string (what 'append' may take behind)? -/
def srcTy (P : Program) (t : TypeId) : Bool :=
  match P.underlying t with
  | some (.slice _) | some .string => true
  | _ => false

/-- What may stand behind in 'append' and 'copy'. -/
def srcOf (ts : TS) (g : Nat → Option Ob) : AV → Option (List AV × List Nat)
  | .str b => if ts.size = 1 then some (b.data.toList.map byteAV, []) else none
  | x => elsOf g x

def appA (P : Program) (t t2 : TypeId) (s x : AV) (g : Nat → Option Ob) (nx : Nat) : Option Eff :=
  match elt P t with
  | none => none
  | some (e, ts, bytes) =>
    if !srcTy P t2 then none else
    match zer P e with
    | none => none
    | some z =>
    if z.cells.length ≠ ts.size ∨ bytes = 0 ∨ 1048576 < bytes ∨ z.cells.all AV.one = false then none else
    match srcOf ts g x with
    | none => none
    | some (src, is) =>
      if !widths ts.size src then none else
      match s with
      | .nilsl => if src.length * bytes ≤ room then some ⟨.osl nx 0 src.length src.length, is, [(nx, .arr ts.size src false)], nx + 1⟩ else none
      | .osl id off len tot => match g id with
        | some (.arr esz es false) =>
          if esz = ts.size ∧ tot = es.length ∧ (len + src.length) * bytes ≤ room then
            if off = 0 ∧ len = es.length then
              some ⟨.osl id 0 (len + src.length) (tot + src.length), id :: is, [(id, .arr esz (es ++ src) false)], nx⟩
            else if off + len + src.length ≤ es.length then
              some ⟨.osl id off (len + src.length) tot, id :: is, [(id, .arr esz (es.take (off + len) ++ src ++ es.drop (off + len + src.length)) false)], nx⟩
            else none
          else none
        | _ => none
      | _ => none

/-- The width of the elements of the rows that lie in a value of a type, cell by cell; 0: no row. -/
def zsP (P : Program) : Nat → TypeId → List Nat
  | 0, _ => []
  | d + 1, t => match P.underlying t with
    | some (.struct fs) => fs.toList.flatMap fun f => zsP P d f.type
    | some (.array n e) => (List.replicate n (zsP P d e)).flatten
    | some (.slice e) => [match P.info? e with | some i => i.size | none => 0]
    | _ => [0]
def deepP (P : Program) (t : TypeId) : Bool := (zsP P 6 t).any fun z => decide (0 < z)

/-- 'append' of a row with rows behind another. -/
def napA (P : Program) (t t2 : TypeId) (s x : AV) (g : Nat → Option Ob) (nx : Nat) : Option Eff :=
  match elt P t with
  | none => none
  | some (e, ts, bytes) =>
    if !srcTy P t2 then none else
    match zer P e with
    | none => none
    | some z =>
    if z.cells.length ≠ ts.size ∨ bytes = 0 ∨ 1048576 < bytes ∨ z.cells.all AV.one = false then none else
    match s, x with
    | .osl id off len tot, .osl id2 off2 len2 tot2 => match g id, g id2 with
      | some (.nar esz es zs), some (.nar esz2 es2 zs2) =>
          if ((esz = ts.size ∧ esz2 = ts.size ∧ zs = zs2) ∧ tot = es.length ∧ off = 0 ∧ len = es.length ∧ tot2 = es2.length ∧ off2 = 0 ∧ len2 = es2.length) ∧ 0 < len2 ∧ id ≠ id2 ∧ (len + len2) * bytes ≤ room then
            some ⟨.osl id 0 (len + len2) (tot + len2), [id, id2], [(id, .nar esz (es ++ es2) zs), (id2, .gone len2)], nx⟩
          else none
      | _, _ => none
    | _, _ => none

/-- No more than so many elements of an own row. -/
def trmA (len : Nat) : AV → AV
  | .osl id off l tot => .osl id off (min l len) tot
  | v => v
def trmS : AV → AV → AV
  | .osl _ _ len _, x => trmA len x
  | _, x => x
def cpyA (P : Program) (t t2 : TypeId) (s x : AV) (g : Nat → Option Ob) (nx : Nat) : Option Eff :=
  match elt P t with
  | none => none
  | some (_, ts, _) =>
    if !srcTy P t2 then none else
    match srcOf ts g (trmS s x) with
    | none => none
    | some (src, is) =>
      if !widths ts.size src then none else
      match s with
      | .osl id off len tot => match g id with
        | some (.arr esz es false) =>
          if esz = ts.size ∧ tot = es.length ∧ off + len ≤ es.length ∧ src.length ≤ len then
            some ⟨.int .i64 src.length, id :: is, [(id, .arr esz (es.take off ++ src ++ es.drop (off + src.length)) false)], nx⟩
          else none
        | _ => none
      | _ => none

def max2A : AV → AV → Option AV
  | .int k x, .int k' y => if k = k' then some (.int k (if y > x then y else x)) else none
  | _, _ => none
def min2A : AV → AV → Option AV
  | .int k x, .int k' y => if k = k' then some (.int k (if y < x then y else x)) else none
  | _, _ => none
def foldA (f : AV → AV → Option AV) : AV → List AV → Option AV
  | a, [] => some a
  | a, b :: bs => match f a b with
    | some c => foldA f c bs
    | none => none

/-- What is nil stands in a row as an empty one. -/
def fzc : AV → AV
  | .nilsl => .fsl []
  | v => v
def fz : AV → AV
  | .agg cs => .agg (cs.map fzc)
  | v => fzc v

def mkA (P : Program) (t : TypeId) (l c : AV) (nx : Nat) : Option Eff :=
  match elt P t, l, c with
  | some (e, ts, bytes), .int .i64 l, .int .i64 c =>
    match zer P e with
    | some z => if 0 ≤ l ∧ l ≤ c ∧ c ≤ room ∧ c * bytes ≤ room ∧ z.cells.length = ts.size ∧ z.cells.all AV.one then
        some ⟨.osl nx 0 l.toNat l.toNat, [], [(nx, if (deepP P e && plainL z.cells) = true then .nar ts.size (List.replicate l.toNat (fz z)) (zsP P 6 e) else .arr ts.size (List.replicate l.toNat (fz z)) false)], nx + 1⟩ else none
    | none => none
  | _, _, _ => none

def numA : Option AV → Option (Option Int)
  | none => some none
  | some (.int _ n) => some (some n)
  | _ => none

def slcA (P : Program) (t : TypeId) (x : AV) (lo hi mx : Option AV) (g : Nat → Option Ob) (nx : Nat) : Option Eff :=
  match numA lo, numA hi, numA mx with
  | some lo, some hi, some mx =>
    match x with
    | .str s => match P.underlying t with
      | some .string =>
        let h := hi.getD s.size
        let l := lo.getD 0
        if mx = none ∧ 0 ≤ l ∧ l ≤ h ∧ h ≤ s.size then Eff.pure (.str (s.extract l.toNat h.toNat)) nx else none
      | _ => none
    | _ => match elt P t with
      | none => none
      | some (_, ts, _) =>
        match x with
        | .fsl es =>
          let h := hi.getD es.length
          let l := lo.getD 0
          match mx with
          | none => if 0 ≤ l ∧ l ≤ h ∧ h ≤ es.length ∧ es.all (fun e => e.cells.length == ts.size) = true then Eff.pure (.fsl ((es.drop l.toNat).take (h - l).toNat)) nx else none
          | some m => if l = h ∧ h = m ∧ 0 ≤ l ∧ l ≤ es.length ∧ hi.isSome = true then Eff.pure .nilsl nx else none
        | .nilsl =>
          let h := hi.getD 0
          let l := lo.getD 0
          let m := mx.getD 0
          if l = 0 ∧ h = 0 ∧ m = 0 ∧ (mx.isSome = true → hi.isSome = true) then Eff.pure .nilsl nx else none
        | .osl id off len tot =>
          let h := hi.getD len
          let l := lo.getD 0
          match rowO (g id) with
          | some (esz, es) =>
            if tot = es.length ∧ off + len ≤ es.length ∧ esz = ts.size then
              match mx with
              | none => if 0 ≤ l ∧ l ≤ h ∧ (off : Int) + h ≤ es.length then some ⟨.osl id (off + l.toNat) (h - l).toNat tot, [id], [], nx⟩ else none
              | some m => if 0 ≤ l ∧ l ≤ h ∧ h ≤ m ∧ m ≤ len ∧ hi.isSome = true then some ⟨if l = m then .nilsl else .any, [id], [], nx⟩ else none
            else none
          | _ => none
        | _ => none
  | _, _, _ => none

/-- Is it the object as it was when the pointer was made? -/
def liveA (g : Nat → Option Ob) (id tot : Nat) : Bool := match g id with | some ob => tot == ob.len | none => false

def ixA (P : Program) (t : TypeId) (x i : AV) (g : Nat → Option Ob) (nx : Nat) : Option Eff :=
  match i with
  | .int _ i =>
    if i < 0 then none else
    match x with
    | .fsl es => match elt P t, es[i.toNat]? with
      | some (_, ts, _), some e => if es.all (fun e => e.cells.length == ts.size) = true then Eff.pure (.fptr e.cells 0) nx else none
      | _, _ => none
    | .osl id off len tot => match elt P t, rowO (g id) with
      | some (_, ts, _), some (esz, es) =>
        if esz = ts.size ∧ tot = es.length ∧ i < len ∧ off + len ≤ es.length then some ⟨.eptr id (off + i.toNat) 0 tot, [id], [], nx⟩ else none
      | _, _ => none
    | .optr id off tot => match art P t with
      | some (n, ts) => if i < n ∧ liveA g id tot then some ⟨.optr id (off + i.toNat * ts.size) tot, [id], [], nx⟩ else none
      | none => none
    | .eptr id ix off tot => match art P t with
      | some (n, ts) => if i < n ∧ liveA g id tot then some ⟨.eptr id ix (off + i.toNat * ts.size) tot, [id], [], nx⟩ else none
      | none => none
    | .fptr cs off => match art P t with
      | some (n, ts) => if i < n then Eff.pure (.fptr cs (off + i.toNat * ts.size)) nx else none
      | none => none
    | _ => none
  | _ => none

def idxA (P : Program) (t : TypeId) (x i : AV) : Option AV :=
  match x, i with
  | .str s, .int _ i => if 0 ≤ i then match s.data.toList[i.toNat]? with
    | some b => match P.underlying t with
      | some .string => some (.int .u8 b.toNat)
      | _ => none
    | none => none
    else none
  | .agg cs, .int _ i => match art P t with
    | some (n, ts) => if 0 ≤ i ∧ i < n then ldc ts cs (i.toNat * ts.size) else none
    | none => none
  | _, _ => none

/-- A row that lies in an element is taken out: an own row from now on, until it is put back. -/
def brwA (id ix off esz : Nat) (es : List AV) (zs : List Nat) (e : AV) (r : List AV) (nx : Nat) : Option Eff :=
  match sve e off [.osl nx 0 r.length r.length] with
  | some e' => if 0 < zs.getD off 0 then some ⟨.osl nx 0 r.length r.length, [id], [(id, .nar esz (es.set ix e') zs), (nx, .arr (zs.getD off 0) r false)], nx + 1⟩ else none
  | none => none

/-- All rows that lie in an element's cells are taken out. -/
def brwL (zs : List Nat) : List AV → Nat → Nat → Option (List AV × Hp × Nat)
  | [], _, nx => some ([], [], nx)
  | .fsl r :: cs, k, nx => if 0 < zs.getD k 0 then (brwL zs cs (k + 1) (nx + 1)).map fun x => (.osl nx 0 r.length r.length :: x.1, (nx, .arr (zs.getD k 0) r false) :: x.2.1, x.2.2) else none
  | c :: cs, k, nx => if plain c = true then (brwL zs cs (k + 1) nx).map fun x => (c :: x.1, x.2.1, x.2.2) else none
def brwE (id ix off esz : Nat) (es : List AV) (zs : List Nat) (n : Nat) (e : AV) (nx : Nat) : Option Eff := match e with
  | .agg cs => if off = 0 ∧ n = cs.length then (brwL zs cs 0 nx).map fun x => ⟨.agg x.1, [id], (id, .nar esz (es.set ix (.agg x.1)) zs) :: x.2.1, x.2.2⟩ else none
  | _ => none

def ldA (P : Program) (t : TypeId) (a : AV) (g : Nat → Option Ob) (nx : Nat) : Option Eff :=
  match tsh P t with
  | none => none
  | some ts =>
    match a with
    | .fptr cs off => (ldc ts cs off).bind fun v => Eff.pure v nx
    | .optr id off tot => match g id with
      | some (.box cs) => if tot = cs.length then (ldc ts cs off).map fun v => ⟨v, [id], [], nx⟩ else none
      | some (.bld _ c) => if tot = 2 ∧ off = 1 ∧ ts.size = 1 then (ldc ts [c] 0).map fun v => ⟨v, [id], [], nx⟩ else none
      | _ => none
    | .eptr id ix off tot => match g id with
      | some (.arr _ es _) => if tot = es.length then match es[ix]? with
        | some e => (ldc ts e.cells off).map fun v => ⟨v, [id], [], nx⟩
        | none => none
        else none
      | some (.nar esz es zs) => if tot = es.length then match es[ix]? with
        | some e => match ldc ts e.cells off with
          | some (.fsl r) => brwA id ix off esz es zs e r nx
          | some v => if plain v = true then some ⟨v, [id], [], nx⟩ else brwE id ix off esz es zs v.cells.length e nx
          | none => none
        | none => none
        else none
      | _ => none
    | _ => none

def stA (P : Program) (t : TypeId) (a x : AV) (g : Nat → Option Ob) (nx : Nat) : Option Eff :=
  match tsh P t with
  | none => none
  | some ts =>
    if x.cells.length = ts.size ∧ x.cells.all AV.one then
      match a with
      | .optr id off tot => match g id with
        | some (.box cs) => if tot = cs.length ∧ off + ts.size ≤ cs.length then some ⟨.any, [id], [(id, .box (spl cs off x.cells))], nx⟩ else none
        | some (.bld t c) => if tot = 2 ∧ off = 1 then match x.cells with
          | [y] => some ⟨.any, [id], [(id, .bld t y)], nx⟩
          | _ => none
          else none
        | _ => none
      | .eptr id ix off tot => match g id with
       | some (.nar esz es zs) => if tot = es.length ∧ plain x = true then match es[ix]? with
            | some e => match sve e off x.cells with
              | some e' => some ⟨.any, [id], [(id, .nar esz (es.set ix e') zs)], nx⟩
              | none => none
            | none => none
            else none
       | _ =>
        match frz g x, roAll g (addTo [] (ids x)) with
        | some x', some ro => match g id with
          | some (.arr esz es false) => if tot = es.length ∧ !(ids x).contains id then match es[ix]? with
            | some e => match sve e off x'.cells with
              | some e' => some ⟨.any, id :: ids x, (id, .arr esz (es.set ix e') false) :: ro, nx⟩
              | none => none
            | none => none
            else none
          | _ => none
        | _, _ => none
      | _ => none
    else none

def bldA (P : Program) (t : TypeId) (parts : List (Nat × AV)) : Option AV :=
  match plc P t, zer P t with
  | some pl, some z => if z.cells.all AV.one then (filA (pl[·]?) z.cells parts).map .agg else none
  | _, _ => none

/-- 'build' of an array. -/
def bldArr (P : Program) (t : TypeId) (parts : List (Nat × AV)) : Option AV :=
  match art P t, zer P t with
  | some (_, ts), some z => if z.cells.all AV.one then (filA (fun i => some (i * ts.size, ts.size)) z.cells parts).map .agg else none
  | _, _ => none

def setParts (g : Nat → Option Ob) (n : Nat) : List AV → List (Nat × AV) → Option (List AV)
  | es, [] => some es
  | es, (i, v) :: rest => match frz g v with
    | some v => if v.cells.length = n ∧ i < es.length ∧ v.cells.all AV.one then setParts g n (es.set i v) rest else none
    | none => none

def bslA (P : Program) (t : TypeId) (len : Nat) (parts : List (Nat × AV)) (g : Nat → Option Ob) (nx : Nat) : Option Eff :=
  match elt P t with
  | none => none
  | some (e, ts, _) => match zer P e with
    | none => none
    | some z =>
      if len * ts.size ≤ 2 ^ 24 ∧ z.cells.length = ts.size ∧ z.cells.all AV.one then
        match setParts g ts.size (List.replicate len z) parts, roAll g (addTo [] (idsL (parts.map (·.2)))) with
        | some es, some ro => some ⟨.osl nx 0 len len, addTo [] (idsL (parts.map (·.2))), (nx, .arr ts.size es false) :: ro, nx + 1⟩
        | _, _ => none
      else none

def setPartsH (n : Nat) : List AV → List (Nat × AV) → Option (List AV)
  | es, [] => some es
  | es, (i, v) :: rest => if v.cells.length = n ∧ i < es.length ∧ v.cells.all AV.one then setPartsH n (es.set i v) rest else none
mutual
/-- Does it bear an own row? -/
def hasH : AV → Bool
  | .osl _ _ _ _ => true
  | .agg cs => hasHL cs
  | _ => false
def hasHL : List AV → Bool
  | [] => false
  | c :: cs => hasH c || hasHL cs
end
def nbsA (P : Program) (t : TypeId) (len : Nat) (parts : List (Nat × AV)) (nx : Nat) : Option Eff :=
  match elt P t with
  | none => none
  | some (e, ts, _) => match zer P e with
    | none => none
    | some z =>
      if len * ts.size ≤ 2 ^ 24 ∧ z.cells.length = ts.size ∧ z.cells.all AV.one then
        match setPartsH ts.size (List.replicate len z) parts with
        | some es => if plainL es = true then some ⟨.osl nx 0 len len, [], [(nx, .nar ts.size es (zsP P 6 e))], nx + 1⟩ else none
        | none => none
      else none

def clrA (P : Program) (t : TypeId) (x : AV) (g : Nat → Option Ob) (nx : Nat) : Option Eff :=
  match elt P t with
  | none => none
  | some (e, ts, _) => match zer P e, x with
    | some _, .nilsl => Eff.pure (.tup []) nx
    | some z, .osl id off len tot => match g id with
      | some (.arr esz es false) =>
        if esz = ts.size ∧ tot = es.length ∧ off + len ≤ es.length ∧ z.cells.length = ts.size ∧ z.cells.all AV.one then
          some ⟨.tup [], [id], [(id, .arr esz (es.take off ++ List.replicate len (fz z) ++ es.drop (off + len)) false)], nx⟩
        else none
      | _ => none
    | _, _ => none

/-- 'len'. -/
def lnA (P : Program) (t : TypeId) (x : AV) (g : Nat → Option Ob) (nx : Nat) : Option Eff :=
  match P.underlying t with
  | some (.array n _) => Eff.pure (.int .i64 n) nx
  | some .string => match x with
    | .str s => Eff.pure (.int .i64 s.size) nx
    | _ => none
  | some (.slice _) => match x with
    | .fsl es => Eff.pure (.int .i64 es.length) nx
    | .nilsl => Eff.pure (.int .i64 0) nx
    | .osl id _ len tot => if liveA g id tot then some ⟨.int .i64 len, [id], [], nx⟩ else none
    | _ => none
  | _ => none

/-- Is it an own row whose elements bear handles? -/
def narO (o : Option Ob) : Bool := match o with
  | some (.nar _ _ _) => true
  | _ => false
def isNar (g : Nat → Option Ob) (v : AV) : Bool := match v with
  | .osl id _ _ _ => narO (g id)
  | _ => false

def isArr (P : Program) (t : TypeId) : Bool := match P.underlying t with | some (.array _ _) => true | _ => false

/-- Is it a strings.Builder's like: a pointer to itself, and a slice? -/
def isBld (P : Program) (t : TypeId) : Bool :=
  match P.underlying t, zer P t with
  | some (.struct fs), some (.agg [.nilp, .nilsl]) => match fs[0]? with
    | some f => match P.underlying f.type with
      | some (.pointer t') => t' == t
      | _ => false
    | none => false
  | _, _ => false

def opv (P : Program) (cl : Cl) (E : FuncId → Md) (op : Op) (ρ : Operand → AV) (g : Nat → Option Ob) (nx : Nat) : Option Eff :=
  match op with
  | .move x | .assign x => Eff.pure (ρ x) nx
  | .pick c a b => match ρ c with
    | .bool t => Eff.pure (if t then ρ a else ρ b) nx
    | _ => none
  | .alloc t => match zer P t with
    | some z => if isBld P t then some ⟨.optr nx 0 2, [], [(nx, .bld t .nilsl)], nx + 1⟩ else
      if z.cells.all AV.one ∧ 0 < z.cells.length then some ⟨.optr nx 0 z.cells.length, [], [(nx, .box z.cells)], nx + 1⟩ else none
    | none => none
  | .box _ x => if (ρ x).cells.all AV.one ∧ 0 < (ρ x).cells.length then some ⟨.optr nx 0 (ρ x).cells.length, [], [(nx, .box (ρ x).cells)], nx + 1⟩ else none
  | .build t parts =>
    let ps := parts.toList.map fun p => (p.1, ρ p.2)
    (if isArr P t then bldArr P t ps else bldA P t ps).bind fun v => Eff.pure v nx
  | .buildSlice t len parts => if hasHL (parts.toList.map fun p => ρ p.2) then nbsA P t len (parts.toList.map fun p => (p.1, ρ p.2)) nx else bslA P t len (parts.toList.map fun p => (p.1, ρ p.2)) g nx
  | .load t a => ldA P t (ρ a) g nx
  | .store t a x => stA P t (ρ a) (ρ x) g nx
  | .nilCheck x => match ρ x with
    | .optr i o t => if liveA g i t then some ⟨.optr i o t, [i], [], nx⟩ else none
    | .eptr i ix o t => if liveA g i t then some ⟨.eptr i ix o t, [i], [], nx⟩ else none
    | .fptr cs o => Eff.pure (.fptr cs o) nx
    | _ => none
  | .binOp op t x y _ => (binA P op t (ρ x) (ρ y)).bind fun v => Eff.pure v nx
  | .unOp op _ x => (unA op (ρ x)).bind fun v => Eff.pure v nx
  | .convert src dst x => cvA P src dst g nx (ρ x)
  | .makeFunc fn first cap => Eff.pure (.func fn (first.toList.map ρ) (cap.toList.map ρ)) nx
  | .makeSlice t l c => mkA P t (ρ l) (ρ c) nx
  | .slice t x lo hi mx => slcA P t (ρ x) (lo.map ρ) (hi.map ρ) (mx.map ρ) g nx
  | .fieldAddr s x f => match fld P s f, ρ x with
    | some (o, _), .optr id off tot => if liveA g id tot then some ⟨.optr id (off + o) tot, [id], [], nx⟩ else none
    | some (o, _), .eptr id ix off tot => if liveA g id tot then some ⟨.eptr id ix (off + o) tot, [id], [], nx⟩ else none
    | some (o, _), .fptr cs off => Eff.pure (.fptr cs (off + o)) nx
    | _, _ => none
  | .field s x f => match fld P s f, ρ x with
    | some (o, ts), .agg cs => (ldc ts cs o).bind fun v => Eff.pure v nx
    | _, _ => none
  | .indexAddr t x i => ixA P t (ρ x) (ρ i) g nx
  | .index t x i => (idxA P t (ρ x) (ρ i)).bind fun v => Eff.pure v nx
  | .extract t i => match ρ t with
    | .tup vs => (vs[i]?).bind fun v => Eff.pure v nx
    | _ => none
  | .call c => match c.callee with
    | .builtin .len => match c.args.toList, c.argTypes.toList with
      | [x], [t] => lnA P t (ρ x) g nx
      | _, _ => none
    | .builtin .append => match c.args.toList, c.argTypes.toList with
      | [s, x], [t, t2] => if isNar g (ρ s) then napA P t t2 (ρ s) (ρ x) g nx else appA P t t2 (ρ s) (ρ x) g nx
      | _, _ => none
    | .builtin .copy => match c.args.toList, c.argTypes.toList with
      | [s, x], [t, t2] => cpyA P t t2 (ρ s) (ρ x) g nx
      | _, _ => none
    | .builtin .clear => match c.args.toList, c.argTypes.toList with
      | [x], [t] => clrA P t (ρ x) g nx
      | _, _ => none
    | .builtin .max => match c.args.toList with
      | x :: xs => (foldA max2A (ρ x) (xs.map ρ)).bind fun v => Eff.pure v nx
      | _ => none
    | .builtin .min => match c.args.toList with
      | x :: xs => (foldA min2A (ρ x) (xs.map ρ)).bind fun v => Eff.pure v nx
      | _ => none
    | .value f => match ρ f with
      | .func (.func f) first cap => callV cl E f (first ++ c.args.toList.map ρ ++ cap) g nx
      | _ => none
    | _ => none
  | _ => none
end Go.Proofs.YtapchldnmkfkoabDoor.Am
namespace Go.Proofs.YtapchldnmkfkoabDoor.Am
open Go

/-- What is known of package-level variables (of this program): the first holds an int, the fourth the powers of ten. -/
def powTab : Array Value := ((List.range 20).map fun i => Value.int .u64 ((10 ^ i : Nat) : Int)).toArray
def GLp (f : Nat → Option Obj) : Prop := (∃ a t g m, f 0 = some (.cells a t g) ∧ a[0]? = some (Value.int .i64 m)) ∧ ∃ t g, f 3 = some (.cells powTab t g)
theorem GLp.mono {f f' : Nat → Option Obj} (h : ∀ b o, f b = some o → f' b = some o) (k : GLp f) : GLp f' := by
  obtain ⟨⟨a, t, g, m, k1, k2⟩, t', g', k3⟩ := k
  exact ⟨⟨a, t, g, m, h _ _ k1, k2⟩, t', g', h _ _ k3⟩
structure FM where
  f : Nat → Option Obj
  gl : GLp f
instance : CoeFun FM fun _ => Nat → Option Obj := ⟨FM.f⟩
def FM.grow (φ : FM) (f : Nat → Option Obj) (h : ∀ b o, φ b = some o → f b = some o) : FM := ⟨f, GLp.mono h φ.gl⟩
def FM.cell (φ : FM) (b o : Nat) : Option Value := match φ b with | some (.cells c _ _) => c[o]? | _ => none

structure Loc where
  blk : Nat
  esz : Nat
  cap : Nat
  top : Nat
  /-- further blocks that are the object's own (the rows that lie in its elements) -/
  sub : List Nat

/-- The blocks that are an object's own. -/
def Ob.fp : Ob → Loc → Nat → Prop
  | .gone _, _, _ => False
  | .nar _ _ _, l, b => (0 < l.cap ∧ l.blk = b) ∨ b ∈ l.sub
  | _, l, b => 0 < l.cap ∧ l.blk = b

abbrev LM := Nat → Option Loc
def LM.none : LM := fun _ => Option.none

mutual
def VR (φ : FM) : LM → AV → Value → Prop
  | _, .any, _ => True
  | _, .bool b, v => v = .bool b
  | _, .int k n, v => v = .int k n
  | _, .str s, v => v = .string s
  | m, .agg cs, v => cs.all AV.one = true ∧ ∃ a, v = .agg a ∧ VRL φ m cs a.toList
  | m, .tup cs, v => ∃ a, v = .tuple a ∧ VRL φ m cs a.toList
  | _, .fsl els, v => ∃ ad cap, v = .slice ad els.length cap ∧ els.length ≤ cap ∧ (els.length = 0 ∨ ∃ b o, ad = some ⟨b, o, none⟩ ∧ VRE φ els b o)
  | _, .fptr cs off, v => ∃ b o, v = .pointer (some ⟨b, o + off, none⟩) ∧ VRC φ cs b o
  | m, .osl id off len tot, v => v.oneCell' = true ∧ ∃ l, m id = some l ∧ tot ≤ l.top ∧ (tot = l.top → ∃ ad, v = .slice ad len (l.cap - off) ∧ (off < l.cap → ad = some ⟨l.blk, off * l.esz, none⟩))
  | m, .optr id off tot, v => v.oneCell' = true ∧ ∃ l, m id = some l ∧ tot ≤ l.top ∧ (tot = l.top → v = .pointer (some ⟨l.blk, off, none⟩))
  | m, .eptr id ix off tot, v => v.oneCell' = true ∧ ∃ l, m id = some l ∧ tot ≤ l.top ∧ (tot = l.top → v = .pointer (some ⟨l.blk, ix * l.esz + off, none⟩))
  | m, .func fn f c, v => ∃ f' c', v = .func fn f' c' ∧ VRL φ m f f'.toList ∧ VRL φ m c c'.toList
  | m, .slf id tot, v => v.oneCell' = true ∧ (v = .pointer none ∨ ∃ l, m id = some l ∧ tot ≤ l.top ∧ (tot = l.top → v = .pointer (some ⟨l.blk, 0, none⟩)))
  | _, .nilf, v => v = .nilFunc
  | _, .nilp, v => v = .pointer none
  | _, .nilsl, v => ∃ ad, v = .slice ad 0 0
  | _, .nili, v => v = .nilIface
  | _, .raw u, v => v = u ∧ v.oneCell' = true
def VRL (φ : FM) : LM → List AV → List Value → Prop
  | _, [], l => l = []
  | m, a :: as, l => ∃ v vs, l = v :: vs ∧ VR φ m a v ∧ VRL φ m as vs
/-- Frozen cells from a place on. -/
def VRC (φ : FM) : List AV → Nat → Nat → Prop
  | [], _, _ => True
  | a :: as, b, o => (a.one = true ∧ ∃ u, φ.cell b o = some u ∧ VR φ LM.none a u) ∧ VRC φ as b (o + 1)
/-- Frozen elements from a place on. -/
def VRE (φ : FM) : List AV → Nat → Nat → Prop
  | [], _, _ => True
  | .agg cs :: es, b, o => VRC φ cs b o ∧ VRE φ es b (o + cs.length)
  | e :: es, b, o => (e.one = true ∧ ∃ u, φ.cell b o = some u ∧ VR φ LM.none e u) ∧ VRE φ es b (o + 1)
end

def FM.le (φ φ' : FM) : Prop := ∀ b o, φ b = some o → φ' b = some o
theorem FM.le_refl (φ : FM) : φ.le φ := fun _ _ h => h
theorem FM.le.trans {a b c : FM} (h : a.le b) (k : b.le c) : a.le c := fun _ _ x => k _ _ (h _ _ x)
theorem FM.le.cell {φ φ' : FM} (h : φ.le φ') {b o : Nat} {u : Value} (hc : φ.cell b o = some u) : φ'.cell b o = some u := by
  unfold FM.cell at *
  cases hb : φ b with
  | none => rw [hb] at hc; simp at hc
  | some x => rw [hb] at hc; rw [h b x hb]; exact hc

def Ext (m m' : LM) : Prop := ∀ id l, m id = some l → ∃ l', m' id = some l' ∧ l.top ≤ l'.top ∧ (l'.top = l.top → l'.blk = l.blk ∧ l'.esz = l.esz ∧ l'.cap = l.cap)
theorem Ext.refl (m : LM) : Ext m m := fun _ l h => ⟨l, h, Nat.le_refl _, fun _ => ⟨rfl, rfl, rfl⟩⟩
theorem Ext.trans {a b c : LM} (h : Ext a b) (k : Ext b c) : Ext a c := by
  intro id l hl
  obtain ⟨l1, h1, h2, h3⟩ := h id l hl
  obtain ⟨l2, k1, k2, k3⟩ := k id l1 h1
  refine ⟨l2, k1, Nat.le_trans h2 k2, fun e => ?_⟩
  have e1 : l1.top = l.top := by omega
  have e2 : l2.top = l1.top := by omega
  obtain ⟨a1, a2, a3⟩ := k3 e2
  obtain ⟨b1, b2, b3⟩ := h3 e1
  exact ⟨a1.trans b1, a2.trans b2, a3.trans b3⟩
theorem Ext.none (m : LM) : Ext LM.none m := fun _ _ h => by simp [LM.none] at h

mutual
theorem VR.mono {φ φ' : FM} (hφ : φ.le φ') : ∀ (a : AV) {m m' : LM} {v : Value}, Ext m m' → VR φ m a v → VR φ' m' a v
  | .any, _, _, _, _, _ => by simp [VR]
  | .bool _, _, _, _, _, h => by simpa [VR] using h
  | .int _ _, _, _, _, _, h => by simpa [VR] using h
  | .str _, _, _, _, _, h => by simpa [VR] using h
  | .agg cs, m, m', v, hm, h => by
    simp only [VR] at h ⊢
    obtain ⟨h1, a, rfl, h2⟩ := h
    exact ⟨h1, a, rfl, VRL.mono hφ cs hm h2⟩
  | .tup cs, m, m', v, hm, h => by
    simp only [VR] at h ⊢
    obtain ⟨a, rfl, h2⟩ := h
    exact ⟨a, rfl, VRL.mono hφ cs hm h2⟩
  | .fsl els, m, m', v, hm, h => by
    simp only [VR] at h ⊢
    obtain ⟨ad, cap, rfl, h1, h2⟩ := h
    refine ⟨ad, cap, rfl, h1, h2.imp id ?_⟩
    rintro ⟨b, o, rfl, h3⟩
    exact ⟨b, o, rfl, VRE.mono hφ els h3⟩
  | .fptr cs off, m, m', v, hm, h => by
    simp only [VR] at h ⊢
    obtain ⟨b, o, rfl, h3⟩ := h
    exact ⟨b, o, rfl, VRC.mono hφ cs h3⟩
  | .osl id off len tot, m, m', v, hm, h => by
    simp only [VR] at h ⊢
    obtain ⟨h0, l, h1, h2, h3⟩ := h
    obtain ⟨l', k1, k2, k3⟩ := hm id l h1
    refine ⟨h0, l', k1, by omega, fun e => ?_⟩
    obtain ⟨e1, e2, e3⟩ := k3 (by omega)
    simp only [e1, e2, e3]
    exact h3 (by omega)
  | .optr id off tot, m, m', v, hm, h => by
    simp only [VR] at h ⊢
    obtain ⟨h0, l, h1, h2, h3⟩ := h
    obtain ⟨l', k1, k2, k3⟩ := hm id l h1
    refine ⟨h0, l', k1, by omega, fun e => ?_⟩
    obtain ⟨e1, e2, e3⟩ := k3 (by omega)
    simp only [e1, e2, e3]
    exact h3 (by omega)
  | .eptr id ix off tot, m, m', v, hm, h => by
    simp only [VR] at h ⊢
    obtain ⟨h0, l, h1, h2, h3⟩ := h
    obtain ⟨l', k1, k2, k3⟩ := hm id l h1
    refine ⟨h0, l', k1, by omega, fun e => ?_⟩
    obtain ⟨e1, e2, e3⟩ := k3 (by omega)
    simp only [e1, e2, e3]
    exact h3 (by omega)
  | .func fn f c, m, m', v, hm, h => by
    simp only [VR] at h ⊢
    obtain ⟨f', c', rfl, h1, h2⟩ := h
    exact ⟨f', c', rfl, VRL.mono hφ f hm h1, VRL.mono hφ c hm h2⟩
  | .slf id tot, m, m', v, hm, h => by
    simp only [VR] at h ⊢
    obtain ⟨h0, h⟩ := h
    refine ⟨h0, h.imp (fun h => h) ?_⟩
    rintro ⟨l, h1, h2, h3⟩
    obtain ⟨l', k1, k2, k3⟩ := hm id l h1
    refine ⟨l', k1, by omega, fun e => ?_⟩
    obtain ⟨e1, e2, e3⟩ := k3 (by omega)
    simp only [e1, e2, e3]
    exact h3 (by omega)
  | .nilf, _, _, _, _, h => by simpa [VR] using h
  | .nilp, _, _, _, _, h => by simpa [VR] using h
  | .nilsl, _, _, _, _, h => by simpa [VR] using h
  | .nili, _, _, _, _, h => by simpa [VR] using h
  | .raw _, _, _, _, _, h => by simpa [VR] using h
theorem VRL.mono {φ φ' : FM} (hφ : φ.le φ') : ∀ (a : List AV) {m m' : LM} {v : List Value}, Ext m m' → VRL φ m a v → VRL φ' m' a v
  | [], _, _, _, _, h => by simpa [VRL] using h
  | a :: as, m, m', v, hm, h => by
    simp only [VRL] at h ⊢
    obtain ⟨v, vs, rfl, h1, h2⟩ := h
    exact ⟨v, vs, rfl, VR.mono hφ a hm h1, VRL.mono hφ as hm h2⟩
theorem VRC.mono {φ φ' : FM} (hφ : φ.le φ') : ∀ (a : List AV) {b o : Nat}, VRC φ a b o → VRC φ' a b o
  | [], _, _, _ => by simp [VRC]
  | a :: as, b, o, h => by
    simp only [VRC] at h ⊢
    obtain ⟨⟨h0, u, h1, h2⟩, h3⟩ := h
    exact ⟨⟨h0, u, hφ.cell h1, VR.mono hφ a (Ext.refl _) h2⟩, VRC.mono hφ as h3⟩
theorem VRE.mono {φ φ' : FM} (hφ : φ.le φ') : ∀ (a : List AV) {b o : Nat}, VRE φ a b o → VRE φ' a b o
  | [], _, _, _ => by simp [VRE]
  | e :: es, b, o, h => by
    cases e with
    | agg cs =>
      simp only [VRE] at h ⊢
      exact ⟨VRC.mono hφ cs h.1, VRE.mono hφ es h.2⟩
    | _ =>
      simp only [VRE] at h ⊢
      obtain ⟨⟨h0, u, h1, h2⟩, h3⟩ := h
      exact ⟨⟨h0, u, hφ.cell h1, VR.mono hφ _ (Ext.refl _) h2⟩, VRE.mono hφ es h3⟩
end
end Go.Proofs.YtapchldnmkfkoabDoor.Am
namespace Go.Proofs.YtapchldnmkfkoabDoor.Am
open Go

theorem VRE_cons {φ : FM} {e : AV} {es : List AV} {b o : Nat} : VRE φ (e :: es) b o ↔ VRC φ e.cells b o ∧ VRE φ es b (o + e.cells.length) := by
  cases e <;> simp [VRE, VRC, AV.cells]

theorem VRE_get {φ : FM} {n : Nat} : ∀ {es : List AV} {b o : Nat}, VRE φ es b o → (∀ e ∈ es, e.cells.length = n) → ∀ {i : Nat} {e : AV}, es[i]? = some e → VRC φ e.cells b (o + i * n)
  | [], _, _, _, _, i, _, he => by simp at he
  | x :: xs, b, o, h, hw, i, e, he => by
    rw [VRE_cons] at h
    cases i with
    | zero => simp at he; subst he; simpa using h.1
    | succ i =>
      have := VRE_get h.2 (fun e he => hw e (by simp [he])) (i := i) (e := e) (by simpa using he)
      rw [hw x (by simp)] at this
      have e1 : o + n + i * n = o + (i + 1) * n := by rw [Nat.add_mul]; omega
      rwa [e1] at this

theorem VRE_drop {φ : FM} {n : Nat} : ∀ {es : List AV} {b o : Nat}, VRE φ es b o → (∀ e ∈ es, e.cells.length = n) → ∀ (k : Nat), VRE φ (es.drop k) b (o + k * n)
  | [], _, _, _, _, k => by simp [VRE]
  | x :: xs, b, o, h, hw, 0 => by simpa using h
  | x :: xs, b, o, h, hw, k + 1 => by
    rw [VRE_cons] at h
    have := VRE_drop h.2 (fun e he => hw e (by simp [he])) k
    rw [hw x (by simp)] at this
    have e1 : o + n + k * n = o + (k + 1) * n := by rw [Nat.add_mul]; omega
    rw [e1] at this
    simpa using this

theorem VRE_take {φ : FM} : ∀ {es : List AV} {b o : Nat}, VRE φ es b o → ∀ (k : Nat), VRE φ (es.take k) b o
  | [], _, _, _, k => by simp [VRE]
  | x :: xs, b, o, h, 0 => by simp [VRE]
  | x :: xs, b, o, h, k + 1 => by
    rw [VRE_cons] at h
    simp only [List.take_succ_cons, VRE_cons]
    exact ⟨h.1, VRE_take h.2 k⟩

theorem VRL_len {φ : FM} {m : LM} : ∀ {cs : List AV} {vs : List Value}, VRL φ m cs vs → vs.length = cs.length
  | [], _, h => by simp [VRL] at h; simp [h]
  | c :: cs, vs, h => by
    simp only [VRL] at h
    obtain ⟨v, vs, rfl, _, h⟩ := h
    simp [VRL_len h]

theorem VRL_get {φ : FM} {m : LM} : ∀ {cs : List AV} {vs : List Value}, VRL φ m cs vs → ∀ {i : Nat} {c : AV}, cs[i]? = some c → ∃ v, vs[i]? = some v ∧ VR φ m c v
  | [], _, h, i, c, hc => by simp at hc
  | x :: cs, vs, h, i, c, hc => by
    simp only [VRL] at h
    obtain ⟨v, vs, rfl, h1, h2⟩ := h
    cases i with
    | zero => simp at hc; subst hc; exact ⟨v, by simp, h1⟩
    | succ i =>
      obtain ⟨u, e, hu⟩ := VRL_get h2 (i := i) (c := c) (by simpa using hc)
      exact ⟨u, by simpa using e, hu⟩

theorem VRL_drop {φ : FM} {m : LM} : ∀ {cs : List AV} {vs : List Value}, VRL φ m cs vs → ∀ k, VRL φ m (cs.drop k) (vs.drop k)
  | [], vs, h, k => by simp [VRL] at h; simp [h, VRL]
  | x :: cs, vs, h, 0 => by simpa using h
  | x :: cs, vs, h, k + 1 => by
    simp only [VRL] at h
    obtain ⟨v, vs, rfl, h1, h2⟩ := h
    simpa using VRL_drop h2 k

theorem VRL_take {φ : FM} {m : LM} : ∀ {cs : List AV} {vs : List Value}, VRL φ m cs vs → ∀ k, VRL φ m (cs.take k) (vs.take k)
  | [], vs, h, k => by simp [VRL] at h; simp [h, VRL]
  | x :: cs, vs, h, 0 => by simp [VRL]
  | x :: cs, vs, h, k + 1 => by
    simp only [VRL] at h
    obtain ⟨v, vs, rfl, h1, h2⟩ := h
    simp only [List.take_succ_cons, VRL]
    exact ⟨v, _, rfl, h1, VRL_take h2 k⟩

theorem VRL_append {φ : FM} {m : LM} : ∀ {cs ds : List AV} {vs us : List Value}, VRL φ m cs vs → VRL φ m ds us → VRL φ m (cs ++ ds) (vs ++ us)
  | [], _, vs, _, h, k => by simp [VRL] at h; simpa [h] using k
  | x :: cs, ds, vs, us, h, k => by
    simp only [VRL] at h
    obtain ⟨v, vs, rfl, h1, h2⟩ := h
    simp only [List.cons_append, VRL]
    exact ⟨v, _, rfl, h1, VRL_append h2 k⟩

theorem VRL_split {φ : FM} {m : LM} : ∀ {cs ds : List AV} {vs : List Value}, VRL φ m (cs ++ ds) vs → ∃ v1 v2, vs = v1 ++ v2 ∧ VRL φ m cs v1 ∧ VRL φ m ds v2
  | [], ds, vs, h => ⟨[], vs, rfl, by simp [VRL], by simpa using h⟩
  | x :: cs, ds, vs, h => by
    simp only [List.cons_append, VRL] at h
    obtain ⟨v, vs, rfl, h1, h2⟩ := h
    obtain ⟨v1, v2, rfl, k1, k2⟩ := VRL_split h2
    exact ⟨v :: v1, v2, rfl, by simp only [VRL]; exact ⟨v, v1, rfl, h1, k1⟩, k2⟩

theorem VRL_of {φ : FM} {m : LM} : ∀ {cs : List AV} {vs : List Value}, vs.length = cs.length → (∀ (i : Nat) (c : AV) (v : Value), cs[i]? = some c → vs[i]? = some v → VR φ m c v) → VRL φ m cs vs
  | [], vs, h, _ => by simp [VRL]; simpa using h
  | c :: cs, [], h, _ => by simp at h
  | c :: cs, v :: vs, h, k => by
    simp only [VRL]
    exact ⟨v, vs, rfl, k 0 c v (by simp) (by simp), VRL_of (by simpa using h) (fun i c' v' h1 h2 => k (i + 1) c' v' (by simpa using h1) (by simpa using h2))⟩

theorem VRL_set {φ : FM} {m : LM} {cs : List AV} {vs : List Value} (h : VRL φ m cs vs) (i : Nat) {c : AV} {v : Value} (hv : VR φ m c v) : VRL φ m (cs.set i c) (vs.set i v) := by
  refine VRL_of (by simp [VRL_len h]) fun j c' v' h1 h2 => ?_
  rw [List.getElem?_set] at h1 h2
  by_cases e : i = j
  · subst e
    by_cases l : i < cs.length
    · have l' : i < vs.length := by rw [VRL_len h]; exact l
      simp [l] at h1; simp [l'] at h2; subst h1; subst h2; exact hv
    · have l' : ¬ i < vs.length := by rw [VRL_len h]; exact l
      simp [l] at h1
  · simp [e] at h1 h2
    obtain ⟨u, hu, hr⟩ := VRL_get h h1
    rw [hu] at h2; cases h2; exact hr

theorem VRL_spl {φ : FM} {m : LM} {cs new : List AV} {vs nv : List Value} (h : VRL φ m cs vs) (hn : VRL φ m new nv) (off : Nat) :
    VRL φ m (spl cs off new) (vs.take off ++ nv ++ vs.drop (off + nv.length)) := by
  unfold spl
  rw [VRL_len hn]
  exact VRL_append (VRL_append (VRL_take h _) hn) (VRL_drop h _)

theorem VRC_iff {φ : FM} : ∀ {cs : List AV} {b o : Nat}, VRC φ cs b o ↔ ∀ i c, cs[i]? = some c → c.one = true ∧ ∃ u, φ.cell b (o + i) = some u ∧ VR φ LM.none c u
  | [], b, o => by simp [VRC]
  | c :: cs, b, o => by
    simp only [VRC, VRC_iff (cs := cs)]
    constructor
    · rintro ⟨h1, h2⟩ i c' hc
      cases i with
      | zero => simp at hc; subst hc; simpa using h1
      | succ i =>
        have := h2 i c' (by simpa using hc)
        rwa [show o + 1 + i = o + (i + 1) by omega] at this
    · intro h
      refine ⟨by simpa using h 0 c (by simp), fun i c' hc => ?_⟩
      have := h (i + 1) c' (by simpa using hc)
      rwa [show o + (i + 1) = o + 1 + i by omega] at this

theorem VRC_vals {φ : FM} : ∀ {cs : List AV} {b o : Nat}, VRC φ cs b o → ∃ vs : List Value, VRL φ LM.none cs vs ∧ ∀ (j : Nat) (v : Value), vs[j]? = some v → φ.cell b (o + j) = some v
  | [], _, _, _ => ⟨[], by simp [VRL], by simp⟩
  | c :: cs, b, o, h => by
    simp only [VRC] at h
    obtain ⟨⟨_, u, h1, h2⟩, h3⟩ := h
    obtain ⟨vs, k1, k2⟩ := VRC_vals h3
    refine ⟨u :: vs, by simp only [VRL]; exact ⟨u, vs, rfl, h2, k1⟩, fun j v hj => ?_⟩
    cases j with
    | zero => simp at hj; subst hj; simpa using h1
    | succ j =>
      have := k2 j v (by simpa using hj)
      rwa [show o + 1 + j = o + (j + 1) by omega] at this

theorem one_of {φ : FM} {m : LM} {a : AV} {v : Value} (h : VR φ m a v) (h1 : a.one = true) : v.oneCell' = true := by
  cases a with
  | any => simp [AV.one] at h1
  | agg cs => simp [AV.one] at h1
  | tup cs => simp [AV.one] at h1
  | fsl els => simp only [VR] at h; obtain ⟨_, _, rfl, _⟩ := h; rfl
  | fptr cs off => simp only [VR] at h; obtain ⟨_, _, rfl, _⟩ := h; rfl
  | osl => simp only [VR] at h; exact h.1
  | optr => simp only [VR] at h; exact h.1
  | eptr => simp only [VR] at h; exact h.1
  | slf => simp only [VR] at h; exact h.1
  | raw => simp only [VR] at h; exact h.2
  | func => simp only [VR] at h; obtain ⟨_, _, rfl, _⟩ := h; rfl
  | nilsl => simp only [VR] at h; obtain ⟨_, rfl⟩ := h; rfl
  | _ => simp only [VR] at h; subst h; rfl

theorem VRL_one {φ : FM} {m : LM} : ∀ {cs : List AV} {vs : List Value}, VRL φ m cs vs → cs.all AV.one = true → ∀ v ∈ vs, v.oneCell' = true
  | [], vs, h, _ => by simp [VRL] at h; simp [h]
  | c :: cs, vs, h, h1 => by
    simp only [VRL] at h
    obtain ⟨v, vs, rfl, k1, k2⟩ := h
    simp only [List.all_cons, Bool.and_eq_true] at h1
    intro x hx
    simp only [List.mem_cons] at hx
    rcases hx with rfl | hx
    · exact one_of k1 h1.1
    · exact VRL_one k2 h1.2 x hx

/-- The cells of a value: of an aggregate its parts. -/
theorem VR_cells {φ : FM} {m : LM} {a : AV} {v : Value} (h : VR φ m a v) (h1 : a.cells.all AV.one = true) : VRL φ m a.cells v.cells.toList := by
  cases a with
  | agg cs =>
    simp only [VR] at h
    obtain ⟨_, a, rfl, h2⟩ := h
    simpa [AV.cells, Value.cells] using h2
  | any => simp [AV.cells, AV.one] at h1
  | tup cs => simp [AV.cells, AV.one] at h1
  | _ =>
    have ho := one_of h (by simp [AV.one])
    have : v.cells = #[v] := by cases v <;> simp_all [Value.cells, Value.oneCell']
    rw [this]
    simp only [AV.cells, VRL]
    exact ⟨v, [], rfl, h, rfl⟩

mutual
theorem ofV_VR (φ : FM) (m : LM) : ∀ v : Value, VR φ m (ofV v) v
  | .bool b => by simp [ofV, VR]
  | .int k n => by simp [ofV, VR]
  | .string s => by simp [ofV, VR]
  | .pointer none => by simp [ofV, VR]
  | .pointer (some _) => by simp [ofV, VR]
  | .slice a l c => by
    unfold ofV; split <;> simp_all [VR]
  | .nilFunc => by simp [ofV, VR]
  | .nilIface => by simp [ofV, VR]
  | .agg ⟨cs⟩ => by
    simp only [ofV]
    split
    · rename_i h
      simp only [VR]
      exact ⟨h, _, rfl, ofVL_VR φ m cs⟩
    · simp [VR]
  | .tuple ⟨cs⟩ => by
    simp only [ofV, VR]
    exact ⟨_, rfl, ofVL_VR φ m cs⟩
  | .func fn ⟨[]⟩ ⟨[]⟩ => by simp [ofV, VR, VRL]
  | .func fn ⟨_ :: _⟩ _ => by simp [ofV, VR]
  | .func fn _ ⟨_ :: _⟩ => by unfold ofV; split <;> simp_all [VR]
  | .float _ _ => by simp [ofV, VR]
  | .complex _ _ _ => by simp [ofV, VR]
  | .map _ => by simp [ofV, VR]
  | .chan _ => by simp [ofV, VR]
  | .iface _ _ => by simp [ofV, VR]
theorem ofVL_VR (φ : FM) (m : LM) : ∀ vs : List Value, VRL φ m (ofVL vs) vs
  | [] => by simp [ofVL, VRL]
  | v :: vs => by
    simp only [ofVL, VRL]
    exact ⟨v, vs, rfl, ofV_VR φ m v, ofVL_VR φ m vs⟩
end
end Go.Proofs.YtapchldnmkfkoabDoor.Am
namespace Go.Proofs.YtapchldnmkfkoabDoor.Am
open Go

variable {P : Program}

theorem run_isAgg {t : TypeId} {b : Bool} (h : isAg P t = some b) (w : World) : (isAgg t).run P w = .ok b w := by
  unfold isAg at h
  unfold isAgg underlying
  cases hu : P.underlying t with
  | none => simp [hu] at h
  | some d => cases d <;> simp_all

theorem run_sizeOf {t : TypeId} {i : TypeInfo} (h : P.info? t = some i) (w : World) : (sizeOf t).run P w = .ok i.size w := by
  unfold sizeOf typeInfo
  simp [h]

theorem run_underlying {t : TypeId} {d : TypeDesc} (h : P.underlying t = some d) (w : World) : (underlying t).run P w = .ok d w := by
  unfold underlying; simp [h]

theorem tsh_sc {t : TypeId} (h : tsh P t = some .sc) : isAg P t = some false ∧ ∃ i, P.info? t = some i ∧ i.size = 1 := by
  unfold tsh at h
  split at h <;> simp_all

theorem tsh_ag {t : TypeId} {n : Nat} (h : tsh P t = some (.ag n)) : isAg P t = some true ∧ ∃ i, P.info? t = some i ∧ i.size = n := by
  unfold tsh at h
  split at h <;> simp_all

theorem tsh_size {t : TypeId} {ts : TS} (h : tsh P t = some ts) : ∃ i, P.info? t = some i ∧ i.size = ts.size := by
  cases ts with
  | sc => exact (tsh_sc h).2
  | ag n => exact (tsh_ag h).2

theorem add_none (b o j : Nat) : (⟨b, o, none⟩ : Addr).add j = ⟨b, o + j, none⟩ := by
  unfold Addr.add; split <;> simp_all

theorem all_take {cs : List AV} (h : cs.all AV.one = true) (k : Nat) : (cs.take k).all AV.one = true := by
  rw [List.all_eq_true] at *
  exact fun x hx => h x (List.mem_of_mem_take hx)
theorem all_drop {cs : List AV} (h : cs.all AV.one = true) (k : Nat) : (cs.drop k).all AV.one = true := by
  rw [List.all_eq_true] at *
  exact fun x hx => h x (List.mem_of_mem_drop hx)

/-- A load out of cells that are there. -/
theorem load_sound {φ : FM} {m : LM} {w : World} {t : TypeId} {ts : TS} {cs : List AV} {vs : List Value} {b o off : Nat} {av : AV}
    (ht : tsh P t = some ts) (hone : cs.all AV.one = true) (hr : VRL φ m cs vs) (hc : ∀ (j : Nat) (v : Value), vs[j]? = some v → w.cell? ⟨b, o + j, none⟩ = some v)
    (hl : ldc ts cs off = some av) :
    ∃ cv, (Instr.loadAt t (.pointer (some ⟨b, o + off, none⟩))).run P w = .ok cv w ∧ VR φ m av cv := by
  cases ts with
  | sc =>
    obtain ⟨ha, i, hi, hs⟩ := tsh_sc ht
    simp only [ldc] at hl
    obtain ⟨v, hv, hvr⟩ := VRL_get hr hl
    refine ⟨v, ?_, hvr⟩
    have := hc off v hv
    simp [Instr.loadAt, Instr.sureAddr, loadVar, run_isAgg ha, this]
  | ag n =>
    obtain ⟨ha, i, hi, hs⟩ := tsh_ag ht
    simp only [ldc] at hl
    split at hl
    · rename_i hle
      simp only [Option.some.injEq] at hl
      subst hl
      have hlen := VRL_len hr
      have hn : ((vs.drop off).take n).length = n := by simp [hlen]; omega
      refine ⟨.agg ((vs.drop off).take n).toArray, ?_, ?_⟩
      · have hcells : (loadCells ⟨b, o + off, none⟩ n).run P w = .ok ((vs.drop off).take n).toArray w := by
          have := run_loadCells_list (P := P) w ⟨b, o + off, none⟩ ((vs.drop off).take n) (by
            intro j v hj
            rw [add_none, Nat.add_assoc]
            refine hc (off + j) v ?_
            rw [List.getElem?_take] at hj
            split at hj
            · rwa [List.getElem?_drop] at hj
            · simp at hj)
          rwa [hn] at this
        simp [Instr.loadAt, Instr.sureAddr, loadVar, run_isAgg ha, run_sizeOf hi, hs, hcells]
      · simp only [VR]
        exact ⟨all_take (all_drop hone _) _, _, rfl, by simpa using VRL_take (VRL_drop hr off) n⟩
    · simp at hl

/-- A cell of an element in which rows may lie: a plain one; or a row that is the object's own (its block, if it has one). -/
def NRc (φ : FM) (m : LM) (w : World) (z : Nat) (c : AV) (v : Value) (o : Option Nat) : Prop :=
  (plain c = true ∧ VR φ m c v ∧ o = none) ∨
  ∃ es ad cap, c = .fsl es ∧ v = .slice ad es.length cap ∧ es.length ≤ cap ∧ (0 < z → ∀ e ∈ es, e.cells.length = z ∧ e.cells.all AV.one = true) ∧ plainL es = true ∧
    ((cap = 0 ∧ o = none) ∨ (0 < cap ∧ ∃ b a t, ad = some ⟨b, 0, none⟩ ∧ o = some b ∧ w.heap[b]? = some (.cells a t (0, 0)) ∧ 0 < z ∧ a.size = cap * z ∧ ∀ φ0 : FM, VRL φ0 LM.none (es.flatMap AV.cells) (a.toList.take (es.length * z))))
/-- The cells of such elements, what lies in them, and whose blocks are whose. -/
def NR (φ : FM) (m : LM) (w : World) (esz : Nat) (zs : List Nat) (cs : List AV) (vs : List Value) (F : Nat → Option Nat) : Prop :=
  vs.length = cs.length ∧ (∀ i c v, cs[i]? = some c → vs[i]? = some v → NRc φ m w (zs.getD (i % esz) 0) c v (F i)) ∧ (∀ i j b, F i = some b → F j = some b → i = j) ∧ ∀ i, cs.length ≤ i → F i = none
/-- Objects of rarer kinds. -/
def ObX (φ : FM) (m : LM) (w : World) (l : Loc) : Ob → Prop
  | .bld t c => l.esz = 1 ∧ l.cap = 2 ∧ φ l.blk = none ∧ c.one = true ∧ ∃ v0 v1, w.heap[l.blk]? = some (.cells #[v0, v1] t (0, 0)) ∧ (v0 = .pointer none ∨ v0 = .pointer (some ⟨l.blk, 0, none⟩)) ∧ VR φ m c v1
  | .nar esz es zs => l.esz = esz ∧ 0 < esz ∧ (∀ e ∈ es, e.cells.length = esz ∧ e.cells.all AV.one = true) ∧ es.length ≤ l.cap ∧
    (∀ b ∈ l.sub, φ b = none ∧ (∃ o, w.heap[b]? = some o) ∧ (0 < l.cap → b ≠ l.blk)) ∧
    ∃ vs F, NR φ m w esz zs (es.flatMap AV.cells) vs F ∧ (∀ i b, F i = some b → b ∈ l.sub) ∧
      (l.cap = 0 ∨ ∃ a t, w.heap[l.blk]? = some (.cells a t (0, 0)) ∧ a.size = l.cap * esz ∧ φ l.blk = none ∧ a.toList.take (es.length * esz) = vs)
  | _ => True
theorem NRc.mono {φ φ' : FM} {m m' : LM} {w w' : World} {z : Nat} {c : AV} {v : Value} {o : Option Nat} (h : NRc φ m w z c v o) (hle : φ.le φ') (hm : Ext m m') (hw : ∀ b, o = some b → w'.heap[b]? = w.heap[b]?) : NRc φ' m' w' z c v o := by
  rcases h with ⟨h1, h2, h3⟩ | ⟨es, ad, cap, h1, h2, h3, h4, h5, h6⟩
  · exact .inl ⟨h1, VR.mono hle c hm h2, h3⟩
  · refine .inr ⟨es, ad, cap, h1, h2, h3, h4, h5, h6.imp (fun h => h) ?_⟩
    rintro ⟨k0, b, a, t, k1, k2, k3, k4, k5, k6⟩
    exact ⟨k0, b, a, t, k1, k2, by rw [hw b k2]; exact k3, k4, k5, k6⟩
theorem NR.mono {φ φ' : FM} {m m' : LM} {w w' : World} {esz : Nat} {zs : List Nat} {cs : List AV} {vs : List Value} {F : Nat → Option Nat} (h : NR φ m w esz zs cs vs F) (hle : φ.le φ') (hm : Ext m m') (hw : ∀ i b, F i = some b → w'.heap[b]? = w.heap[b]?) : NR φ' m' w' esz zs cs vs F :=
  ⟨h.1, fun i c v h1 h2 => (h.2.1 i c v h1 h2).mono hle hm (hw i), h.2.2⟩
theorem ObX.mono {φ φ' : FM} {m m' : LM} {w w' : World} {l : Loc} {ob : Ob} (h : ObX φ m w l ob) (hle : φ.le φ') (hm : Ext m m') (hw : ∀ b, ob.fp l b → w'.heap[b]? = w.heap[b]?) (hφ : ∀ b, ob.fp l b → φ' b = φ b) : ObX φ' m' w' l ob := by
  cases ob with
  | bld t c =>
    obtain ⟨a1, a2, a3, a4, v0, v1, a5, a6, a7⟩ := h
    have hf : (Ob.bld t c).fp l l.blk := ⟨by omega, rfl⟩
    exact ⟨a1, a2, by rw [hφ _ hf]; exact a3, a4, v0, v1, by rw [hw _ hf]; exact a5, a6, VR.mono hle c hm a7⟩
  | nar esz es zs =>
    obtain ⟨a1, a2, a3, a4, a5, vs, F, a6, a7, a8⟩ := h
    have hfs : ∀ b ∈ l.sub, (Ob.nar esz es zs).fp l b := fun b hb => .inr hb
    refine ⟨a1, a2, a3, a4, fun b hb => ?_, vs, F, a6.mono hle hm (fun i b hF => hw _ (hfs b (a7 i b hF))), a7, ?_⟩
    · obtain ⟨b1, b2, b3⟩ := a5 b hb
      exact ⟨by rw [hφ _ (hfs b hb)]; exact b1, by rw [hw _ (hfs b hb)]; exact b2, b3⟩
    · rcases a8 with h0 | ⟨a, t, c1, c2, c3, c4⟩
      · exact .inl h0
      · by_cases hz : l.cap = 0
        · exact .inl hz
        have hf : (Ob.nar esz es zs).fp l l.blk := .inl ⟨by omega, rfl⟩
        exact .inr ⟨a, t, by rw [hw _ hf]; exact c1, c2, by rw [hφ _ hf]; exact c3, c4⟩
  | _ => trivial

structure ObR (φ : FM) (m : LM) (w : World) (l : Loc) (ob : Ob) : Prop where
  top : l.top = ob.len
  box : ∀ cs, ob = .box cs → l.esz = 1 ∧ (l.cap = cs.length ∧ 0 < l.cap) ∧ φ l.blk = none ∧ cs.all AV.one = true ∧
    ∃ a t, w.heap[l.blk]? = some (.cells a t (0, 0)) ∧ VRL φ m cs a.toList
  arr : ∀ esz es ro, ob = .arr esz es ro → l.esz = esz ∧ 0 < esz ∧ (∀ e ∈ es, e.cells.length = esz ∧ e.cells.all AV.one = true) ∧ es.length ≤ l.cap ∧
    (l.cap = 0 ∨ ∃ a t, w.heap[l.blk]? = some (.cells a t (0, 0)) ∧ a.size = l.cap * esz ∧ (φ l.blk = if ro then some (.cells a t (0, 0)) else none) ∧
      VRL φ LM.none (es.flatMap AV.cells) (a.toList.take (es.length * esz)))
  oth : ObX φ m w l ob

theorem ObR.mono {φ φ' : FM} {m m' : LM} {w w' : World} {l : Loc} {ob : Ob} (h : ObR φ m w l ob) (hle : φ.le φ') (hm : Ext m m') (hw : ∀ b, ob.fp l b → w'.heap[b]? = w.heap[b]?) (hφ : ∀ b, ob.fp l b → φ' b = φ b) : ObR φ' m' w' l ob := by
  refine ⟨h.top, fun cs e => ?_, fun esz es ro e => ?_, h.oth.mono hle hm hw hφ⟩
  · subst e
    obtain ⟨a1, a2, a3, a4, a, t, a5, a6⟩ := h.box cs rfl
    have hf : (Ob.box cs).fp l l.blk := ⟨a2.2, rfl⟩
    exact ⟨a1, a2, by rw [hφ _ hf]; exact a3, a4, a, t, by rw [hw _ hf]; exact a5, VRL.mono hle _ hm a6⟩
  · subst e
    obtain ⟨a1, a2, a3, a4, a5⟩ := h.arr esz es ro rfl
    refine ⟨a1, a2, a3, a4, ?_⟩
    rcases a5 with h0 | ⟨a, t, a5, a6, a7, a8⟩
    · exact .inl h0
    · by_cases hz : l.cap = 0
      · exact .inl hz
      · have hf : (Ob.arr esz es ro).fp l l.blk := ⟨by omega, rfl⟩
        exact .inr ⟨a, t, by rw [hw _ hf]; exact a5, a6, by rw [hφ _ hf]; exact a7, VRL.mono hle _ (Ext.refl _) a8⟩

theorem ObR.rowF {φ : FM} {m : LM} {w : World} {l : Loc} {ob : Ob} (h : ObR φ m w l ob) {esz : Nat} {es : List AV} (hr : ob.row = some (esz, es)) : l.esz = esz ∧ 0 < esz ∧ (∀ e ∈ es, e.cells.length = esz ∧ e.cells.all AV.one = true) ∧ es.length ≤ l.cap := by
  cases ob with
  | arr z e r =>
    simp only [Ob.row, Option.some.injEq, Prod.mk.injEq] at hr
    obtain ⟨rfl, rfl⟩ := hr
    obtain ⟨a1, a2, a3, a4, a5⟩ := h.arr _ _ _ rfl
    exact ⟨a1, a2, a3, a4⟩
  | nar z e r =>
    simp only [Ob.row, Option.some.injEq, Prod.mk.injEq] at hr
    obtain ⟨rfl, rfl⟩ := hr
    obtain ⟨a1, a2, a3, a4, _⟩ := h.oth
    exact ⟨a1, a2, a3, a4⟩
  | _ => cases hr
theorem ObR.rowT {φ : FM} {m : LM} {w : World} {l : Loc} {ob : Ob} (h : ObR φ m w l ob) {esz : Nat} {es : List AV} (hr : ob.row = some (esz, es)) : l.top = es.length := by
  rw [h.top]
  cases ob <;> simp only [Ob.row, Option.some.injEq, Prod.mk.injEq, reduceCtorEq] at hr <;> simp [Ob.len, hr.2]
theorem rowO_some {o : Option Ob} {r : Nat × List AV} (h : rowO o = some r) : ∃ ob, o = some ob ∧ ob.row = some r := by
  cases o with
  | none => cases h
  | some ob => exact ⟨ob, rfl, h⟩

structure Inv (φ : FM) (m : LM) (g : Nat → Option Ob) (w : World) : Prop where
  fz : ∀ b o, φ b = some o → w.heap[b]? = some o
  own : ∀ id ob, g id = some ob → ∃ l, m id = some l ∧ ObR φ m w l ob
  sep : ∀ id id' ob ob' l l' b, g id = some ob → g id' = some ob' → m id = some l → m id' = some l' → id ≠ id' → ob.fp l b → ob'.fp l' b → False

def upd (g : Nat → Option Ob) (wr : Hp) : Nat → Option Ob := fun i => match lkp wr i with | some o => some o | none => g i

/-- A block that an own object has. -/
def ownB (g : Nat → Option Ob) (m : LM) (b : Nat) : Prop := ∃ id ob l, g id = some ob ∧ m id = some l ∧ ob.fp l b

structure Fr (φ : FM) (m : LM) (g : Nat → Option Ob) (w : World) (φ' : FM) (m' : LM) (g' : Nat → Option Ob) (w' : World) : Prop where
  φle : φ.le φ'
  ext : Ext m m'
  os : w'.os = w.os
  tape : w'.tape = w.tape
  output : w'.output = w.output
  size : w.heap.size ≤ w'.heap.size
  old : ∀ b, b < w.heap.size → ¬ ownB g m b → w'.heap[b]? = w.heap[b]?
  newφ : ∀ b o, φ' b = some o → φ b = some o ∨ w.heap.size ≤ b ∨ ownB g m b
  newm : ∀ b, ownB g' m' b → w.heap.size ≤ b ∨ ownB g m b

theorem Fr.refl (φ : FM) (m : LM) (g : Nat → Option Ob) (w : World) : Fr φ m g w φ m g w :=
  ⟨FM.le_refl _, Ext.refl _, rfl, rfl, rfl, Nat.le_refl _, fun _ _ _ => rfl, fun _ _ h => .inl h, fun _ h => .inr h⟩

theorem Fr.trans {φ1 φ2 φ3 : FM} {m1 m2 m3 : LM} {g1 g2 g3 : Nat → Option Ob} {w1 w2 w3 : World}
    (h : Fr φ1 m1 g1 w1 φ2 m2 g2 w2) (k : Fr φ2 m2 g2 w2 φ3 m3 g3 w3) : Fr φ1 m1 g1 w1 φ3 m3 g3 w3 where
  φle := h.φle.trans k.φle
  ext := h.ext.trans k.ext
  os := k.os.trans h.os
  tape := k.tape.trans h.tape
  output := k.output.trans h.output
  size := Nat.le_trans h.size k.size
  old := fun b hb hn => by
    rw [k.old b (Nat.lt_of_lt_of_le hb h.size) (fun ho => (h.newm b ho).elim (fun x => by omega) hn), h.old b hb hn]
  newφ := fun b o ho => by
    rcases k.newφ b o ho with x | x | x
    · exact h.newφ b o x
    · exact .inr (.inl (Nat.le_trans h.size x))
    · rcases h.newm b x with y | y
      · exact .inr (.inl y)
      · exact .inr (.inr y)
  newm := fun b ho => by
    rcases k.newm b ho with x | x
    · exact .inl (Nat.le_trans h.size x)
    · exact h.newm b x

/-- What an operation leaves. -/
def Post (φ : FM) (m : LM) (g : Nat → Option Ob) (w : World) (e : Eff) (cv : Value) (w' : World) : Prop :=
  ∃ φ' m', VR φ' m' e.v cv ∧ Inv φ' m' (upd g e.wr) w' ∧ Fr φ m g w φ' m' (upd g e.wr) w' ∧ ∀ i, (e.nx ≤ i ∨ lkp e.wr i = none) → m i = none → m' i = none

theorem upd_nil (g : Nat → Option Ob) : upd g [] = g := by funext i; simp [upd, lkp]

theorem post_pure {φ : FM} {m : LM} {g : Nat → Option Ob} {w : World} {v : AV} {cv : Value} {rd : List Nat} {nx : Nat} (hi : Inv φ m g w) (hv : VR φ m v cv) :
    Post φ m g w ⟨v, rd, [], nx⟩ cv w := ⟨φ, m, hv, by simpa [upd_nil] using hi, by simpa [upd_nil] using Fr.refl φ m g w, fun _ _ h => h⟩

theorem Inv.lt {φ : FM} {m : LM} {g : Nat → Option Ob} {w : World} (h : Inv φ m g w) {b : Nat} (ho : ownB g m b) : b < w.heap.size := by
  obtain ⟨id, ob, l, hg, hm, hc⟩ := ho
  obtain ⟨l', hm', hr⟩ := h.own id ob hg
  rw [hm] at hm'; cases hm'
  cases ob with
  | box cs =>
    obtain ⟨hc, rfl⟩ := hc
    obtain ⟨_, _, _, _, a, t, hh, _⟩ := hr.box cs rfl
    exact (Array.getElem?_eq_some_iff.1 hh).1
  | arr esz es ro =>
    obtain ⟨hc, rfl⟩ := hc
    obtain ⟨_, _, _, _, h0 | ⟨a, t, hh, _⟩⟩ := hr.arr esz es ro rfl
    · omega
    · exact (Array.getElem?_eq_some_iff.1 hh).1
  | gone n => exact hc.elim
  | bld t c =>
    obtain ⟨hc, rfl⟩ := hc
    obtain ⟨_, _, _, _, v0, v1, hh, _⟩ := hr.oth
    exact (Array.getElem?_eq_some_iff.1 hh).1
  | nar esz es zs =>
    obtain ⟨_, _, _, _, h5, vs, F, _, _, h8⟩ := hr.oth
    rcases hc with ⟨hc, rfl⟩ | hc
    · rcases h8 with h0 | ⟨a, t, hh, _⟩
      · omega
      · exact (Array.getElem?_eq_some_iff.1 hh).1
    · obtain ⟨_, ⟨o, ho⟩, _⟩ := h5 b hc
      exact (Array.getElem?_eq_some_iff.1 ho).1
theorem Inv.ltB {φ : FM} {m : LM} {g : Nat → Option Ob} {w : World} (h : Inv φ m g w) {id : Nat} {ob : Ob} {l : Loc} (hg : g id = some ob) (hm : m id = some l) {b : Nat} (hb : ob.fp l b) : b < w.heap.size := h.lt ⟨id, ob, l, hg, hm, hb⟩
end Go.Proofs.YtapchldnmkfkoabDoor.Am
namespace Go.Proofs.YtapchldnmkfkoabDoor.Am
open Go

variable {P : Program}

theorem Inv.cell {φ : FM} {m : LM} {g : Nat → Option Ob} {w : World} (h : Inv φ m g w) {b o : Nat} {u : Value} (hc : φ.cell b o = some u) :
    w.cell? ⟨b, o, none⟩ = some u := by
  unfold FM.cell at hc
  cases hb : φ b with
  | none => simp [hb] at hc
  | some x =>
    have := h.fz b x hb
    rw [hb] at hc
    cases x <;> simp_all [World.cell?]

theorem cell_at {w : World} {b : Nat} {a : Array Value} {t : TypeId} {fr : Nat × Nat} (h : w.heap[b]? = some (.cells a t fr)) (o : Nat) :
    w.cell? ⟨b, o, none⟩ = a[o]? := by simp [World.cell?, h]

theorem flat_get {n : Nat} : ∀ {es : List AV}, (∀ e ∈ es, e.cells.length = n) → ∀ {i : Nat} {e : AV}, es[i]? = some e → ((es.flatMap AV.cells).drop (i * n)).take n = e.cells
  | [], _, i, e, h => by simp at h
  | x :: xs, hw, 0, e, h => by
    simp at h; subst h
    have := hw x (by simp)
    simp [← this]
  | x :: xs, hw, i + 1, e, h => by
    have hx := hw x (by simp)
    have := flat_get (es := xs) (fun e he => hw e (by simp [he])) (i := i) (e := e) (by simpa using h)
    rw [List.flatMap_cons, Nat.add_mul, Nat.one_mul, List.drop_append, ← this]
    rw [List.drop_eq_nil_of_le (by omega)]
    simp [hx]

theorem flat_len {n : Nat} : ∀ {es : List AV}, (∀ e ∈ es, e.cells.length = n) → (es.flatMap AV.cells).length = es.length * n
  | [], _ => by simp
  | x :: xs, hw => by
    have := flat_len (es := xs) (fun e he => hw e (by simp [he]))
    simp only [List.flatMap_cons, List.length_append, this, hw x (by simp), List.length_cons, Nat.add_mul]
    omega

theorem VRL_elem {φ : FM} {m : LM} {n : Nat} {es : List AV} {vs : List Value} (h : VRL φ m (es.flatMap AV.cells) vs) (hw : ∀ e ∈ es, e.cells.length = n) {i : Nat} {e : AV}
    (he : es[i]? = some e) : VRL φ m e.cells ((vs.drop (i * n)).take n) := by
  rw [← flat_get hw he]
  exact VRL_take (VRL_drop h _) _

theorem VRC_of {φ : FM} : ∀ {cs : List AV} {vs : List Value} {b o : Nat}, VRL φ LM.none cs vs → cs.all AV.one = true →
    (∀ (j : Nat) (v : Value), vs[j]? = some v → φ.cell b (o + j) = some v) → VRC φ cs b o
  | [], _, _, _, _, _, _ => by simp [VRC]
  | c :: cs, vs, b, o, h, h1, hc => by
    simp only [VRL] at h
    obtain ⟨v, vs, rfl, k1, k2⟩ := h
    simp only [List.all_cons, Bool.and_eq_true] at h1
    simp only [VRC]
    refine ⟨⟨h1.1, v, by simpa using hc 0 v (by simp), k1⟩, VRC_of k2 h1.2 fun j u hj => ?_⟩
    have := hc (j + 1) u (by simpa using hj)
    rwa [show o + (j + 1) = o + 1 + j by omega] at this

theorem VRE_of {φ : FM} : ∀ {es : List AV} {vs : List Value} {b o : Nat}, VRL φ LM.none (es.flatMap AV.cells) vs → (∀ e ∈ es, e.cells.all AV.one = true) →
    (∀ (j : Nat) (v : Value), vs[j]? = some v → φ.cell b (o + j) = some v) → VRE φ es b o
  | [], _, _, _, _, _, _ => by simp [VRE]
  | e :: es, vs, b, o, h, h1, hc => by
    rw [List.flatMap_cons] at h
    obtain ⟨v1, v2, rfl, k1, k2⟩ := VRL_split h
    rw [VRE_cons]
    have hl := VRL_len k1
    refine ⟨VRC_of k1 (h1 e (by simp)) fun j v hj => hc j v ?_, VRE_of k2 (fun e he => h1 e (by simp [he])) fun j v hj => ?_⟩
    · rw [List.getElem?_append_left (by have := (List.getElem?_eq_some_iff.1 hj).1; omega)]; exact hj
    · have := hc (e.cells.length + j) v (by rw [← hl, List.getElem?_append_right (by omega)]; simpa using hj)
      rwa [← Nat.add_assoc] at this

theorem flat_at {n : Nat} : ∀ {es : List AV}, (∀ e ∈ es, e.cells.length = n) → ∀ {ix : Nat} {e : AV}, es[ix]? = some e → ∀ {j : Nat}, j < n → (es.flatMap AV.cells)[ix * n + j]? = e.cells[j]?
  | [], _, ix, e, h, _, _ => by simp at h
  | x :: xs, hw, 0, e, h, j, hj => by
    simp only [List.getElem?_cons_zero, Option.some.injEq] at h
    subst h
    have hx := hw x (by simp)
    rw [List.flatMap_cons, List.getElem?_append_left (by omega)]
    simp
  | x :: xs, hw, ix + 1, e, h, j, hj => by
    have hx := hw x (by simp)
    have ih := flat_at (es := xs) (fun e he => hw e (by simp [he])) (ix := ix) (e := e) (by simpa using h) hj
    rw [List.flatMap_cons, List.getElem?_append_right (by rw [hx, Nat.succ_mul]; omega), ← ih]
    congr 1
    rw [hx, Nat.succ_mul]; omega
theorem NR_plain {φ : FM} {m : LM} {w : World} {esz : Nat} {zs : List Nat} {cs : List AV} {vs : List Value} {F : Nat → Option Nat} (h : NR φ m w esz zs cs vs F) {i : Nat} {c : AV} (hc : cs[i]? = some c) (hp : plain c = true) :
    ∃ v, vs[i]? = some v ∧ VR φ m c v ∧ F i = none := by
  have hi : i < vs.length := by rw [h.1]; exact (List.getElem?_eq_some_iff.1 hc).1
  have := h.2.1 i c vs[i] hc (List.getElem?_eq_getElem hi)
  rcases this with ⟨_, h2, h3⟩ | ⟨es, _, _, rfl, _⟩
  · exact ⟨_, List.getElem?_eq_getElem hi, h2, h3⟩
  · simp [plain] at hp

/-- A row that is taken out of an element. -/
def Brw (φ : FM) (m : LM) (g : Nat → Option Ob) (w : World) (nx : Nat) (e : Eff) (cv : Value) : Prop :=
  ∃ id ix off esz es zs e0 r e' l a t vs F, g id = some (.nar esz es zs) ∧ m id = some l ∧ es[ix]? = some e0 ∧ e0.cells[off]? = some (.fsl r) ∧ off < esz ∧ sve e0 off [.osl nx 0 r.length r.length] = some e' ∧ 0 < zs.getD off 0 ∧
    w.heap[l.blk]? = some (.cells a t (0, 0)) ∧ a.size = l.cap * esz ∧ φ l.blk = none ∧ a.toList.take (es.length * esz) = vs ∧ NR φ m w esz zs (es.flatMap AV.cells) vs F ∧ (∀ i b, F i = some b → b ∈ l.sub) ∧ vs[ix * esz + off]? = some cv ∧
    e = ⟨.osl nx 0 r.length r.length, [id], [(id, .nar esz (es.set ix e') zs), (nx, .arr (zs.getD off 0) r false)], nx + 1⟩

theorem brwL_nx {zs : List Nat} : ∀ {suf ds : List AV} {wr : Hp} {k nx n : Nat}, brwL zs suf k nx = some (ds, wr, n) → nx ≤ n ∧ (n = nx → plainL suf = true)
  | [], ds, wr, k, nx, n, h => by
    simp only [brwL, Option.some.injEq, Prod.mk.injEq] at h
    obtain ⟨rfl, rfl, rfl⟩ := h
    exact ⟨Nat.le_refl _, fun _ => rfl⟩
  | c :: cs, ds, wr, k, nx, n, h => by
    by_cases hf : ∃ r, c = .fsl r
    · obtain ⟨r, rfl⟩ := hf
      simp only [brwL] at h
      split at h
      · obtain ⟨⟨d, w', n'⟩, h1, h2⟩ := Option.map_eq_some_iff.1 h
        cases h2
        dsimp only at *
        obtain ⟨i1, i2⟩ := brwL_nx h1
        exact ⟨by omega, fun e => by omega⟩
      · cases h
    · have h' : (if plain c = true then (brwL zs cs (k + 1) nx).map fun x => (c :: x.1, x.2.1, x.2.2) else none) = some (ds, wr, n) := by
        cases c <;> first | exact (hf ⟨_, rfl⟩).elim | exact h
      split at h'
      · rename_i hp
        obtain ⟨⟨d, w', n'⟩, h1, h2⟩ := Option.map_eq_some_iff.1 h'
        cases h2
        dsimp only at *
        obtain ⟨i1, i2⟩ := brwL_nx h1
        exact ⟨i1, fun e => by simp [plainL, hp, i2 e]⟩
      · cases h'
/-- All rows in an element taken out. -/
def BrwM (φ : FM) (m : LM) (g : Nat → Option Ob) (w : World) (nx : Nat) (e : Eff) (cv : Value) : Prop :=
  ∃ id ix esz es zs cs ds wr n l vs F arr a t, g id = some (.nar esz es zs) ∧ m id = some l ∧ es[ix]? = some (.agg cs) ∧ brwL zs cs 0 nx = some (ds, wr, n) ∧ nx < n ∧
    w.heap[l.blk]? = some (.cells a t (0, 0)) ∧ a.toList.take (es.length * esz) = vs ∧ NR φ m w esz zs (es.flatMap AV.cells) vs F ∧ cv = .agg arr ∧ arr.toList = (vs.drop (ix * esz)).take esz ∧
    e = ⟨.agg ds, [id], (id, .nar esz (es.set ix (.agg ds)) zs) :: wr, n⟩

/-- Loads. -/
theorem ld_sound {φ : FM} {m : LM} {g gi : Nat → Option Ob} {w : World} {t : TypeId} {a : AV} {cv0 : Value} {nx : Nat} {e : Eff}
    (h : ldA P t a gi nx = some e) (hg : ∀ x ∈ e.rd, g x = gi x) (hi : Inv φ m g w) (hv : VR φ m a cv0) :
    ∃ cv, (Instr.loadAt t cv0).run P w = .ok cv w ∧ ((VR φ m e.v cv ∧ e.wr = [] ∧ e.nx = nx) ∨ Brw φ m g w nx e cv ∨ BrwM φ m g w nx e cv) := by
  unfold ldA at h
  split at h
  · simp at h
  rename_i ts hts
  cases a with
  | fptr cs off =>
    simp only [VR] at hv
    obtain ⟨b, o, rfl, hc⟩ := hv
    simp only [Option.bind_eq_some_iff] at h
    obtain ⟨v, hl, he⟩ := h
    simp only [Eff.pure, Option.some.injEq] at he; subst he
    obtain ⟨vs, k1, k2⟩ := VRC_vals hc
    have hone : cs.all AV.one = true := by
      rw [List.all_eq_true]; intro x hx
      obtain ⟨i, hi⟩ := List.mem_iff_getElem?.1 hx
      exact ((VRC_iff.1 hc) i x hi).1
    obtain ⟨cv, r1, r2⟩ := load_sound (P := P) (w := w) (b := b) (o := o) hts hone (VRL.mono (FM.le_refl φ) cs (Ext.none m) k1) (fun j v hj => hi.cell (k2 j v hj)) hl
    exact ⟨cv, r1, .inl ⟨r2, rfl, rfl⟩⟩
  | optr id off tot =>
    cases hgi : gi id with
    | none => simp [hgi] at h
    | some ob =>
      cases ob with
      | arr _ _ _ => simp [hgi] at h
      | gone _ => simp [hgi] at h
      | nar _ _ _ => simp [hgi] at h
      | bld ty c =>
        simp only [hgi] at h
        split at h
        · rename_i hb
          simp only [Option.map_eq_some_iff] at h
          obtain ⟨v, hl, rfl⟩ := h
          have hgid : g id = some (.bld ty c) := by rw [hg id (by simp), hgi]
          obtain ⟨l, hm, hr⟩ := hi.own id _ hgid
          obtain ⟨_, hcap, _, hone, v0, v1, hh, _, hvr⟩ := hr.oth
          simp only [VR] at hv
          obtain ⟨_, l', hm', _, hv⟩ := hv
          rw [hm] at hm'; cases hm'
          have hv := hv (by rw [hr.top, hb.1]; rfl)
          subst hv
          obtain ⟨cv, r1, r2⟩ := load_sound (P := P) (w := w) (b := l.blk) (o := 1) (cs := [c]) (vs := [v1]) hts (by simp [hone]) (by simp only [VRL]; exact ⟨v1, [], rfl, hvr, rfl⟩) (fun j v hj => by
            rw [cell_at hh]
            cases j with
            | zero => simpa using hj
            | succ j => simp at hj) hl
          exact ⟨cv, by rw [hb.2.1]; exact r1, .inl ⟨r2, rfl, rfl⟩⟩
        · simp at h
      | box cs =>
        simp only [hgi] at h
        split at h
        · rename_i htot
          simp only [Option.map_eq_some_iff] at h
          obtain ⟨v, hl, rfl⟩ := h
          have hgid : g id = some (.box cs) := by rw [hg id (by simp), hgi]
          obtain ⟨l, hm, hr⟩ := hi.own id _ hgid
          obtain ⟨_, hcap, _, hone, a, ty, hh, hvr⟩ := hr.box cs rfl
          simp only [VR] at hv
          obtain ⟨_, l', hm', _, hv⟩ := hv
          rw [hm] at hm'; cases hm'
          have hv := hv (by rw [hr.top, htot]; rfl)
          subst hv
          obtain ⟨cv, r1, r2⟩ := load_sound (P := P) (w := w) (b := l.blk) (o := 0) hts hone hvr (fun j v hj => by rw [cell_at hh]; simpa using hj) hl
          exact ⟨cv, by simpa using r1, .inl ⟨r2, rfl, rfl⟩⟩
        · simp at h
  | eptr id ix off tot =>
    simp only at h
    split at h
    · rename_i esz es ro hgi
      split at h
      · rename_i htot
        cases hix : es[ix]? with
        | none => simp [hix] at h
        | some e0 =>
          simp only [hix, Option.map_eq_some_iff] at h
          obtain ⟨v, hl, rfl⟩ := h
          have hgid : g id = some (.arr esz es ro) := by rw [hg id (by simp), hgi]
          obtain ⟨l, hm, hr⟩ := hi.own id _ hgid
          obtain ⟨hesz, hpos, hwd, hcap, hb⟩ := hr.arr _ _ _ rfl
          have hlt : ix < es.length := (List.getElem?_eq_some_iff.1 hix).1
          obtain ⟨a, ty, hh, hsz, _, hvr⟩ := hb.resolve_left (by omega)
          simp only [VR] at hv
          obtain ⟨_, l', hm', _, hv⟩ := hv
          rw [hm] at hm'; cases hm'
          have hv := hv (by rw [hr.top, htot]; rfl)
          subst hv
          have hel := VRL_elem (VRL.mono (FM.le_refl φ) _ (Ext.none m) hvr) (fun e he => (hwd e he).1) hix
          have hone := (hwd e0 (List.mem_of_getElem? hix)).2
          obtain ⟨cv, r1, r2⟩ := load_sound (P := P) (w := w) (b := l.blk) (o := ix * esz) hts hone hel
            (fun j v hj => by
              rw [cell_at hh]
              rw [List.getElem?_take] at hj
              split at hj
              · rw [List.getElem?_drop, List.getElem?_take] at hj
                split at hj
                · simpa using hj
                · simp at hj
              · simp at hj) hl
          refine ⟨cv, ?_, .inl ⟨r2, rfl, rfl⟩⟩
          rw [hesz]; exact r1
      · simp at h
    · rename_i esz es zs hgi
      split at h
      · rename_i htot
        cases hix : es[ix]? with
        | none => simp [hix] at h
        | some e0 =>
          simp only [hix] at h
          obtain ⟨w1, hw1, hg1⟩ : ∃ v, ldc ts e0.cells off = some v ∧ id ∈ e.rd := by
            cases hq : ldc ts e0.cells off with
            | none => rw [hq] at h; simp at h
            | some v =>
              refine ⟨v, rfl, ?_⟩
              rw [hq] at h
              split at h
              · unfold brwA at h
                split at h
                · split at h
                  · cases h; simp
                  · cases h
                · cases h
              · rename_i v' hv'
                split at h
                · cases h; simp
                · unfold brwE at h
                  split at h
                  · split at h
                    · obtain ⟨x, _, rfl⟩ := Option.map_eq_some_iff.1 h
                      simp
                    · cases h
                  · cases h
              · cases h
          have hgid : g id = some (.nar esz es zs) := by rw [hg id hg1, hgi]
          obtain ⟨l, hm, hr⟩ := hi.own id _ hgid
          obtain ⟨hesz, hpos, hwd, hcap, hsub, vs, F, hnr, hF, hb⟩ := hr.oth
          have hlt : ix < es.length := (List.getElem?_eq_some_iff.1 hix).1
          obtain ⟨a, ty, hh, hsz, hφ, hvs⟩ := hb.resolve_left (by omega)
          simp only [VR] at hv
          obtain ⟨_, l', hm', _, hv⟩ := hv
          rw [hm] at hm'; cases hm'
          have hv := hv (by rw [hr.top, htot]; rfl)
          subst hv
          have hwe := hwd e0 (List.mem_of_getElem? hix)
          have hcell : ∀ (j : Nat) (v : Value), vs[j]? = some v → w.cell? ⟨l.blk, j, none⟩ = some v := fun j v hj => by
            rw [cell_at hh]
            rw [← hvs, List.getElem?_take] at hj
            split at hj
            · simpa using hj
            · cases hj
          have hfg : ∀ {j : Nat}, j < esz → (es.flatMap AV.cells)[ix * esz + j]? = e0.cells[j]? := fun {j} hj => flat_at (fun e he => (hwd e he).1) hix hj
          have hvl : vs.length = es.length * esz := by rw [hnr.1, flat_len (fun e he => (hwd e he).1)]
          have hbnd : ∀ {j : Nat}, j < esz → ix * esz + j < vs.length := fun {j} hj => by
            rw [hvl]
            have : (ix + 1) * esz ≤ es.length * esz := Nat.mul_le_mul_right _ hlt
            rw [Nat.succ_mul] at this; omega
          rw [hw1] at h
          cases ts with
          | sc =>
            obtain ⟨ha, ii, hii, hss⟩ := tsh_sc hts
            simp only [ldc] at hw1
            have hoff : off < esz := by rw [← hwe.1]; exact (List.getElem?_eq_some_iff.1 hw1).1
            have hv1 : vs[ix * esz + off]? = some (vs[ix * esz + off]'(hbnd hoff)) := List.getElem?_eq_getElem (hbnd hoff)
            refine ⟨vs[ix * esz + off]'(hbnd hoff), ?_, ?_⟩
            · have := hcell _ _ hv1
              rw [hesz]
              simp [Instr.loadAt, Instr.sureAddr, loadVar, run_isAgg ha, this]
            · split at h
              · rename_i r heq
                cases heq
                unfold brwA at h
                split at h
                · rename_i e' he'
                  split at h
                  · rename_i hz
                    cases h
                    exact .inr <| .inl ⟨id, ix, off, esz, es, zs, e0, r, e', l, a, ty, vs, F, hgid, hm, hix, hw1, hoff, he', hz, hh, hsz, hφ, hvs, hnr, hF, hv1, rfl⟩
                  · cases h
                · cases h
              · rename_i v' hnf heq
                cases heq
                split at h
                · rename_i hpl
                  cases h
                  obtain ⟨v2, k1, k2, _⟩ := NR_plain hnr (i := ix * esz + off) (c := w1) (by rw [hfg hoff]; exact hw1) hpl
                  rw [hv1] at k1; cases k1
                  exact .inl ⟨k2, rfl, rfl⟩
                · rename_i hnp
                  exfalso
                  have hc1 : w1.one = true := List.all_eq_true.1 hwe.2 _ (List.mem_of_getElem? hw1)
                  have hc := hfg hoff
                  rw [hw1] at hc
                  have hN := hnr.2.1 _ _ _ hc hv1
                  rcases hN with ⟨hp, _⟩ | ⟨es', _, _, rfl, _⟩
                  · exact hnp hp
                  · exact hnf _ rfl
              · cases h
          | ag n =>
            simp only [ldc] at hw1
            split at hw1
            · rename_i hn
              cases hw1
              simp only at h
              split at h
              · rename_i hpl
                cases h
                have hpc : ∀ (j : Nat) (c : AV), ((e0.cells.drop off).take n)[j]? = some c → plain c = true := by
                  intro j c hc
                  simp only [plain] at hpl
                  have hmem := List.mem_of_getElem? hc
                  have key : ∀ {cs : List AV}, plainL cs = true → c ∈ cs → plain c = true := by
                    intro cs
                    induction cs with
                    | nil => intro _ h; simp at h
                    | cons x cs ih =>
                      intro h1 h2
                      simp only [plainL, Bool.and_eq_true] at h1
                      rcases List.mem_cons.1 h2 with rfl | h2
                      · exact h1.1
                      · exact ih h1.2 h2
                  exact key hpl hmem
                have hel : VRL φ m ((e0.cells.drop off).take n) ((vs.drop (ix * esz + off)).take n) := by
                  refine VRL_of ?_ fun j c v hc hvj => ?_
                  · have hb2 : ix * esz + off + n ≤ vs.length := by
                      rw [hvl]
                      have : (ix + 1) * esz ≤ es.length * esz := Nat.mul_le_mul_right _ hlt
                      rw [Nat.succ_mul] at this; omega
                    simp only [List.length_take, List.length_drop]; omega
                  · have hjn : j < n := by
                      have := (List.getElem?_eq_some_iff.1 hc).1
                      rw [List.length_take] at this; omega
                    have hc2 : e0.cells[off + j]? = some c := by
                      rw [List.getElem?_take, if_pos hjn, List.getElem?_drop] at hc; exact hc
                    have hv2 : vs[ix * esz + (off + j)]? = some v := by
                      rw [List.getElem?_take, if_pos hjn, List.getElem?_drop] at hvj
                      rw [← hvj]; congr 1; omega
                    obtain ⟨v2, k1, k2, _⟩ := NR_plain hnr (i := ix * esz + (off + j)) (c := c) (by rw [hfg (by omega)]; exact hc2) (hpc j c hc)
                    rw [hv2] at k1; cases k1
                    exact k2
                obtain ⟨cv, r1, r2⟩ := load_sound (P := P) (w := w) (b := l.blk) (o := ix * esz + off) (off := 0) (cs := (e0.cells.drop off).take n) (av := .agg ((e0.cells.drop off).take n)) hts (all_take (all_drop hwe.2 _) _) hel
                  (fun j v hj => hcell _ _ (by
                    rw [List.getElem?_take] at hj
                    split at hj
                    · rw [List.getElem?_drop] at hj; exact hj
                    · cases hj)) (by simp only [ldc, List.drop_zero, List.take_take, Nat.min_self, Nat.zero_add]; rw [if_pos (by simp only [List.length_take, List.length_drop]; omega)])
                refine ⟨cv, ?_, .inl ⟨r2, rfl, rfl⟩⟩
                rw [hesz]; simpa using r1
              · unfold brwE at h
                split at h
                · rename_i cs hnp
                  split at h
                  · rename_i hq
                    obtain ⟨hq0, hqn⟩ := hq
                    subst hq0
                    obtain ⟨⟨ds, wr, n'⟩, hbl, rfl⟩ := Option.map_eq_some_iff.1 h
                    have hce : (AV.agg cs).cells = cs := rfl
                    have hlen : cs.length = esz := by have := hwe.1; rwa [hce] at this
                    have hlt' : nx < n' := by
                      obtain ⟨i1, i2⟩ := brwL_nx hbl
                      rcases Nat.lt_or_ge nx n' with h0 | h0
                      · exact h0
                      · exfalso
                        refine hnp ?_
                        have hp := i2 (by omega)
                        have e1 : ((AV.agg cs).cells.drop 0).take n = cs := by
                          rw [hce, List.drop_zero]
                          refine List.take_of_length_le ?_
                          simp only [AV.cells, List.length_take, List.length_drop] at hqn
                          rw [hce] at hn; omega
                        rw [e1]; simpa [plain] using hp
                    have hnn : n = esz := by
                      simp only [AV.cells, List.length_take, List.length_drop] at hqn
                      rw [hce] at hn; omega
                    subst hnn
                    obtain ⟨us, hus⟩ : ∃ us, us = (vs.drop (ix * n)).take n := ⟨_, rfl⟩
                    have hul : us.length = n := by
                      rw [hus, List.length_take, List.length_drop]
                      have : (ix + 1) * n ≤ es.length * n := Nat.mul_le_mul_right _ hlt
                      rw [Nat.succ_mul] at this; omega
                    have hone : ∀ u ∈ us, u.oneCell' = true := fun u hu => by
                      obtain ⟨j, hj⟩ := List.getElem?_of_mem hu
                      have hjn : j < n := by have := (List.getElem?_eq_some_iff.1 hj).1; omega
                      rw [hus, List.getElem?_take, if_pos hjn, List.getElem?_drop] at hj
                      have hcc : cs[j]? = some (cs[j]'(by omega)) := List.getElem?_eq_getElem (by omega)
                      have hN := hnr.2.1 _ _ _ (by rw [hfg hjn]; exact hcc) hj
                      have ho1 : (cs[j]'(by omega)).one = true := List.all_eq_true.1 hwe.2 _ (List.mem_of_getElem? hcc)
                      rcases hN with ⟨_, h2, _⟩ | ⟨_, _, _, _, rfl, _⟩
                      · exact one_of h2 ho1
                      · rfl
                    have hraw : VRL φ m (us.map AV.raw) us := VRL_of (by simp) fun j c v hc hvj => by
                      rw [List.getElem?_map, hvj] at hc
                      cases hc
                      simp only [VR]
                      exact ⟨trivial, hone _ (List.mem_of_getElem? hvj)⟩
                    obtain ⟨cv, r1, r2⟩ := load_sound (P := P) (w := w) (b := l.blk) (o := ix * n) (off := 0) (cs := us.map AV.raw) (av := .agg (us.map AV.raw)) hts (by rw [List.all_map, List.all_eq_true]; exact fun _ _ => rfl) hraw
                      (fun j v hj => hcell _ _ (by
                        rw [hus, List.getElem?_take] at hj
                        split at hj
                        · rw [List.getElem?_drop] at hj; exact hj
                        · cases hj)) (by
                          simp only [ldc, List.drop_zero, Nat.zero_add]
                          rw [if_pos (by simp [hul]), List.take_of_length_le (by simp [hul])])
                    simp only [VR] at r2
                    obtain ⟨_, arr, rfl, r3⟩ := r2
                    have harr : arr.toList = us := by
                      refine List.ext_getElem? fun j => ?_
                      have hl1 := VRL_len r3
                      by_cases hj : j < us.length
                      · obtain ⟨u, hu1, hu2⟩ := VRL_get r3 (i := j) (c := .raw us[j]) (by simp [hj])
                        simp only [VR] at hu2
                        rw [hu1, hu2.1, List.getElem?_eq_getElem hj]
                      · rw [List.getElem?_eq_none (by rw [hl1]; simpa using hj), List.getElem?_eq_none (by omega)]
                    refine ⟨.agg arr, by rw [hesz]; simpa using r1, .inr (.inr ⟨id, ix, n, es, zs, cs, ds, wr, n', l, vs, F, arr, a, ty, hgid, hm, hix, hbl, hlt', hh, hvs, hnr, rfl, by rw [harr, hus], rfl⟩)⟩
                  · cases h
                · cases h
            · cases hw1
      · simp at h
    · simp at h
  | _ => simp at h
end Go.Proofs.YtapchldnmkfkoabDoor.Am
namespace Go.Proofs.YtapchldnmkfkoabDoor.Am
open Go

variable {P : Program}

theorem lkp_one (id : Nat) (ob : Ob) (i : Nat) : lkp [(id, ob)] i = if id = i then some ob else none := by simp [lkp]

theorem upd_one (g : Nat → Option Ob) (id : Nat) (ob : Ob) (i : Nat) : upd g [(id, ob)] i = if id = i then some ob else g i := by
  unfold upd; rw [lkp_one]; split <;> simp_all

/-- A block that is one object's own is written. -/
theorem inv_put {φ : FM} {m : LM} {g : Nat → Option Ob} {w w' : World} (hi : Inv φ m g w) {id : Nat} {ob ob' : Ob} {l : Loc} {b0 : Nat} (hg : g id = some ob) (hm : m id = some l)
    (hfp : ob.fp l b0) (hfp' : ∀ b, ob'.fp l b → ob.fp l b) (hφ : φ b0 = none) (hos : w'.os = w.os) (htape : w'.tape = w.tape) (hout : w'.output = w.output) (hsz : w'.heap.size = w.heap.size)
    (hh : ∀ b, b ≠ b0 → w'.heap[b]? = w.heap[b]?) (hr : ObR φ m w' l ob') :
    Inv φ m (upd g [(id, ob')]) w' ∧ Fr φ m g w φ m (upd g [(id, ob')]) w' := by
  have hown : ∀ b, ownB (upd g [(id, ob')]) m b → ownB g m b := by
    rintro b ⟨i, o, l', h1, h2, h3⟩
    rw [upd_one] at h1
    split at h1
    · rename_i e; subst e; cases h1
      rw [hm] at h2; cases h2
      exact ⟨id, ob, l, hg, hm, hfp' b h3⟩
    · exact ⟨i, o, l', h1, h2, h3⟩
  refine ⟨⟨fun b o hb => ?_, fun i o hio => ?_, fun i i' o o' k k' b h1 h2 h3 h4 h5 h6 h7 => ?_⟩, ⟨FM.le_refl _, Ext.refl _, hos, htape, hout, by omega, fun b hb hn => ?_, fun b o h => .inl h, fun b hb => .inr (hown b hb)⟩⟩
  · rw [hh b (by rintro rfl; rw [hφ] at hb; cases hb)]; exact hi.fz b o hb
  · rw [upd_one] at hio
    split at hio
    · rename_i e; subst e; cases hio; exact ⟨l, hm, hr⟩
    · rename_i hne
      obtain ⟨k, hk, hkr⟩ := hi.own i o hio
      exact ⟨k, hk, hkr.mono (FM.le_refl _) (Ext.refl _) (fun b h => hh _ (fun e => hi.sep i id _ _ _ _ b hio hg hk hm (fun e => hne e.symm) h (by rw [e]; exact hfp))) (fun _ _ => rfl)⟩
  · rw [upd_one] at h1 h2
    split at h1 <;> split at h2
    · omega
    · rename_i e _; subst e; cases h1
      rw [hm] at h3; cases h3
      exact hi.sep _ _ _ _ _ _ b hg h2 hm h4 h5 (hfp' b h6) h7
    · rename_i e; subst e; cases h2
      rw [hm] at h4; cases h4
      exact hi.sep _ _ _ _ _ _ b h1 hg h3 hm h5 h6 (hfp' b h7)
    · exact hi.sep _ _ _ _ _ _ b h1 h2 h3 h4 h5 h6 h7
  · exact hh b (by rintro rfl; exact hn ⟨id, ob, l, hg, hm, hfp⟩)

theorem upd_append (g : Nat → Option Ob) (a b : Hp) : upd g (a ++ b) = upd (upd g b) a := by
  funext i
  induction a with
  | nil => simp [upd, lkp]
  | cons x xs ih =>
    simp only [upd, List.cons_append, lkp] at ih ⊢
    by_cases e : x.1 = i
    · simp [e]
    · simpa [e] using ih

theorem upd_cons (g : Nat → Option Ob) (a : Nat × Ob) (b : Hp) : upd g (a :: b) = upd (upd g b) [a] := upd_append g [a] b

/-- An array that is one object's own becomes one that nobody may write. -/
theorem inv_ro {φ : FM} {m : LM} {g : Nat → Option Ob} {w : World} (hi : Inv φ m g w) {id : Nat} {esz : Nat} {es : List AV} {ro : Bool} (hg : g id = some (.arr esz es ro)) :
    ∃ φ', Inv φ' m (upd g [(id, .arr esz es true)]) w ∧ Fr φ m g w φ' m (upd g [(id, .arr esz es true)]) w ∧
      ∀ l, m id = some l → 0 < l.cap → φ' l.blk = w.heap[l.blk]? := by
  obtain ⟨l, hm, hr⟩ := hi.own id _ hg
  obtain ⟨h1, h2, h3, h4, h5⟩ := hr.arr esz es ro rfl
  have hown : ∀ b, ownB (upd g [(id, .arr esz es true)]) m b → ownB g m b := by
    rintro b ⟨i, o, l', k1, k2, k3⟩
    rw [upd_one] at k1
    split at k1
    · rename_i e; subst e; cases k1; exact ⟨id, _, l', hg, k2, k3⟩
    · exact ⟨i, o, l', k1, k2, k3⟩
  let φ' : FM := φ.grow (fun b => if b = l.blk ∧ 0 < l.cap then w.heap[l.blk]? else φ b) (by
    intro b o hb
    show (if _ then _ else _) = _
    split
    · rename_i e; rw [← e.1]; exact hi.fz b o hb
    · exact hb)
  have hle : φ.le φ' := by
    intro b o hb
    show (if _ then _ else _) = _
    split
    · rename_i e; rw [← e.1]; exact hi.fz b o hb
    · exact hb
  have hfz : ∀ b o, φ' b = some o → w.heap[b]? = some o := by
    intro b o hb
    change (if _ then _ else _) = _ at hb
    split at hb
    · rename_i e; rw [e.1]; exact hb
    · exact hi.fz b o hb
  refine ⟨φ', ⟨hfz, fun i o hio => ?_, fun i i' o o' k k' b k1 k2 k3 k4 k5 k6 k7 => ?_⟩, ⟨hle, Ext.refl _, rfl, rfl, rfl, Nat.le_refl _, fun _ _ _ => rfl, fun b o h => ?_, fun b hb => .inr (hown b hb)⟩, fun l' e hc => ?_⟩
  · rw [upd_one] at hio
    split at hio
    · rename_i e; subst e; cases hio
      refine ⟨l, hm, hr.top, fun cs e => (by cases e), fun esz' es' ro' e => ?_, trivial⟩
      cases e
      refine ⟨h1, h2, h3, h4, ?_⟩
      rcases h5 with h0 | ⟨a, t, h5, h6, h7, h8⟩
      · exact .inl h0
      · by_cases hz : l.cap = 0
        · exact .inl hz
        refine .inr ⟨a, t, h5, h6, ?_, VRL.mono hle _ (Ext.refl _) h8⟩
        show (if _ then _ else _) = _
        rw [if_pos ⟨rfl, by omega⟩, h5]; rfl
    · rename_i hne
      obtain ⟨k, hk, hkr⟩ := hi.own i o hio
      have hb' : ∀ b, o.fp k b → φ' b = φ b := by
        intro b hc
        show (if _ then _ else _) = _
        split
        · rename_i e
          exact (hi.sep i id _ _ _ _ b hio hg hk hm (fun e => hne e.symm) hc ⟨e.2, e.1.symm⟩).elim
        · rfl
      exact ⟨k, hk, hkr.mono hle (Ext.refl _) (fun _ _ => rfl) hb'⟩
  · rw [upd_one] at k1 k2
    split at k1 <;> split at k2
    · omega
    · rename_i e _; subst e; cases k1; exact hi.sep _ _ _ _ _ _ b hg k2 k3 k4 k5 k6 k7
    · rename_i e; subst e; cases k2; exact hi.sep _ _ _ _ _ _ b k1 hg k3 k4 k5 k6 k7
    · exact hi.sep _ _ _ _ _ _ b k1 k2 k3 k4 k5 k6 k7
  · change (if _ then _ else _) = _ at h
    split at h
    · rename_i e; exact .inr (.inr ⟨id, _, l, hg, hm, ⟨e.2, e.1.symm⟩⟩)
    · exact .inl h
  · rw [hm] at e; cases e
    show (if _ then _ else _) = _
    rw [if_pos ⟨rfl, hc⟩]

/-- What is covered: each own object of these numbers has its block among the frozen ones. -/
def Cov (φ : FM) (m : LM) (g : Nat → Option Ob) (w : World) (is : List Nat) : Prop :=
  ∀ i ∈ is, ∀ ob l, g i = some ob → m i = some l → ∀ b, ob.fp l b → φ b = w.heap[b]?

theorem upd_get (g : Nat → Option Ob) (wr : Hp) (i : Nat) : upd g wr i = match lkp wr i with | some o => some o | none => g i := rfl

end Go.Proofs.YtapchldnmkfkoabDoor.Am
namespace Go.Proofs.YtapchldnmkfkoabDoor.Am
open Go

variable {P : Program}

theorem frzW_one {g : Nat → Option Ob} {bx : List AV → Option (List AV)} {a a' : AV} (h : frzW g bx a = some a') (h1 : a.one = true) : a'.one = true := by
  cases a with
  | any => simp [AV.one] at h1
  | slf => simp [frzW] at h
  | agg => simp [AV.one] at h1
  | tup => simp [AV.one] at h1
  | func fn f c =>
    simp only [frzW] at h
    split at h
    · cases h; rfl
    · cases h
  | osl => simp only [frzW] at h; (repeat' split at h) <;> first | (cases h; rfl) | cases h
  | optr =>
    simp only [frzW] at h; (repeat' split at h) <;> first | cases h | skip
    simp only [Option.map_eq_some_iff] at h
    obtain ⟨_, _, rfl⟩ := h; rfl
  | eptr => simp only [frzW] at h; (repeat' split at h) <;> first | (cases h; rfl) | cases h
  | _ => simp only [frzW] at h; cases h; rfl

theorem frzWL_one {g : Nat → Option Ob} {bx : List AV → Option (List AV)} : ∀ {a a' : List AV}, frzWL g bx a = some a' → a.all AV.one = true → a'.all AV.one = true
  | [], a', h, _ => by simp only [frzWL, Option.some.injEq] at h; subst h; rfl
  | c :: cs, a', h, h1 => by
    simp only [frzWL] at h
    split at h
    · rename_i c' cs' e1 e2
      cases h
      simp only [List.all_cons, Bool.and_eq_true] at h1 ⊢
      exact ⟨frzW_one e1 h1.1, frzWL_one e2 h1.2⟩
    · cases h

section
variable {φ φ2 : FM} {m : LM} {g gi : Nat → Option Ob} {w : World}
mutual
theorem noids_VR (hle : φ.le φ2) : ∀ (a : AV) {v : Value}, ids a = [] → VR φ m a v → VR φ2 LM.none a v
  | .any, _, _, _ => by simp [VR]
  | .bool _, _, _, h => by simpa [VR] using h
  | .int _ _, _, _, h => by simpa [VR] using h
  | .str _, _, _, h => by simpa [VR] using h
  | .agg cs, v, hi, h => by
    simp only [ids] at hi
    simp only [VR] at h ⊢
    obtain ⟨h1, a, rfl, h2⟩ := h
    exact ⟨h1, a, rfl, noidsL_VR hle cs hi h2⟩
  | .tup cs, v, hi, h => by
    simp only [ids] at hi
    simp only [VR] at h ⊢
    obtain ⟨a, rfl, h2⟩ := h
    exact ⟨a, rfl, noidsL_VR hle cs hi h2⟩
  | .fsl es, v, _, h => by
    have := VR.mono hle (.fsl es) (m := m) (m' := m) (v := v) (Ext.refl _) h
    simpa [VR] using this
  | .fptr cs o, v, _, h => by
    have := VR.mono hle (.fptr cs o) (m := m) (m' := m) (v := v) (Ext.refl _) h
    simpa [VR] using this
  | .osl .., _, hi, _ => by simp [ids] at hi
  | .optr .., _, hi, _ => by simp [ids] at hi
  | .eptr .., _, hi, _ => by simp [ids] at hi
  | .slf .., _, hi, _ => by simp [ids] at hi
  | .func fn f c, v, hi, h => by
    simp only [ids, List.append_eq_nil_iff] at hi
    simp only [VR] at h ⊢
    obtain ⟨f', c', rfl, h1, h2⟩ := h
    exact ⟨f', c', rfl, noidsL_VR hle f hi.1 h1, noidsL_VR hle c hi.2 h2⟩
  | .nilf, _, _, h => by simpa [VR] using h
  | .nilp, _, _, h => by simpa [VR] using h
  | .nilsl, _, _, h => by simpa [VR] using h
  | .nili, _, _, h => by simpa [VR] using h
  | .raw _, _, _, h => by simpa [VR] using h
theorem noidsL_VR (hle : φ.le φ2) : ∀ (a : List AV) {v : List Value}, idsL a = [] → VRL φ m a v → VRL φ2 LM.none a v
  | [], _, _, h => by simpa [VRL] using h
  | c :: cs, v, hi, h => by
    simp only [idsL, List.append_eq_nil_iff] at hi
    simp only [VRL] at h ⊢
    obtain ⟨v, vs, rfl, h1, h2⟩ := h
    exact ⟨v, vs, rfl, noids_VR hle c hi.1 h1, noidsL_VR hle cs hi.2 h2⟩
end

/-- What is read of an own array, frozen. -/
theorem arr_VRE (hi : Inv φ m g w) (hle : φ.le φ2) {id : Nat} {esz : Nat} {es : List AV} {ro : Bool} {l : Loc} (hg : g id = some (.arr esz es ro)) (hm : m id = some l)
    (hcv : 0 < l.cap → φ2 l.blk = w.heap[l.blk]?) (hc : 0 < l.cap) : VRE φ2 es l.blk 0 := by
  obtain ⟨l', hm', hr⟩ := hi.own id _ hg
  rw [hm] at hm'; cases hm'
  obtain ⟨h1, h2, h3, h4, h5⟩ := hr.arr esz es ro rfl
  obtain ⟨a, t, k1, k2, _, k4⟩ := h5.resolve_left (by omega)
  refine VRE_of (VRL.mono hle _ (Ext.refl _) k4) (fun e he => (h3 e he).2) fun j v hj => ?_
  unfold FM.cell
  rw [hcv hc, k1]
  simp only [Nat.zero_add]
  rw [List.getElem?_take] at hj
  split at hj
  · simpa using hj
  · simp at hj

/-- What is read of an own row with rows in it, frozen. -/
theorem nar_VRE (hi : Inv φ m g w) (hle : φ.le φ2) {id : Nat} {esz : Nat} {es : List AV} {zs : List Nat} {l : Loc} (hg : g id = some (.nar esz es zs)) (hm : m id = some l)
    (hcv : ∀ b, (Ob.nar esz es zs).fp l b → φ2 b = w.heap[b]?) (hno : idsL es = []) (hc : 0 < l.cap) : VRE φ2 es l.blk 0 := by
  obtain ⟨l', hm', hr⟩ := hi.own id _ hg
  rw [hm] at hm'; cases hm'
  obtain ⟨h1, h2, h3, h4, h5, vs, F, h6, h7, h8⟩ := hr.oth
  obtain ⟨a, t, k1, k2, _, k4⟩ := h8.resolve_left (by omega)
  have hnc : ∀ c ∈ es.flatMap AV.cells, ids c = [] := by
    intro c hc
    obtain ⟨e, he, hce⟩ := List.mem_flatMap.1 hc
    have key : ∀ {cs : List AV}, idsL cs = [] → ∀ x ∈ cs, ids x = [] := by
      intro cs
      induction cs with
      | nil => intro _ x hx; simp at hx
      | cons y cs ih =>
        intro hq x hx
        simp only [idsL, List.append_eq_nil_iff] at hq
        rcases List.mem_cons.1 hx with rfl | hx
        · exact hq.1
        · exact ih hq.2 x hx
    have hie := key hno e he
    cases e with
    | agg cs => simp only [ids] at hie; exact key hie c hce
    | _ => simp only [AV.cells, List.mem_singleton] at hce; rw [hce]; exact hie
  have hV : VRL φ2 LM.none (es.flatMap AV.cells) vs := by
    refine VRL_of h6.1 fun i c v hc hv => ?_
    rcases h6.2.1 i c v hc hv with ⟨p1, p2, _⟩ | ⟨row, ad, cap, rfl, rfl, q1, q2, q3, q4⟩
    · exact noids_VR hle c (hnc c (List.mem_of_getElem? hc)) p2
    · simp only [VR]
      refine ⟨ad, cap, rfl, q1, ?_⟩
      rcases q4 with ⟨hz, _⟩ | ⟨_, b, a', t', rfl, r1, r2, r3, r4, r5⟩
      · left; omega
      · refine .inr ⟨b, 0, rfl, ?_⟩
        have hb := hcv b (.inr (h7 i b r1))
        refine VRE_of (r5 _) (fun e he => ((q2 r3) e he).2) fun j v hj => ?_
        unfold FM.cell
        rw [hb, r2]
        simp only [Nat.zero_add]
        rw [List.getElem?_take] at hj
        split at hj
        · simpa using hj
        · simp at hj
  refine VRE_of hV (fun e he => (h3 e he).2) fun j v hj => ?_
  unfold FM.cell
  rw [hcv _ (.inl ⟨hc, rfl⟩), k1]
  simp only [Nat.zero_add]
  rw [← k4, List.getElem?_take] at hj
  split at hj
  · simpa using hj
  · simp at hj

mutual
theorem frzW_sound (hi : Inv φ m g w) (hle : φ.le φ2) (bx : List AV → Option (List AV))
    (hbx : ∀ id cs cs' l, g id = some (.box cs) → m id = some l → φ2 l.blk = w.heap[l.blk]? → bx cs = some cs' → VRC φ2 cs' l.blk 0) :
    ∀ (a : AV) {a' : AV} {cv : Value}, frzW gi bx a = some a' → (∀ id ∈ ids a, g id = gi id) → Cov φ2 m g w (ids a) → VR φ m a cv → VR φ2 LM.none a' cv
  | .any, _, _, h, _, _, _ => by simp [frzW] at h
  | .bool _, _, _, h, _, _, hv => by simp only [frzW] at h; cases h; simpa [VR] using hv
  | .int _ _, _, _, h, _, _, hv => by simp only [frzW] at h; cases h; simpa [VR] using hv
  | .str _, _, _, h, _, _, hv => by simp only [frzW] at h; cases h; simpa [VR] using hv
  | .slf _ _, _, _, h, _, _, _ => by simp [frzW] at h
  | .nilf, _, _, h, _, _, hv => by simp only [frzW] at h; cases h; simpa [VR] using hv
  | .nilp, _, _, h, _, _, hv => by simp only [frzW] at h; cases h; simpa [VR] using hv
  | .nili, _, _, h, _, _, hv => by simp only [frzW] at h; cases h; simpa [VR] using hv
  | .raw _, _, _, h, _, _, hv => by simp only [frzW] at h; cases h; simpa [VR] using hv
  | .fsl es, _, _, h, _, _, hv => by
    simp only [frzW] at h; cases h
    have := VR.mono hle (.fsl es) (m' := m) (Ext.refl _) hv
    simpa [VR] using this
  | .fptr cs o, _, _, h, _, _, hv => by
    simp only [frzW] at h; cases h
    have := VR.mono hle (.fptr cs o) (m' := m) (Ext.refl _) hv
    simpa [VR] using this
  | .nilsl, _, _, h, _, _, hv => by
    simp only [frzW] at h; cases h
    simp only [VR] at hv ⊢
    obtain ⟨ad, rfl⟩ := hv
    exact ⟨ad, 0, rfl, Nat.le_refl _, .inl rfl⟩
  | .agg cs, a', cv, h, hg, hc, hv => by
    simp only [frzW, Option.map_eq_some_iff] at h
    obtain ⟨cs', h, rfl⟩ := h
    simp only [VR] at hv ⊢
    obtain ⟨h1, a, rfl, h2⟩ := hv
    exact ⟨frzWL_one h h1, a, rfl, frzWL_sound hi hle bx hbx cs h (by simpa [ids] using hg) (by simpa [ids] using hc) h2⟩
  | .tup cs, a', cv, h, hg, hc, hv => by
    simp only [frzW, Option.map_eq_some_iff] at h
    obtain ⟨cs', h, rfl⟩ := h
    simp only [VR] at hv ⊢
    obtain ⟨a, rfl, h2⟩ := hv
    exact ⟨a, rfl, frzWL_sound hi hle bx hbx cs h (by simpa [ids] using hg) (by simpa [ids] using hc) h2⟩
  | .func fn f c, a', cv, h, hg, hc, hv => by
    simp only [frzW] at h
    split at h
    · rename_i f' c' e1 e2
      cases h
      simp only [VR] at hv ⊢
      obtain ⟨fv, cw, rfl, h1, h2⟩ := hv
      exact ⟨fv, cw, rfl, frzWL_sound hi hle bx hbx f e1 (fun i hi => hg i (by simp [ids, hi])) (fun i hi => hc i (by simp [ids, hi])) h1,
        frzWL_sound hi hle bx hbx c e2 (fun i hi => hg i (by simp [ids, hi])) (fun i hi => hc i (by simp [ids, hi])) h2⟩
    · cases h
  | .osl id off len tot, a', cv, h, hg, hc, hv => by
    simp only [frzW] at h
    split at h
    · rename_i esz es ro hgi
      split at h
      · rename_i hb
        cases h
        have hgid := (hg id (by simp [ids])).trans hgi
        simp only [VR] at hv ⊢
        obtain ⟨_, l, hm, _, hv⟩ := hv
        obtain ⟨l', hm', hr⟩ := hi.own id _ hgid
        rw [hm] at hm'; cases hm'
        obtain ⟨ad, rfl, had⟩ := hv (by rw [hr.top]; exact hb.1)
        obtain ⟨h1, h2, h3, h4, _⟩ := hr.arr esz es ro rfl
        have hlen : ((es.drop off).take len).length = len := by simp; omega
        rw [hlen]
        refine ⟨ad, l.cap - off, rfl, by omega, ?_⟩
        by_cases h0 : len = 0
        · exact .inl h0
        · refine .inr ⟨l.blk, off * l.esz, had (by omega), ?_⟩
          have hcap : 0 < l.cap := by omega
          have := arr_VRE hi hle hgid hm (fun hh => hc id (by simp [ids]) _ l hgid hm _ ⟨hh, rfl⟩) hcap
          have := VRE_take (VRE_drop this (fun e he => (h3 e he).1) off) len
          rw [h1]; simpa using this
      · cases h
    · rename_i esz es zs hgi
      split at h
      · rename_i hb
        obtain ⟨hb, hno⟩ := hb
        cases h
        have hgid := (hg id (by simp [ids])).trans hgi
        simp only [VR] at hv ⊢
        obtain ⟨_, l, hm, _, hv⟩ := hv
        obtain ⟨l', hm', hr⟩ := hi.own id _ hgid
        rw [hm] at hm'; cases hm'
        obtain ⟨ad, rfl, had⟩ := hv (by rw [hr.top]; exact hb.1)
        obtain ⟨h1, h2, h3, h4, _⟩ := hr.oth
        have hlen : ((es.drop off).take len).length = len := by simp; omega
        rw [hlen]
        refine ⟨ad, l.cap - off, rfl, by omega, ?_⟩
        by_cases h0 : len = 0
        · exact .inl h0
        · refine .inr ⟨l.blk, off * l.esz, had (by omega), ?_⟩
          have hcap : 0 < l.cap := by omega
          have := nar_VRE hi hle hgid hm (fun b hb => hc id (by simp [ids]) _ l hgid hm b hb) (by simpa using hno) hcap
          have := VRE_take (VRE_drop this (fun e he => (h3 e he).1) off) len
          rw [h1]; simpa using this
      · cases h
    · cases h
  | .optr id off tot, a', cv, h, hg, hc, hv => by
    simp only [frzW] at h
    split at h
    · rename_i cs hgi
      split at h
      · rename_i hb
        simp only [Option.map_eq_some_iff] at h
        obtain ⟨cs', h, rfl⟩ := h
        have hgid := (hg id (by simp [ids])).trans hgi
        simp only [VR] at hv ⊢
        obtain ⟨_, l, hm, _, hv⟩ := hv
        obtain ⟨l', hm', hr⟩ := hi.own id _ hgid
        rw [hm] at hm'; cases hm'
        obtain rfl := hv (by rw [hr.top]; exact hb)
        obtain ⟨_, h2, _⟩ := hr.box cs rfl
        exact ⟨l.blk, 0, by simp, hbx id cs cs' l hgid hm (hc id (by simp [ids]) _ l hgid hm _ ⟨h2.2, rfl⟩) h⟩
      · cases h
    · cases h
  | .eptr id ix off tot, a', cv, h, hg, hc, hv => by
    simp only [frzW] at h
    split at h
    · rename_i esz es ro hgi
      split at h
      · rename_i hb
        split at h
        · rename_i e he
          cases h
          have hgid := (hg id (by simp [ids])).trans hgi
          simp only [VR] at hv ⊢
          obtain ⟨_, l, hm, _, hv⟩ := hv
          obtain ⟨l', hm', hr⟩ := hi.own id _ hgid
          rw [hm] at hm'; cases hm'
          obtain rfl := hv (by rw [hr.top]; exact hb)
          obtain ⟨h1, h2, h3, h4, _⟩ := hr.arr esz es ro rfl
          have hlt : ix < es.length := (List.getElem?_eq_some_iff.1 he).1
          have := arr_VRE hi hle hgid hm (fun hh => hc id (by simp [ids]) _ l hgid hm _ ⟨hh, rfl⟩) (by omega)
          refine ⟨l.blk, ix * l.esz, rfl, ?_⟩
          have := VRE_get this (fun e he => (h3 e he).1) he
          rw [h1]; simpa using this
        · cases h
      · cases h
    · cases h
theorem frzWL_sound (hi : Inv φ m g w) (hle : φ.le φ2) (bx : List AV → Option (List AV))
    (hbx : ∀ id cs cs' l, g id = some (.box cs) → m id = some l → φ2 l.blk = w.heap[l.blk]? → bx cs = some cs' → VRC φ2 cs' l.blk 0) :
    ∀ (a : List AV) {a' : List AV} {cv : List Value}, frzWL gi bx a = some a' → (∀ id ∈ idsL a, g id = gi id) → Cov φ2 m g w (idsL a) → VRL φ m a cv → VRL φ2 LM.none a' cv
  | [], _, _, h, _, _, hv => by simp only [frzWL] at h; cases h; simpa [VRL] using hv
  | c :: cs, a', cv, h, hg, hc, hv => by
    simp only [frzWL] at h
    split at h
    · rename_i c' cs' e1 e2
      cases h
      simp only [VRL] at hv ⊢
      obtain ⟨v, vs, rfl, h1, h2⟩ := hv
      exact ⟨v, vs, rfl, frzW_sound hi hle bx hbx c e1 (fun i hi => hg i (by simp [idsL, hi])) (fun i hi => hc i (by simp [idsL, hi])) h1,
        frzWL_sound hi hle bx hbx cs e2 (fun i hi => hg i (by simp [idsL, hi])) (fun i hi => hc i (by simp [idsL, hi])) h2⟩
    · cases h
end

end
theorem VRE_vals {φ : FM} {es : List AV} {b o : Nat} (h : VRE φ es b o) : ∃ vs : List Value, VRL φ LM.none (es.flatMap AV.cells) vs ∧ ∀ (j : Nat) (v : Value), vs[j]? = some v → φ.cell b (o + j) = some v := by
  induction es generalizing o with
  | nil => exact ⟨[], by simp [VRL], by simp⟩
  | cons e es ih =>
    rw [VRE_cons] at h
    obtain ⟨v1, a1, a2⟩ := VRC_vals h.1
    obtain ⟨v2, b1, b2⟩ := ih h.2
    refine ⟨v1 ++ v2, by rw [List.flatMap_cons]; exact VRL_append a1 b1, fun j v hj => ?_⟩
    have hl := VRL_len a1
    rw [List.getElem?_append] at hj
    split at hj
    · exact a2 j v hj
    · have := b2 _ v hj
      rw [hl] at this
      rw [← this]; congr 1; omega

/-- A row that holds rows is frozen, with all that lies in it. -/
theorem inv_roN {φ : FM} {m : LM} {g : Nat → Option Ob} {w : World} (hi : Inv φ m g w) {id esz : Nat} {es : List AV} {zs : List Nat} (hg : g id = some (.nar esz es zs)) (hno : idsL es = []) :
    ∃ φ', Inv φ' m (upd g [(id, .arr esz es true)]) w ∧ Fr φ m g w φ' m (upd g [(id, .arr esz es true)]) w ∧
      ∀ l b, m id = some l → (Ob.nar esz es zs).fp l b → φ' b = w.heap[b]? := by
  obtain ⟨l, hm, hr⟩ := hi.own id _ hg
  obtain ⟨b1, b2, b3, b4, b5, vs, F, b6, b7, b8⟩ := hr.oth
  have hown : ∀ b, ownB (upd g [(id, .arr esz es true)]) m b → ownB g m b := by
    rintro b ⟨i, o, l', k1, k2, k3⟩
    rw [upd_one] at k1
    split at k1
    · rename_i e; subst e; cases k1; exact ⟨id, _, l', hg, k2, .inl k3⟩
    · exact ⟨i, o, l', k1, k2, k3⟩
  let fp (b : Nat) : Prop := (Ob.nar esz es zs).fp l b
  open Classical in
  let φ' : FM := φ.grow (fun b => if fp b then w.heap[b]? else φ b) (by
    intro b o hb
    show (if _ then _ else _) = _
    split
    · exact hi.fz b o hb
    · exact hb)
  have hle : φ.le φ' := by
    intro b o hb
    show (if _ then _ else _) = _
    split
    · exact hi.fz b o hb
    · exact hb
  have hfz : ∀ b o, φ' b = some o → w.heap[b]? = some o := by
    intro b o hb
    change (if _ then _ else _) = _ at hb
    split at hb
    · exact hb
    · exact hi.fz b o hb
  have hcv : ∀ b, (Ob.nar esz es zs).fp l b → φ' b = w.heap[b]? := fun b hb => by
    show (if _ then _ else _) = _
    rw [if_pos hb]
  refine ⟨φ', ⟨hfz, fun i o hio => ?_, fun i i' o o' k k' b k1 k2 k3 k4 k5 k6 k7 => ?_⟩, ⟨hle, Ext.refl _, rfl, rfl, rfl, Nat.le_refl _, fun _ _ _ => rfl, fun b o h => ?_, fun b hb => .inr (hown b hb)⟩, fun l' b e hb => by rw [hm] at e; cases e; exact hcv b hb⟩
  · rw [upd_one] at hio
    split at hio
    · rename_i e; subst e; cases hio
      refine ⟨l, hm, hr.top, fun cs e => (by cases e), fun esz' es' ro' e => ?_, trivial⟩
      cases e
      refine ⟨b1, b2, b3, b4, ?_⟩
      rcases b8 with h0 | ⟨a, t, c1, c2, c3, c4⟩
      · exact .inl h0
      by_cases hz : 0 < l.cap
      · refine .inr ?_
        have hb : φ' l.blk = some (.cells a t (0, 0)) := by rw [hcv l.blk (.inl ⟨hz, rfl⟩)]; exact c1
        refine ⟨a, t, c1, c2, by simpa using hb, ?_⟩
        obtain ⟨us, u1, u2⟩ := VRE_vals (nar_VRE hi hle hg hm hcv hno hz)
        have hul := VRL_len u1
        have he : a.toList.take (es.length * esz) = us := by
          refine List.ext_getElem? fun j => ?_
          have hfl : (es.flatMap AV.cells).length = es.length * esz := flat_len (fun e he => (b3 e he).1)
          rw [List.getElem?_take]
          by_cases hj : j < es.length * esz
          · rw [if_pos hj]
            have hju : j < us.length := by omega
            have := u2 j us[j] (List.getElem?_eq_getElem hju)
            unfold FM.cell at this
            rw [hb] at this
            simp only [Nat.zero_add] at this
            rw [List.getElem?_eq_getElem hju, ← this]; simp
          · rw [if_neg hj, List.getElem?_eq_none (by omega)]
        rw [he]; exact u1
      · exact .inl (by omega)
    · rename_i hne
      obtain ⟨k, hk, hkr⟩ := hi.own i o hio
      have hb' : ∀ b, o.fp k b → φ' b = φ b := by
        intro b hc
        show (if _ then _ else _) = _
        split
        · rename_i e
          exact (hi.sep i id _ _ _ _ b hio hg hk hm (fun e => hne e.symm) hc e).elim
        · rfl
      exact ⟨k, hk, hkr.mono hle (Ext.refl _) (fun _ _ => rfl) hb'⟩
  · rw [upd_one] at k1 k2
    split at k1 <;> split at k2
    · omega
    · rename_i e _; subst e; cases k1; exact hi.sep _ _ _ _ _ _ b hg k2 k3 k4 k5 (.inl k6) k7
    · rename_i e; subst e; cases k2; exact hi.sep _ _ _ _ _ _ b k1 hg k3 k4 k5 k6 (.inl k7)
    · exact hi.sep _ _ _ _ _ _ b k1 k2 k3 k4 k5 k6 k7
  · change (if _ then _ else _) = _ at h
    split at h
    · rename_i e; exact .inr (.inr ⟨id, _, l, hg, hm, e⟩)
    · exact .inl h
theorem ro_sound {φ : FM} {m : LM} {gi : Nat → Option Ob} {w : World} : ∀ {is : List Nat} {g : Nat → Option Ob} {ro : Hp}, roAll gi is = some ro → (∀ x ∈ is, g x = gi x) → Inv φ m g w → is.Nodup →
    ∃ φ', Inv φ' m (upd g ro) w ∧ Fr φ m g w φ' m (upd g ro) w ∧ Cov φ' m g w is ∧ (∀ i, lkp ro i ≠ none → i ∈ is) ∧ (∀ i ob, upd g ro i = some ob → ∃ ob', g i = some ob' ∧ ob.len = ob'.len) ∧
      (∀ i ob, g i = some ob → upd g ro i = some ob ∨ (∃ esz es r, ob = .arr esz es r ∧ upd g ro i = some (.arr esz es true)) ∨ ∃ esz es zs, ob = .nar esz es zs ∧ upd g ro i = some (.arr esz es true))
  | [], g, ro, h, _, hi, _ => by
    simp only [roAll, Option.some.injEq] at h; subst h
    exact ⟨φ, by rw [upd_nil]; exact hi, by rw [upd_nil]; exact Fr.refl .., fun i hi => by simp at hi, by simp [lkp], by rw [upd_nil]; exact fun i ob h => ⟨ob, h, rfl⟩, by rw [upd_nil]; exact fun i ob h => .inl h⟩
  | i :: is, g, ro, h, hg, hi, hnd => by
    have hst : ∃ esz es hp, roAll gi is = some hp ∧ ro = (i, .arr esz es true) :: hp ∧ ((∃ r, gi i = some (.arr esz es r)) ∨ (∃ zs, gi i = some (.nar esz es zs)) ∧ idsL es = []) := by
      unfold roAll at h
      split at h
      · rename_i esz es r hp hgi hro
        simp only [Option.some.injEq] at h; subst h
        exact ⟨esz, es, hp, hro, rfl, .inl ⟨r, hgi⟩⟩
      · rename_i esz es zs hp hgi hro
        split at h
        · rename_i hno
          simp only [Option.some.injEq] at h; subst h
          exact ⟨esz, es, hp, hro, rfl, .inr ⟨⟨zs, hgi⟩, by simpa using hno⟩⟩
        · cases h
      · cases h
    obtain ⟨esz, es, hp, hro, rfl, hcase⟩ := hst
    simp only [List.nodup_cons] at hnd
    obtain ⟨φ1, i1, f1, c1, n1, s1, t1⟩ := ro_sound hro (fun x hx => hg x (by simp [hx])) hi hnd.2
    have hlk : lkp hp i = none := by
      cases hl : lkp hp i with
      | none => rfl
      | some _ => exact absurd (n1 i (by simp [hl])) hnd.1
    have hup : upd g hp i = gi i := by rw [upd_get, hlk]; exact hg i (by simp)
    obtain ⟨φ2, i2, f2, c2⟩ : ∃ φ2, Inv φ2 m (upd (upd g hp) [(i, .arr esz es true)]) w ∧ Fr φ1 m (upd g hp) w φ2 m (upd (upd g hp) [(i, .arr esz es true)]) w ∧ ∀ ob l b, g i = some ob → m i = some l → ob.fp l b → φ2 b = w.heap[b]? := by
      rcases hcase with ⟨r, hgi⟩ | ⟨⟨zs, hgi⟩, hno⟩
      · obtain ⟨φ2, i2, f2, c2⟩ := inv_ro i1 (by rw [hup]; exact hgi)
        refine ⟨φ2, i2, f2, fun ob l b q1 q2 q3 => ?_⟩
        rw [hg i (by simp), hgi] at q1; cases q1
        obtain ⟨q3, rfl⟩ := q3
        exact c2 l q2 q3
      · obtain ⟨φ2, i2, f2, c2⟩ := inv_roN i1 (by rw [hup]; exact hgi) hno
        refine ⟨φ2, i2, f2, fun ob l b q1 q2 q3 => ?_⟩
        rw [hg i (by simp), hgi] at q1; cases q1
        exact c2 l b q2 q3
    rw [upd_cons]
    refine ⟨φ2, i2, f1.trans f2, fun x hx ob l h1 h2 b h3 => ?_, fun x hx => ?_, fun x ob hx => ?_, fun x ob hx => ?_⟩
    · simp only [List.mem_cons] at hx
      rcases hx with rfl | hx
      · exact c2 ob l b h1 h2 h3
      · have := c1 x hx ob l h1 h2 b h3
        obtain ⟨o, ho⟩ : ∃ o, w.heap[b]? = some o := ⟨_, Array.getElem?_eq_getElem (hi.lt ⟨x, ob, l, h1, h2, h3⟩)⟩
        rw [ho] at this ⊢
        exact f2.φle _ _ this
    · simp only [lkp] at hx
      split at hx
      · rename_i e; simp [e]
      · simp [n1 x hx]
    · rw [upd_one] at hx
      split at hx
      · rename_i e; subst e; cases hx
        rcases hcase with ⟨r, hgi⟩ | ⟨⟨zs, hgi⟩, _⟩
        · exact ⟨.arr esz es r, by rw [hg i (by simp), hgi], rfl⟩
        · exact ⟨.nar esz es zs, by rw [hg i (by simp), hgi], rfl⟩
      · exact s1 x ob hx
    · rw [upd_one]
      split
      · rename_i e; subst e
        rw [hg i (by simp)] at hx
        rcases hcase with ⟨r, hgi⟩ | ⟨⟨zs, hgi⟩, _⟩
        · rw [hgi] at hx; cases hx
          exact .inr (.inl ⟨esz, es, r, rfl, rfl⟩)
        · rw [hgi] at hx; cases hx
          exact .inr (.inr ⟨esz, es, zs, rfl, rfl⟩)
      · exact t1 x ob hx
end Go.Proofs.YtapchldnmkfkoabDoor.Am
namespace Go.Proofs.YtapchldnmkfkoabDoor.Am
open Go

variable {P : Program}

theorem mem_addTo : ∀ (xs l : List Nat) (i : Nat), i ∈ addTo l xs ↔ i ∈ l ∨ i ∈ xs
  | [], l, i => by simp [addTo]
  | x :: xs, l, i => by
    simp only [addTo]
    split
    · rename_i h
      rw [mem_addTo xs l i]
      simp only [List.contains_eq_mem, decide_eq_true_eq] at h
      simp only [List.mem_cons]
      constructor
      · rintro (h1 | h1) <;> simp [h1]
      · rintro (h1 | h1 | h1)
        · exact .inl h1
        · subst h1; exact .inl h
        · exact .inr h1
    · rw [mem_addTo xs _ i]
      simp [or_assoc]

theorem nodup_addTo : ∀ (xs l : List Nat), l.Nodup → (addTo l xs).Nodup
  | [], l, h => by simpa [addTo] using h
  | x :: xs, l, h => by
    simp only [addTo]
    split
    · exact nodup_addTo xs l h
    · rename_i hc
      refine nodup_addTo xs _ ?_
      simp only [List.contains_eq_mem, decide_eq_true_eq] at hc
      rw [List.nodup_append]
      refine ⟨h, by simp, ?_⟩
      intro a ha b hb
      simp at hb
      subst hb
      rintro rfl
      exact hc ha

theorem setRow_other (w : World) (g : Nat) (a : Array Value) {b : Nat} (h : b ≠ g) : (w.setRow g a).heap[b]? = w.heap[b]? := by
  simp only [World.setRow, Array.getElem?_modify]
  rw [if_neg (by omega)]

theorem setRow_size (w : World) (g : Nat) (a : Array Value) : (w.setRow g a).heap.size = w.heap.size := by
  simp [World.setRow]

/-- A store of as many cells as the type has, into a block of plain cells. -/
theorem run_store_at {w : World} {t ty : TypeId} {ts : TS} {b o : Nat} {cur : Array Value} {v : Value} (ht : tsh P t = some ts) (hs : v.cells.size = ts.size)
    (hh : w.heap[b]? = some (.cells cur ty (0, 0))) (hle : o + v.cells.size ≤ cur.size) (h1 : ∀ x ∈ v.cells.toList, x.oneCell' = true) :
    (Instr.storeAt t (.pointer (some ⟨b, o, none⟩)) v).run P w = .ok () (w.setRow b (cur.toList.take o ++ v.cells.toList ++ cur.toList.drop (o + v.cells.size)).toArray) := by
  obtain ⟨i, hi, hsz⟩ := tsh_size ht
  have := run_storeCells_at P b o ty v.cells.toList 0 cur w hh (by simpa using hle) h1
  simp only [Instr.storeAt, Instr.sureAddr, storeVar, pure_bind, Sem.run_bind, run_sizeOf hi, Result.andThen_ok, Sem.run_ite]
  rw [if_neg (by omega)]
  simpa using this

theorem spl_len {cs new : List AV} {off : Nat} (h : off + new.length ≤ cs.length) : (spl cs off new).length = cs.length := by
  simp [spl]; omega

theorem spl_one {cs new : List AV} {off : Nat} (h : cs.all AV.one = true) (h' : new.all AV.one = true) : (spl cs off new).all AV.one = true := by
  simp only [spl, List.all_append, all_take h, all_drop h, h', Bool.and_self]

theorem lkp_append (a b : Hp) (i : Nat) : lkp (a ++ b) i = match lkp a i with | some o => some o | none => lkp b i := by
  have := congrFun (upd_append (fun i => none) a b) i
  unfold upd at this
  cases h : lkp (a ++ b) i <;> cases h1 : lkp a i <;> cases h2 : lkp b i <;> simp_all

section
variable {φ : FM} {m : LM} {g gi : Nat → Option Ob} {w : World}

theorem no_box (hi : Inv φ m g w) : ∀ (bx : List AV → Option (List AV)), ∀ id cs cs' l, g id = some (.box cs) → m id = some l → φ l.blk = w.heap[l.blk]? → bx cs = some cs' → VRC φ cs' l.blk 0 := by
  intro bx id cs cs' l hg hm hb _
  obtain ⟨l', hm', hr⟩ := hi.own id _ hg
  rw [hm] at hm'; cases hm'
  obtain ⟨_, _, h3, _, a, t, h5, _⟩ := hr.box cs rfl
  rw [h3, h5] at hb; cases hb

theorem ids_mem {is : List Nat} {x : Nat} : x ∈ addTo [] is ↔ x ∈ is := by rw [mem_addTo]; simp

theorem set_flat {n : Nat} : ∀ {es : List AV}, (∀ e ∈ es, e.cells.length = n) → ∀ {ix : Nat} {e' : AV}, ix < es.length → e'.cells.length = n →
    (es.set ix e').flatMap AV.cells = spl (es.flatMap AV.cells) (ix * n) e'.cells
  | [], _, ix, e', h, _ => by simp at h
  | x :: xs, hw, 0, e', _, h' => by
    have hx := hw x (by simp)
    simp [spl, h', ← hx]
  | x :: xs, hw, ix + 1, e', h, h' => by
    have hx := hw x (by simp)
    have ih := set_flat (es := xs) (fun e he => hw e (by simp [he])) (ix := ix) (e' := e') (by simpa using h) h'
    simp only [List.set_cons_succ, List.flatMap_cons, ih, spl, Nat.add_mul, Nat.one_mul]
    rw [List.take_append, List.drop_append]
    rw [List.take_of_length_le (by omega : x.cells.length ≤ ix * n + n), List.drop_eq_nil_of_le (by omega : x.cells.length ≤ ix * n + n + e'.cells.length)]
    have e1 : ix * n + n - x.cells.length = ix * n := by omega
    have e2 : ix * n + n + e'.cells.length - x.cells.length = ix * n + e'.cells.length := by omega
    simp [e1, e2]

theorem sve_cells {e e' : AV} {off : Nat} {new : List AV} (h : sve e off new = some e') (h1 : e.cells.all AV.one = true) (h2 : new.all AV.one = true) :
    off + new.length ≤ e.cells.length ∧ e'.cells = spl e.cells off new ∧ e'.cells.all AV.one = true := by
  cases e with
  | agg cs =>
    simp only [sve] at h
    split at h
    · rename_i hl
      cases h
      exact ⟨hl, rfl, spl_one h1 h2⟩
    · cases h
  | _ =>
    simp only [sve] at h
    split at h
    · cases h
      simp only [List.all_cons, List.all_nil, Bool.and_true] at h2
      have hc : e'.cells = [e'] := by cases e' <;> simp_all [AV.cells, AV.one]
      refine ⟨by simp [AV.cells], by rw [hc]; simp [spl, AV.cells], by rw [hc]; simpa using h2⟩
    · cases h
end
end Go.Proofs.YtapchldnmkfkoabDoor.Am
namespace Go.Proofs.YtapchldnmkfkoabDoor.Am
open Go

variable {P : Program}

section
variable {φ : FM} {m : LM} {g gi : Nat → Option Ob} {w : World}

theorem setRow_heap' {w : World} {b : Nat} {cur : Array Value} {ty : TypeId} {fr : Nat × Nat} (hh : w.heap[b]? = some (.cells cur ty fr)) (a : Array Value) :
    (w.setRow b a).heap[b]? = some (.cells a ty fr) := setRow_heap w b cur a ty fr hh

/-- An own block's cells are written over: what is left of the object. -/
theorem put_box (hi : Inv φ m g w) {id : Nat} {cs new : List AV} {off : Nat} {nv : List Value} {l : Loc} (hg : g id = some (.box cs)) (hm : m id = some l)
    (hn : VRL φ m new nv) (h1 : new.all AV.one = true) (hle : off + new.length ≤ cs.length) {a : Array Value} {ty : TypeId} (hh : w.heap[l.blk]? = some (.cells a ty (0, 0)))
    (hv : VRL φ m cs a.toList) :
    let w' := w.setRow l.blk (a.toList.take off ++ nv ++ a.toList.drop (off + nv.length)).toArray
    Inv φ m (upd g [(id, .box (spl cs off new))]) w' ∧ Fr φ m g w φ m (upd g [(id, .box (spl cs off new))]) w' := by
  intro w'
  obtain ⟨l', hm', hr⟩ := hi.own id _ hg
  rw [hm] at hm'; cases hm'
  obtain ⟨b1, b2, b3, b4, _⟩ := hr.box cs rfl
  refine inv_put hi hg hm ⟨b2.2, rfl⟩ (fun _ h => h) b3 rfl rfl rfl (setRow_size ..) (fun b hb => setRow_other _ _ _ hb) ⟨?_, fun cs' e => ?_, fun _ _ _ e => (by cases e), trivial⟩
  · rw [hr.top]; simp only [Ob.len, spl_len hle]
  · cases e
    exact ⟨b1, ⟨by rw [spl_len hle]; exact b2.1, b2.2⟩, b3, spl_one b4 h1, _, ty, setRow_heap' hh _, by simpa using VRL_spl hv hn off⟩

theorem put_arr (hi : Inv φ m g w) {id : Nat} {esz : Nat} {es es' : List AV} {l : Loc} (hg : g id = some (.arr esz es false)) (hm : m id = some l) (hc : 0 < l.cap)
    (hlen : es'.length = es.length) (hw' : ∀ e ∈ es', e.cells.length = esz ∧ e.cells.all AV.one = true)
    {a : Array Value} {ty : TypeId} (hh : w.heap[l.blk]? = some (.cells a ty (0, 0))) {k : Nat} {new : List AV} {nv : List Value} (hn : VRL φ LM.none new nv)
    (hk : k + new.length ≤ es.length * esz) (hes : es'.flatMap AV.cells = spl (es.flatMap AV.cells) k new) :
    let w' := w.setRow l.blk (a.toList.take k ++ nv ++ a.toList.drop (k + nv.length)).toArray
    Inv φ m (upd g [(id, .arr esz es' false)]) w' ∧ Fr φ m g w φ m (upd g [(id, .arr esz es' false)]) w' := by
  intro w'
  obtain ⟨l', hm', hr⟩ := hi.own id _ hg
  rw [hm] at hm'; cases hm'
  obtain ⟨b1, b2, b3, b4, b5⟩ := hr.arr esz es false rfl
  obtain ⟨a', ty', c1, c2, c3, c4⟩ := b5.resolve_left (by omega)
  rw [hh] at c1; cases c1
  simp only [if_neg (by simp : ¬ (false = true))] at c3
  have hnl := VRL_len hn
  have hal : a.toList.length = l.cap * esz := by simpa using c2
  have hle : es.length * esz ≤ l.cap * esz := Nat.mul_le_mul_right _ b4
  refine inv_put hi hg hm ⟨hc, rfl⟩ (fun _ h => h) c3 rfl rfl rfl (setRow_size ..) (fun b hb => setRow_other _ _ _ hb) ⟨?_, fun cs' e => (by cases e), fun esz' es'' ro' e => ?_, trivial⟩
  · rw [hr.top]; simp only [Ob.len, hlen]
  · cases e
    refine ⟨b1, b2, hw', by omega, .inr ⟨_, ty, setRow_heap' hh _, ?_, by simpa using c3, ?_⟩⟩
    · simp; omega
    · rw [hes, hlen]
      have := VRL_spl c4 hn k
      have e1 : (a.toList.take k ++ nv ++ a.toList.drop (k + nv.length)).take (es.length * esz) =
          (a.toList.take (es.length * esz)).take k ++ nv ++ (a.toList.take (es.length * esz)).drop (k + nv.length) := by
        apply List.ext_getElem?
        intro j
        simp only [List.getElem?_take, List.getElem?_append, List.length_append, List.length_take, List.getElem?_drop]
        by_cases h1 : j < es.length * esz
        · simp only [h1, if_true]
          have e2 : min k a.toList.length = k := by omega
          have e3 : min k (min (es.length * esz) a.toList.length) = k := by omega
          rw [e2, e3]
          by_cases h2 : j < k + nv.length
          · simp only [h2, if_true]
            first | done | (by_cases h3 : j < k <;> simp [h3, h1])
          · simp only [h2, if_false]
            rw [if_pos (by omega)]
        · simp only [h1, if_false]
          have e2 : min k a.toList.length = k := by omega
          have e3 : min k (min (es.length * esz) a.toList.length) = k := by omega
          rw [e3]
          rw [if_neg (by omega), if_neg (by omega)]
      rw [e1]; exact this

theorem spl_at {α : Type} {cs new : List α} {k i : Nat} (h : k ≤ cs.length) : (cs.take k ++ new ++ cs.drop (k + new.length))[i]? = if i < k then cs[i]? else if i < k + new.length then new[i - k]? else cs[i]? := by
  simp only [List.getElem?_append, List.length_append, List.length_take, List.getElem?_take, List.getElem?_drop]
  have e : min k cs.length = k := by omega
  rw [e]
  by_cases h1 : i < k
  · rw [if_pos (by omega), if_pos h1, if_pos h1, if_pos h1]
  · by_cases h2 : i < k + new.length
    · rw [if_pos h2, if_neg h1, if_neg h1, if_pos h2]
    · rw [if_neg h2, if_neg h1, if_neg h2]; congr 1; omega
theorem plainL_iff : ∀ {cs : List AV}, plainL cs = true ↔ ∀ c ∈ cs, plain c = true
  | [] => by simp [plainL]
  | c :: cs => by simp only [plainL, Bool.and_eq_true, plainL_iff (cs := cs), List.mem_cons, forall_eq_or_imp]
theorem plain_ofcells {x : AV} (h : plain x = true) : plainL x.cells = true := by
  cases x <;> simp_all [AV.cells, plainL, plain]
theorem put_nar (hi : Inv φ m g w) {id : Nat} {esz : Nat} {es es' : List AV} {zs : List Nat} {l : Loc} (hg : g id = some (.nar esz es zs)) (hm : m id = some l) (hc : 0 < l.cap)
    (hlen : es'.length = es.length) (hw' : ∀ e ∈ es', e.cells.length = esz ∧ e.cells.all AV.one = true)
    {a : Array Value} {ty : TypeId} (hh : w.heap[l.blk]? = some (.cells a ty (0, 0))) {k : Nat} {new : List AV} {nv : List Value} (hn : VRL φ m new nv) (hpl : plainL new = true)
    (hk : k + new.length ≤ es.length * esz) (hes : es'.flatMap AV.cells = spl (es.flatMap AV.cells) k new) :
    let w' := w.setRow l.blk (a.toList.take k ++ nv ++ a.toList.drop (k + nv.length)).toArray
    Inv φ m (upd g [(id, .nar esz es' zs)]) w' ∧ Fr φ m g w φ m (upd g [(id, .nar esz es' zs)]) w' := by
  intro w'
  obtain ⟨l', hm', hr⟩ := hi.own id _ hg
  rw [hm] at hm'; cases hm'
  obtain ⟨b1, b2, b3, b4, b5, vs, F, b6, b7, b8⟩ := hr.oth
  obtain ⟨a', ty', c1, c2, c3, c4⟩ := b8.resolve_left (by omega)
  rw [hh] at c1; cases c1
  have hnl := VRL_len hn
  have hal : a.toList.length = l.cap * esz := by simpa using c2
  have hc0 := hc
  have hle : es.length * esz ≤ l.cap * esz := Nat.mul_le_mul_right _ b4
  have hfl : (es.flatMap AV.cells).length = es.length * esz := flat_len (fun e he => (b3 e he).1)
  have hvl : vs.length = es.length * esz := by rw [b6.1, hfl]
  have e1 : (a.toList.take k ++ nv ++ a.toList.drop (k + nv.length)).take (es.length * esz) = vs.take k ++ nv ++ vs.drop (k + nv.length) := by
    apply List.ext_getElem?
    intro j
    rw [List.getElem?_take, spl_at (by omega), spl_at (by omega), ← c4]
    by_cases h1 : j < es.length * esz
    · simp only [h1, if_true, List.getElem?_take]
    · simp only [h1, if_false, List.getElem?_take]
      rw [if_neg (by omega), if_neg (by omega)]
  refine inv_put hi hg hm (.inl ⟨hc, rfl⟩) (fun _ h => h) c3 rfl rfl rfl (setRow_size ..) (fun b hb => setRow_other _ _ _ hb) ⟨?_, fun cs' e => (by cases e), fun esz' es'' ro' e => (by cases e), ?_⟩
  · rw [hr.top]; simp only [Ob.len, hlen]
  · refine ⟨b1, b2, hw', by omega, fun b hb => ?_, vs.take k ++ nv ++ vs.drop (k + nv.length), fun i => if k ≤ i ∧ i < k + new.length then none else F i, ⟨?_, fun i c v hc hv => ?_, fun i j b h1 h2 => ?_, fun i hi2 => ?_⟩, fun i b h1 => ?_, .inr ⟨_, ty, setRow_heap' hh _, ?_, c3, ?_⟩⟩
    · obtain ⟨d1, d2, d3⟩ := b5 b hb
      exact ⟨d1, by rw [setRow_other _ _ _ (d3 hc)]; exact d2, d3⟩
    · rw [hes]; simp only [spl, List.length_append, List.length_take, List.length_drop, hvl, hfl, hnl]
    · rw [hes, spl, spl_at (by omega)] at hc
      rw [spl_at (by omega)] at hv
      rw [hnl] at hv
      show NRc φ m w' _ c v (if k ≤ i ∧ i < k + new.length then none else F i)
      by_cases h1 : i < k
      · rw [if_pos h1] at hc hv
        rw [if_neg (by omega)]
        exact (b6.2.1 i c v hc hv).mono (FM.le_refl _) (Ext.refl _) (fun b hF => setRow_other _ _ _ ((b5 b (b7 i b hF)).2.2 hc0))
      · rw [if_neg h1] at hc hv
        by_cases h2 : i < k + new.length
        · rw [if_pos h2] at hc hv
          rw [if_pos ⟨by omega, h2⟩]
          obtain ⟨v', g1, g2⟩ := VRL_get hn hc
          rw [hv] at g1; cases g1
          exact .inl ⟨plainL_iff.1 hpl c (List.mem_of_getElem? hc), g2, rfl⟩
        · rw [if_neg h2] at hc hv
          rw [if_neg (by omega)]
          exact (b6.2.1 i c v hc hv).mono (FM.le_refl _) (Ext.refl _) (fun b hF => setRow_other _ _ _ ((b5 b (b7 i b hF)).2.2 hc0))
    · dsimp only at h1 h2
      split at h1
      · cases h1
      · split at h2
        · cases h2
        · exact b6.2.2.1 i j b h1 h2
    · dsimp only
      split
      · rfl
      · refine b6.2.2.2 i ?_
        rw [hes] at hi2
        have : (spl (es.flatMap AV.cells) k new).length = (es.flatMap AV.cells).length := spl_len (by rw [hfl]; exact hk)
        omega
    · dsimp only at h1
      split at h1
      · cases h1
      · exact b7 i b h1
    · simp; omega
    · rw [hlen, e1]

theorem frz_cells_one {g : Nat → Option Ob} {bx : List AV → Option (List AV)} {a a' : AV} (h : frzW g bx a = some a') (h1 : a.cells.all AV.one = true) : a'.cells.all AV.one = true := by
  cases a with
  | agg cs =>
    simp only [frzW, Option.map_eq_some_iff] at h
    obtain ⟨cs', h, rfl⟩ := h
    exact frzWL_one h h1
  | any => simp [AV.cells, AV.one] at h1
  | tup => simp [AV.cells, AV.one] at h1
  | _ =>
    have := frzW_one h (by simp [AV.one])
    have hc : a'.cells = [a'] := by cases a' <;> simp_all [AV.cells, AV.one]
    rw [hc]; simpa using this

theorem frz_ro_sound {φ1 : FM} {is : List Nat} {ro : Hp} (hi : Inv φ m g w) (hle : φ.le φ1) (i1 : Inv φ1 m (upd g ro) w) (c1 : Cov φ1 m g w (addTo [] is))
    (t1 : ∀ i ob, g i = some ob → upd g ro i = some ob ∨ (∃ esz es r, ob = .arr esz es r ∧ upd g ro i = some (.arr esz es true)) ∨ ∃ esz es zs, ob = .nar esz es zs ∧ upd g ro i = some (.arr esz es true))
    {bx : List AV → Option (List AV)} {x x' : AV} {cx : Value} (hfz : frzW gi bx x = some x') (hg : ∀ i ∈ ids x, g i = gi i) (hs : ∀ i ∈ ids x, i ∈ is) (hx : VR φ m x cx) : VR φ1 LM.none x' cx := by
  refine frzW_sound hi hle bx ?_ x hfz hg ?_ hx
  · intro id cs cs' l h1 h2 h3 _
    have h4 : upd g ro id = some (.box cs) := by
      rcases t1 id _ h1 with h | ⟨_, _, _, h, _⟩ | ⟨_, _, _, h, _⟩
      · exact h
      · cases h
      · cases h
    exact no_box i1 (fun _ => some cs') id cs cs' l h4 h2 h3 rfl
  · intro i hi' ob l h1 h2 b h3
    exact c1 i (ids_mem.2 (hs i hi')) _ l h1 h2 b h3

theorem spl_spl {l c new : List AV} {k n off : Nat} (h : (l.drop k).take n = c) (hl : k + n ≤ l.length) (hc : c.length = n) (hn : off + new.length ≤ c.length) :
    spl l k (spl c off new) = spl l (k + off) new := by
  have hlen : (spl c off new).length = n := by rw [spl_len hn]; exact hc
  have e1 : l.take (k + off) = l.take k ++ c.take off := by
    rw [List.take_add, ← h, List.take_take]
    congr 2; omega
  have e2 : l.drop (k + off + new.length) = c.drop (off + new.length) ++ l.drop (k + n) := by
    have a1 : c.drop (off + new.length) = ((l.drop k).drop (off + new.length)).take (n - (off + new.length)) := by rw [← h, List.drop_take]
    have a2 : l.drop (k + n) = ((l.drop k).drop (off + new.length)).drop (n - (off + new.length)) := by
      rw [List.drop_drop, List.drop_drop]; congr 1; omega
    rw [a1, a2, List.take_append_drop, List.drop_drop, Nat.add_assoc]
  unfold spl at hlen ⊢
  rw [hlen, e1, e2]
  simp [List.append_assoc]

theorem idsL_of : ∀ {es : List AV} {e : AV} {i : Nat}, e ∈ es → i ∈ ids e → i ∈ idsL es
  | [], _, _, h, _ => by simp at h
  | x :: es, e, i, h, hi => by
    simp only [idsL, List.mem_append]
    rcases List.mem_cons.1 h with rfl | h
    · exact .inl hi
    · exact .inr (idsL_of h hi)
theorem mem_idsL : ∀ {es : List AV} {i : Nat}, i ∈ idsL es → ∃ e ∈ es, i ∈ ids e
  | [], _, h => by simp [idsL] at h
  | x :: es, i, h => by
    simp only [idsL, List.mem_append] at h
    rcases h with h | h
    · exact ⟨x, by simp, h⟩
    · obtain ⟨e, h1, h2⟩ := mem_idsL h
      exact ⟨e, by simp [h1], h2⟩
theorem ids_cells {x : AV} {i : Nat} (h : i ∈ idsL x.cells) : i ∈ ids x := by
  cases x <;> first | (simp [AV.cells, idsL, ids] at h; done) | simpa [AV.cells, idsL, ids] using h
theorem st_sound {t : TypeId} {a x : AV} {ca cx : Value} {nx : Nat} {e : Eff}
    (h : stA P t a x gi nx = some e) (hg : ∀ i ∈ e.rd, g i = gi i) (hi : Inv φ m g w) (ha : VR φ m a ca) (hx : VR φ m x cx) :
    ∃ w' φ', (Instr.storeAt t ca cx).run P w = .ok () w' ∧ Inv φ' m (upd g e.wr) w' ∧ Fr φ m g w φ' m (upd g e.wr) w' ∧ e.v = .any ∧ e.nx = nx := by
  unfold stA at h
  split at h
  · cases h
  rename_i ts hts
  split at h
  · rename_i hsz
    have hcx := VR_cells hx hsz.2
    have hcl : cx.cells.size = ts.size := by have := VRL_len hcx; rw [hsz.1] at this; simpa using this
    have hone1 : ∀ v ∈ cx.cells.toList, v.oneCell' = true := VRL_one hcx hsz.2
    cases a with
    | optr id off tot =>
      simp only at h
      split at h
      · rename_i cs hgi
        split at h
        · rename_i hb
          cases h
          have hgid := (hg id (by simp)).trans hgi
          obtain ⟨l, hm, hr⟩ := hi.own id _ hgid
          obtain ⟨b1, b2, b3, b4, arr, ty, hh, hv⟩ := hr.box cs rfl
          simp only [VR] at ha
          obtain ⟨_, l', hm', _, ha⟩ := ha
          rw [hm] at hm'; cases hm'
          obtain rfl := ha (by rw [hr.top]; exact hb.1)
          have hal := VRL_len hv
          have hrun := run_store_at (P := P) (w := w) (o := off) (v := cx) hts hcl hh (by simp at hal; omega) hone1
          have hput := put_box hi hgid hm hcx hsz.2 (off := off) (by omega) hh hv
          simp only [Array.length_toList] at hput
          exact ⟨_, φ, hrun, hput.1, hput.2, rfl, rfl⟩
        · cases h
      · rename_i ty c hgi
        split at h
        · rename_i hb
          split at h
          · rename_i y hy
            cases h
            have hgid := (hg id (by simp)).trans hgi
            obtain ⟨l, hm, hr⟩ := hi.own id _ hgid
            obtain ⟨b1, b2, b3, b4, v0, v1, hh, hv0, hv⟩ := hr.oth
            simp only [VR] at ha
            obtain ⟨_, l', hm', _, ha⟩ := ha
            rw [hm] at hm'; cases hm'
            obtain rfl := ha (by rw [hr.top]; exact hb.1)
            rw [hy] at hcx hsz
            simp only [VRL] at hcx
            obtain ⟨u, us, hus, hu, rfl⟩ := hcx
            have hcs1 : cx.cells.size = 1 := by rw [← Array.length_toList, hus]; rfl
            have hrun := run_store_at (P := P) (w := w) (o := off) (v := cx) hts hcl hh (by rw [hb.2, hcs1]; simp) hone1
            rw [hb.2, hus, hcs1] at hrun
            rw [hb.2]
            refine ⟨_, φ, hrun, ?_⟩
            have hput := inv_put (w' := w.setRow l.blk #[v0, u]) hi hgid hm ⟨by omega, rfl⟩ (fun _ h => h) b3 rfl rfl rfl (setRow_size ..) (fun b hb => setRow_other _ _ _ hb) (ob' := .bld ty y)
              ⟨by rw [hr.top]; rfl, (fun _ e => by cases e), (fun _ _ _ e => by cases e), ⟨b1, b2, b3, by simpa using hsz.2, v0, u, setRow_heap' hh _, hv0, hu⟩⟩
            exact ⟨hput.1, hput.2, rfl, rfl⟩
          · cases h
        · cases h
      · cases h
    | eptr id ix off tot =>
      simp only at h
      split at h
      · rename_i esz es zs hgi
        split at h
        · rename_i hb
          split at h
          · rename_i e0 he0
            split at h
            · rename_i e' hsve
              cases h
              have hgid := (hg id (by simp)).trans hgi
              obtain ⟨l, hm, hr⟩ := hi.own id _ hgid
              obtain ⟨b1, b2, b3, b4, _, _, _, _, _, b5⟩ := hr.oth
              have hlt : ix < es.length := (List.getElem?_eq_some_iff.1 he0).1
              obtain ⟨arr, ty, hh, hsza, hphi, hv⟩ := b5.resolve_left (by omega)
              simp only [VR] at ha
              obtain ⟨_, l', hm', _, ha⟩ := ha
              rw [hm] at hm'; cases hm'
              obtain rfl := ha (by rw [hr.top]; exact hb.1)
              obtain ⟨s1', s2', s3'⟩ := sve_cells hsve (b3 e0 (List.mem_of_getElem? he0)).2 hsz.2
              have hxl0 := VRL_len hcx
              have hel := (b3 e0 (List.mem_of_getElem? he0)).1
              have hcap : 0 < l.cap := by omega
              have hk1 : ix * esz + esz ≤ es.length * esz := by rw [← Nat.succ_mul]; exact Nat.mul_le_mul_right _ hlt
              have hk2 : es.length * esz ≤ l.cap * esz := Nat.mul_le_mul_right _ b4
              simp only [Array.length_toList] at hxl0
              have hrun := run_store_at (P := P) (w := w) (o := ix * esz + off) (v := cx) hts hcl hh (by omega) hone1
              have hput := put_nar (es' := es.set ix e') hi hgid hm hcap (by simp) (fun e he => by
                  rcases List.mem_or_eq_of_mem_set he with h1 | h1
                  · exact b3 e h1
                  · subst h1; exact ⟨by rw [s2', spl_len s1']; exact hel, s3'⟩) hh hcx (plain_ofcells hb.2) (k := ix * esz + off) (by omega)
                (by rw [set_flat (fun e he => (b3 e he).1) hlt (by rw [s2', spl_len s1']; exact hel), s2']; exact spl_spl (flat_get (fun e he => (b3 e he).1) he0) (by rw [flat_len (fun e he => (b3 e he).1)]; omega) hel s1')
              refine ⟨_, φ, ?_, hput.1, hput.2, rfl, rfl⟩
              rw [b1]; simpa using hrun
            · cases h
          · cases h
        · cases h
      split at h
      · rename_i x' ro hfz hro
        split at h
        · rename_i esz es hgi
          split at h
          · rename_i hb
            split at h
            · rename_i e0 he0
              split at h
              · rename_i e' hsve
                cases h
                simp only [Bool.not_eq_true', List.contains_eq_mem, decide_eq_false_iff_not] at hb
                obtain ⟨φ1, i1, f1, c1, n1, s1, t1⟩ := ro_sound hro (fun i hi => hg i (by rw [ids_mem] at hi; simp [hi])) hi (nodup_addTo _ _ (by simp))
                have hgid := (hg id (by simp)).trans hgi
                have hgid1 : upd g ro id = some (.arr esz es false) := by
                  rw [upd_get]
                  cases hl : lkp ro id with
                  | none => exact hgid
                  | some o => exact absurd (ids_mem.1 (n1 id (by simp [hl]))) hb.2
                obtain ⟨l, hm, hr⟩ := i1.own id _ hgid1
                obtain ⟨b1, b2, b3, b4, b5⟩ := hr.arr esz es false rfl
                have hlt : ix < es.length := (List.getElem?_eq_some_iff.1 he0).1
                obtain ⟨arr, ty, hh, hsza, hphi, hv⟩ := b5.resolve_left (by omega)
                simp only [VR] at ha
                obtain ⟨_, l', hm', _, ha⟩ := ha
                rw [hm] at hm'; cases hm'
                obtain rfl := ha (by rw [hr.top]; exact hb.1)
                have hx1 : VR φ1 m x cx := VR.mono f1.φle x (Ext.refl _) hx
                have hx' : VR φ1 LM.none x' cx := frz_ro_sound hi f1.φle i1 c1 t1 hfz (fun i hi => hg i (by simp [hi])) (fun _ h => h) hx
                have hone' : x'.cells.all AV.one = true := frz_cells_one hfz hsz.2
                have hxc := VR_cells hx' hone'
                obtain ⟨s1', s2', s3'⟩ := sve_cells hsve (b3 e0 (List.mem_of_getElem? he0)).2 hone'
                have hxl := VRL_len hxc
                have hxl0 := VRL_len hcx
                have hel := (b3 e0 (List.mem_of_getElem? he0)).1
                have hcap : 0 < l.cap := by omega
                have hk1 : ix * esz + esz ≤ es.length * esz := by rw [← Nat.succ_mul]; exact Nat.mul_le_mul_right _ hlt
                have hk2 : es.length * esz ≤ l.cap * esz := Nat.mul_le_mul_right _ b4
                simp only [Array.length_toList] at hxl hxl0
                have hrun := run_store_at (P := P) (w := w) (o := ix * esz + off) (v := cx) hts hcl hh (by omega) hone1
                have hput := put_arr (es' := es.set ix e') i1 hgid1 hm hcap (by simp) (fun e he => by
                    rcases List.mem_or_eq_of_mem_set he with h1 | h1
                    · exact b3 e h1
                    · subst h1; exact ⟨by rw [s2', spl_len s1']; exact hel, s3'⟩) hh hxc (k := ix * esz + off) (by omega)
                  (by rw [set_flat (fun e he => (b3 e he).1) hlt (by rw [s2', spl_len s1']; exact hel), s2']; exact spl_spl (flat_get (fun e he => (b3 e he).1) he0) (by rw [flat_len (fun e he => (b3 e he).1)]; omega) hel s1')
                rw [upd_cons]
                refine ⟨_, φ1, ?_, hput.1, f1.trans hput.2, rfl, rfl⟩
                rw [b1]; simpa using hrun
              · cases h
            · cases h
          · cases h
        · cases h
      · cases h
    | _ => cases h
  · cases h
end
end Go.Proofs.YtapchldnmkfkoabDoor.Am
namespace Go.Proofs.YtapchldnmkfkoabDoor.Am
open Go

variable {P : Program}

section
variable {φ : FM} {m : LM} {g gi : Nat → Option Ob} {w w' : World}

def putM (m : LM) (id : Nat) (l : Loc) : LM := fun i => if i = id then some l else m i

theorem put_new {m : LM} {id n : Nat} {l : Loc} {wr : Hp} (h : id < n) (hw : lkp wr id ≠ Option.none) : ∀ i, (n ≤ i ∨ lkp wr i = Option.none) → m i = Option.none → putM m id l i = Option.none := by
  intro i hi hm
  unfold putM
  rw [if_neg]
  · exact hm
  · rintro rfl
    rcases hi with hi | hi
    · omega
    · exact hw hi

theorem put_old {m : LM} {id : Nat} {l l0 : Loc} (h : m id = some l0) : ∀ i, m i = Option.none → putM m id l i = Option.none := by
  intro i hm
  unfold putM
  rw [if_neg (by rintro rfl; rw [h] at hm; cases hm)]; exact hm

theorem Ext.put {m : LM} {id : Nat} {l : Loc} (h : m id = Option.none) : Ext m (putM m id l) := by
  intro i k hk
  refine ⟨k, ?_, Nat.le_refl _, fun _ => ⟨rfl, rfl, rfl⟩⟩
  unfold putM
  rw [if_neg (by rintro rfl; rw [h] at hk; cases hk)]; exact hk

/-- A new block, and the object that it is. -/
theorem inv_new (hi : Inv φ m g w) {id : Nat} {ob : Ob} {o : Obj} {l : Loc} (hm : m id = none) (hg : g id = none)
    (hos : w'.os = w.os) (htape : w'.tape = w.tape) (hout : w'.output = w.output) (hh : w'.heap = w.heap.push o) (hb : ∀ b, ob.fp l b → b = w.heap.size)
    (hr : ObR φ (putM m id l) w' l ob) :
    Inv φ (putM m id l) (upd g [(id, ob)]) w' ∧ Fr φ m g w φ (putM m id l) (upd g [(id, ob)]) w' := by
  have hold : ∀ b, b < w.heap.size → w'.heap[b]? = w.heap[b]? := by
    intro b hb; rw [hh, Array.getElem?_push, if_neg (by omega)]
  have hltB : ∀ i ob k, g i = some ob → m i = some k → ∀ b, ob.fp k b → b < w.heap.size := fun i ob k h1 h2 b h3 => hi.ltB h1 h2 h3
  have hne : ∀ i ob, g i = some ob → i ≠ id := by rintro i ob h rfl; rw [hg] at h; cases h
  refine ⟨⟨fun b o hb => ?_, fun i ob' h => ?_, fun i i' o1 o2 k k' b h1 h2 h3 h4 h5 h6 h7 => ?_⟩, ⟨FM.le_refl _, Ext.put hm, hos, htape, hout, by rw [hh]; simp, fun b hb _ => hold b hb, fun b o h => .inl h, ?_⟩⟩
  · have := hi.fz b o hb
    rw [hold b (Array.getElem?_eq_some_iff.1 this).1]; exact this
  · rw [upd_one] at h
    split at h
    · rename_i e; subst e; cases h
      exact ⟨l, by simp [putM], hr⟩
    · have hn := hne i ob' h
      obtain ⟨k, hk, hkr⟩ := hi.own i ob' h
      exact ⟨k, by simp [putM, hn, hk], hkr.mono (FM.le_refl _) (Ext.put hm) (fun b h' => hold _ (hltB i _ k h hk b h')) (fun _ _ => rfl)⟩
  · rw [upd_one] at h1 h2
    split at h1 <;> split at h2
    · omega
    · rename_i e1 e2
      subst e1
      simp only [putM, if_true] at h3; cases h3
      have hn := hne i' o2 h2
      simp only [putM, if_neg hn] at h4
      have := hltB i' o2 k' h2 h4 b h7
      cases h1
      have h6 := hb b h6
      omega
    · rename_i e1 e2
      subst e2
      simp only [putM, if_true] at h4; cases h4
      have hn := hne i o1 h1
      simp only [putM, if_neg hn] at h3
      have := hltB i o1 k h1 h3 b h6
      cases h2
      have h7 := hb b h7
      omega
    · have hn := hne i o1 h1
      have hn' := hne i' o2 h2
      simp only [putM, if_neg hn] at h3
      simp only [putM, if_neg hn'] at h4
      exact hi.sep _ _ _ _ _ _ b h1 h2 h3 h4 h5 h6 h7
  · rintro b ⟨i, o1, k, h1, h2, h3⟩
    rw [upd_one] at h1
    split at h1
    · rename_i e; subst e
      simp only [putM, if_true] at h2; cases h2
      cases h1
      have h3 := hb b h3
      exact .inl (by omega)
    · have hn := hne i o1 h1
      simp only [putM, if_neg hn] at h2
      exact .inr ⟨i, o1, k, h1, h2, h3⟩

/-- A new strings.Builder. -/
theorem new_bld (hi : Inv φ m g w) {id : Nat} {vs : Array Value} {t : TypeId} (hm : m id = none) (hg : g id = none) (hv : VRL φ m [.nilp, .nilsl] vs.toList) :
    let l : Loc := ⟨w.heap.size, 1, 2, 2, []⟩
    VR φ (putM m id l) (.optr id 0 2) (.pointer (some ⟨w.heap.size, 0, none⟩)) ∧
    Inv φ (putM m id l) (upd g [(id, .bld t .nilsl)]) (w.alloc (.cells vs t)) ∧ Fr φ m g w φ (putM m id l) (upd g [(id, .bld t .nilsl)]) (w.alloc (.cells vs t)) := by
  intro l
  refine ⟨?_, inv_new hi hm hg rfl rfl rfl rfl (fun b h => h.2.symm) ⟨rfl, (fun _ e => by cases e), (fun _ _ _ e => by cases e), ?_⟩⟩
  · simp only [VR]
    exact ⟨rfl, l, by simp [putM], Nat.le_refl _, fun _ => rfl⟩
  · simp only [VRL] at hv
    obtain ⟨v0, r0, h0, h1, v1, r1, rfl, h2, rfl⟩ := hv
    obtain ⟨vs⟩ := vs
    simp only at h0; subst h0
    simp only [VR] at h1; subst h1
    refine ⟨rfl, rfl, ?_, rfl, .pointer none, v1, ?_, .inl rfl, ?_⟩
    · cases hp : φ w.heap.size with
      | none => rfl
      | some o => have := (Array.getElem?_eq_some_iff.1 (hi.fz _ _ hp)).1; omega
    · show (w.heap.push _)[w.heap.size]? = _; simp
    · simp only [VR] at h2 ⊢; exact h2
/-- A new box. -/
theorem new_box (hi : Inv φ m g w) {id : Nat} {cs : List AV} {vs : Array Value} {t : TypeId} (hm : m id = none) (hg : g id = none) (hv : VRL φ m cs vs.toList) (h1 : cs.all AV.one = true) (h0 : 0 < cs.length) :
    let l : Loc := ⟨w.heap.size, 1, cs.length, cs.length, []⟩
    VR φ (putM m id l) (.optr id 0 cs.length) (.pointer (some ⟨w.heap.size, 0, none⟩)) ∧
    Inv φ (putM m id l) (upd g [(id, .box cs)]) (w.alloc (.cells vs t)) ∧ Fr φ m g w φ (putM m id l) (upd g [(id, .box cs)]) (w.alloc (.cells vs t)) := by
  intro l
  refine ⟨?_, inv_new hi hm hg rfl rfl rfl rfl (fun b h => h.2.symm) ⟨rfl, fun cs' e => ?_, fun _ _ _ e => (by cases e), trivial⟩⟩
  · simp only [VR]
    exact ⟨rfl, l, by simp [putM], Nat.le_refl _, fun _ => rfl⟩
  · cases e
    refine ⟨rfl, ⟨rfl, h0⟩, ?_, h1, vs, t, ?_, VRL.mono (FM.le_refl _) _ (Ext.put hm) hv⟩
    · cases hp : φ l.blk with
      | none => rfl
      | some o => have := (Array.getElem?_eq_some_iff.1 (hi.fz _ _ hp)).1; simp [l] at this
    · show (w.heap.push _)[w.heap.size]? = _
      simp

theorem ofV_cells {φ : FM} {m : LM} {z : Value} (h : (ofV z).cells.all AV.one = true) : VRL φ m (ofV z).cells z.cells.toList := VR_cells (ofV_VR φ m z) h

theorem zer_run {t : TypeId} {z : AV} (h : zer P t = some z) (w : World) : ∃ i v, P.info? t = some i ∧ i.zero = some v ∧ z = ofV v ∧ (zeroValue t).run P w = .ok v w := by
  unfold zer at h
  simp only [Option.map_eq_some_iff, Option.bind_eq_some_iff] at h
  obtain ⟨v, ⟨i, hi, hz⟩, rfl⟩ := h
  exact ⟨i, v, hi, hz, rfl, by simp [zeroValue, typeInfo, hi, hz]⟩

theorem fill_step {cs : List AV} {v : AV} {cells : Array Value} {cv : Value} {off : Nat} (h : VRL φ m cs cells.toList) (hv : VRL φ m v.cells cv.cells.toList) (hle : off + v.cells.length ≤ cs.length) :
    VRL φ m (spl cs off v.cells) (cv.cells.zipIdx.foldl (fun cs (x : Value × Nat) => cs.setIfInBounds (off + x.2) x.1) cells).toList := by
  have hl := VRL_len h
  have hvl := VRL_len hv
  obtain ⟨g1, g2⟩ := Go.Great.foldl_set off cv.cells.toList 0 cells
  have e : (cv.cells.zipIdx.foldl (fun cs (x : Value × Nat) => cs.setIfInBounds (off + x.2) x.1) cells) =
      ((cv.cells.toList.zipIdx 0).foldl (fun cs (x : Value × Nat) => cs.setIfInBounds (off + x.2) x.1) cells) := by
    rw [← Array.foldl_toList, Array.toList_zipIdx]
  rw [e]
  have e2 : ((cv.cells.toList.zipIdx 0).foldl (fun cs (x : Value × Nat) => cs.setIfInBounds (off + x.2) x.1) cells).toList =
      cells.toList.take off ++ cv.cells.toList ++ cells.toList.drop (off + cv.cells.toList.length) := by
    apply List.ext_getElem?
    intro k
    have := g2 k
    rw [Array.getElem?_toList, this]
    simp only [List.getElem?_append, List.length_append, List.length_take, List.getElem?_take, List.getElem?_drop, Nat.add_zero, Nat.min_eq_left (show off ≤ cells.toList.length by omega)]
    simp only [Array.length_toList] at hl hvl ⊢
    by_cases h1 : k < off
    · rw [if_neg (by omega), if_pos (by omega), if_pos (by omega), if_pos (by omega)]; simp
    · by_cases h2 : k < off + cv.cells.size
      · rw [if_pos (by omega), if_pos (by omega), if_neg (by omega)]
      · rw [if_neg (by omega), if_neg (by omega)]
        rw [show off + cv.cells.size + (k - (off + cv.cells.size)) = k by omega]; simp
  rw [e2]
  exact VRL_spl h hv off

theorem fil_sound {pl : Nat → Option (Nat × Nat)} : ∀ {ps : List (Nat × AV)} {qs : List (Nat × Value)} {cs cs' : List AV} {cells : Array Value},
    filA pl cs ps = some cs' → VRL φ m cs cells.toList → ps.map (·.1) = qs.map (·.1) → (∀ (j : Nat) (p : Nat × AV) (q : Nat × Value), ps[j]? = some p → qs[j]? = some q → VR φ m p.2 q.2) → cs.all AV.one = true →
    ∃ cells', Instr.fill pl cells qs = some cells' ∧ VRL φ m cs' cells'.toList ∧ cs'.all AV.one = true
  | [], qs, cs, cs', cells, h, hv, he, _, h1 => by
    simp only [filA, Option.some.injEq] at h; subst h
    cases qs with
    | nil => exact ⟨cells, rfl, hv, h1⟩
    | cons _ _ => simp at he
  | (i, v) :: ps, [], cs, cs', cells, h, hv, he, _, h1 => by simp at he
  | (i, v) :: ps, (i', cv) :: qs, cs, cs', cells, h, hv, he, hr, h1 => by
    simp only [List.map_cons, List.cons.injEq] at he
    obtain ⟨rfl, he⟩ := he
    simp only [filA] at h
    split at h
    · cases h
    rename_i off size hpl
    split at h
    · rename_i hb
      have hvr := hr 0 (i, v) (i, cv) (by simp) (by simp)
      have hvc := VR_cells hvr hb.2.2
      have hcl : cv.cells.size = v.cells.length := by simpa using VRL_len hvc
      have hl : cells.size = cs.length := by simpa using VRL_len hv
      have hstep := fill_step hv hvc (off := off) (by simp only; omega)
      obtain ⟨cells', k1, k2, k3⟩ := fil_sound h hstep he (fun j p q hp hq => hr (j + 1) p q (by simpa using hp) (by simpa using hq)) (spl_one h1 hb.2.2)
      refine ⟨cells', ?_, k2, k3⟩
      unfold Instr.fill
      rw [hpl]
      simp only
      rw [if_neg (by simp; omega)]
      exact k1
    · cases h
end
end Go.Proofs.YtapchldnmkfkoabDoor.Am
namespace Go.Proofs.YtapchldnmkfkoabDoor.Am
open Go

variable {P : Program}

section
variable {φ : FM} {m : LM} {g gi : Nat → Option Ob} {w w' : World}

theorem elt_some {t e : TypeId} {ts : TS} {bytes : Nat} (h : elt P t = some (e, ts, bytes)) :
    P.underlying t = some (.slice e) ∧ tsh P e = some ts ∧ ∃ i, P.info? e = some i ∧ i.size = ts.size ∧ i.bytes = bytes ∧ 0 < i.size := by
  unfold elt at h
  split at h
  · rename_i e' hu
    split at h
    · rename_i ts' i hts hi
      split at h
      · cases h
      · rename_i h0
        simp only [Option.some.injEq, Prod.mk.injEq] at h
        obtain ⟨rfl, rfl, rfl⟩ := h
        obtain ⟨i', hi', hs⟩ := tsh_size hts
        rw [hi] at hi'; cases hi'
        exact ⟨hu, hts, i, hi, hs, rfl, by omega⟩
    · cases h
  · cases h

/-- A new array in a block of its own, with room for more. -/
theorem new_arr (hi : Inv φ m g w) {id esz cap : Nat} {es : List AV} {a : Array Value} {t : TypeId} (hm : m id = none) (hg : g id = none) (hpos : 0 < esz)
    (hw : ∀ e ∈ es, e.cells.length = esz ∧ e.cells.all AV.one = true) (hcap : es.length ≤ cap) (ha : a.size = cap * esz)
    (hv : VRL φ LM.none (es.flatMap AV.cells) (a.toList.take (es.length * esz)))
    (hos : w'.os = w.os) (htape : w'.tape = w.tape) (hout : w'.output = w.output) (hh : w'.heap = w.heap.push (.cells a t (0, 0))) :
    let l : Loc := ⟨w.heap.size, esz, cap, es.length, []⟩
    VR φ (putM m id l) (.osl id 0 es.length es.length) (.slice (some ⟨w.heap.size, 0, none⟩) es.length cap) ∧
    Inv φ (putM m id l) (upd g [(id, .arr esz es false)]) w' ∧ Fr φ m g w φ (putM m id l) (upd g [(id, .arr esz es false)]) w' := by
  intro l
  refine ⟨?_, inv_new hi hm hg hos htape hout hh (fun b h => h.2.symm) ⟨rfl, fun cs' e => (by cases e), fun _ _ _ e => ?_, trivial⟩⟩
  · simp only [VR]
    exact ⟨rfl, l, by simp [putM], Nat.le_refl _, fun _ => ⟨_, rfl, fun _ => by simp [l]⟩⟩
  · cases e
    refine ⟨rfl, hpos, hw, hcap, ?_⟩
    by_cases h0 : cap = 0
    · exact .inl h0
    · refine .inr ⟨a, t, ?_, ha, ?_, hv⟩
      · show w'.heap[w.heap.size]? = _
        rw [hh]; simp
      · simp only [if_neg (by simp : ¬ (false = true))]
        cases hp : φ l.blk with
        | none => rfl
        | some o => have := (Array.getElem?_eq_some_iff.1 (hi.fz _ _ hp)).1; simp [l] at this

/-- A slice without room becomes an object: it may be nil. -/
theorem new_nil (hi : Inv φ m g w) {id esz : Nat} {ad : Option Addr} (hm : m id = none) (hg : g id = none) (hpos : 0 < esz) :
    let l : Loc := ⟨w.heap.size, esz, 0, 0, []⟩
    VR φ (putM m id l) (.osl id 0 0 0) (.slice ad 0 0) ∧
    Inv φ (putM m id l) (upd g [(id, .arr esz [] false)]) w ∧ Fr φ m g w φ (putM m id l) (upd g [(id, .arr esz [] false)]) w := by
  intro l
  have hne : ∀ i ob, g i = some ob → i ≠ id := by rintro i ob h rfl; rw [hg] at h; cases h
  refine ⟨?_, ⟨hi.fz, fun i ob' h => ?_, fun i i' o1 o2 k k' b h1 h2 h3 h4 h5 h6 h7 => ?_⟩, ⟨FM.le_refl _, Ext.put hm, rfl, rfl, rfl, Nat.le_refl _, fun b hb _ => rfl, fun b o h => .inl h, ?_⟩⟩
  · simp only [VR]
    exact ⟨rfl, l, by simp [putM], Nat.le_refl _, fun _ => ⟨_, rfl, fun h => by simp [l] at h⟩⟩
  · rw [upd_one] at h
    split at h
    · rename_i e; subst e; cases h
      exact ⟨l, by simp [putM], rfl, fun cs' e => (by cases e), fun _ _ _ e => (by cases e; exact ⟨rfl, hpos, by simp, by simp, .inl rfl⟩), trivial⟩
    · have hn := hne i ob' h
      obtain ⟨k, hk, hkr⟩ := hi.own i ob' h
      exact ⟨k, by simp [putM, hn, hk], hkr.mono (FM.le_refl _) (Ext.put hm) (fun _ _ => rfl) (fun _ _ => rfl)⟩
  · rw [upd_one] at h1 h2
    split at h1 <;> split at h2
    · omega
    · rename_i e1 e2
      subst e1
      simp only [putM, if_true] at h3; cases h3
      cases h1
      have := h6.1
      simp [l] at this
    · rename_i e1 e2
      subst e2
      simp only [putM, if_true] at h4; cases h4
      cases h2
      have := h7.1
      simp [l] at this
    · have hn := hne i o1 h1
      have hn' := hne i' o2 h2
      simp only [putM, if_neg hn] at h3
      simp only [putM, if_neg hn'] at h4
      exact hi.sep _ _ _ _ _ _ b h1 h2 h3 h4 h5 h6 h7
  · rintro b ⟨i, o1, k, h1, h2, h3⟩
    rw [upd_one] at h1
    split at h1
    · rename_i e; subst e
      simp only [putM, if_true] at h2; cases h2
      cases h1
      have := h3.1
      simp [l] at this
    · have hn := hne i o1 h1
      simp only [putM, if_neg hn] at h2
      exact .inr ⟨i, o1, k, h1, h2, h3⟩

theorem VRL_rep {φ : FM} {m : LM} {cs : List AV} {vs : List Value} (h : VRL φ m cs vs) : ∀ n, VRL φ m (List.replicate n cs).flatten (List.replicate n vs).flatten
  | 0 => by simp [VRL]
  | n + 1 => by simpa [List.replicate_succ] using VRL_append h (VRL_rep h n)

theorem rep_flat (z : AV) : ∀ n, (List.replicate n z).flatMap AV.cells = (List.replicate n z.cells).flatten
  | 0 => by simp
  | n + 1 => by simp [List.replicate_succ, rep_flat z n]

theorem range_mod (zs : Array Value) (h0 : 0 < zs.size) : ∀ n, ((Array.range (n * zs.size)).map fun i => zs[i % zs.size]!).toList = (List.replicate n zs.toList).flatten := by
  intro n
  apply List.ext_getElem?
  intro j
  have hl : (List.replicate n zs.toList).flatten.length = n * zs.size := by simp
  by_cases hj : j < n * zs.size
  · have hm : j % zs.size < zs.size := Nat.mod_lt _ h0
    have hd : j / zs.size < n := (Nat.div_lt_iff_lt_mul h0).2 hj
    have e : (List.replicate n zs.toList).flatten[j]? = zs.toList[j % zs.size]? := by
      clear hl
      induction n generalizing j with
      | zero => simp at hj
      | succ n ih =>
        rw [List.replicate_succ, List.flatten_cons, List.getElem?_append]
        split
        · rename_i h
          simp only [Array.length_toList] at h
          rw [Nat.mod_eq_of_lt h]
        · rename_i h
          simp only [Array.length_toList, Nat.not_lt] at h ⊢
          have hj' : j - zs.size < n * zs.size := by rw [Nat.add_mul] at hj; omega
          rw [ih (j - zs.size) hj' (Nat.mod_lt _ h0) ((Nat.div_lt_iff_lt_mul h0).2 hj')]
          rw [← Nat.mod_eq_sub_mod h]
    rw [e]
    simp [hj, hm]
  · rw [List.getElem?_eq_none (by simpa using hj), List.getElem?_eq_none (by rw [hl]; omega)]
end
end Go.Proofs.YtapchldnmkfkoabDoor.Am
namespace Go.Proofs.YtapchldnmkfkoabDoor.Am
open Go

variable {P : Program}

section
variable {φ : FM} {m : LM} {g gi : Nat → Option Ob} {w w' : World}

/-- An own array's place or content turns. -/
theorem inv_repl (hi : Inv φ m g w) {id : Nat} {ob ob' : Ob} {l l' : Loc} (hg : g id = some ob) (hm : m id = some l)
    (hφ : 0 < l.cap → φ l.blk = none) (htop : l.top ≤ l'.top) (hsame : l'.top = l.top → l' = l) (hfp : ∀ b, ob.fp l b ↔ 0 < l.cap ∧ l.blk = b) (hfp' : ∀ b, ob'.fp l' b → 0 < l'.cap ∧ l'.blk = b) (hsb : l'.sub = l.sub)
    (hb : 0 < l'.cap → (0 < l.cap ∧ l'.blk = l.blk) ∨ w.heap.size ≤ l'.blk)
    (hos : w'.os = w.os) (htape : w'.tape = w.tape) (hout : w'.output = w.output) (hsz : w.heap.size ≤ w'.heap.size)
    (hh : ∀ b, b < w.heap.size → (0 < l.cap → b ≠ l.blk) → w'.heap[b]? = w.heap[b]?) (hr : ObR φ (putM m id l') w' l' ob') :
    Inv φ (putM m id l') (upd g [(id, ob')]) w' ∧ Fr φ m g w φ (putM m id l') (upd g [(id, ob')]) w' := by
  have hext : Ext m (putM m id l') := by
    intro i k hk
    unfold putM
    split
    · rename_i e; subst e
      rw [hm] at hk; cases hk
      exact ⟨l', rfl, htop, fun e => by rw [hsame e]; exact ⟨rfl, rfl, rfl⟩⟩
    · exact ⟨k, hk, Nat.le_refl _, fun _ => ⟨rfl, rfl, rfl⟩⟩
  have hltB : ∀ i ob k, g i = some ob → m i = some k → ∀ b, ob.fp k b → b < w.heap.size := fun i ob k h1 h2 b h3 => hi.ltB h1 h2 h3
  have hothB : ∀ i o k, g i = some o → m i = some k → i ≠ id → ∀ b, o.fp k b → w'.heap[b]? = w.heap[b]? := fun i o k h1 h2 h3 b h4 =>
    hh _ (hltB i o k h1 h2 b h4) (fun h5 e => hi.sep _ _ _ _ _ _ b h1 hg h2 hm h3 h4 ((hfp b).2 ⟨h5, e.symm⟩))
  refine ⟨⟨fun b o hbo => ?_, fun i ob1 h => ?_, fun i i' o1 o2 k k' b h1 h2 h3 h4 h5 h6 h7 => ?_⟩, ⟨FM.le_refl _, hext, hos, htape, hout, hsz, fun b hb hn => ?_, fun b o h => .inl h, ?_⟩⟩
  · have := hi.fz b o hbo
    rw [hh b (Array.getElem?_eq_some_iff.1 this).1 (fun h5 => by rintro rfl; rw [hφ h5] at hbo; cases hbo)]; exact this
  · rw [upd_one] at h
    split at h
    · rename_i e; subst e; cases h
      exact ⟨l', by simp [putM], hr⟩
    · rename_i hne
      have hne' : i ≠ id := fun e => hne e.symm
      obtain ⟨k, hk, hkr⟩ := hi.own i ob1 h
      exact ⟨k, by simp [putM, hne', hk], hkr.mono (FM.le_refl _) hext (hothB i _ k h hk hne') (fun _ _ => rfl)⟩
  · rw [upd_one] at h1 h2
    split at h1 <;> split at h2
    · omega
    · rename_i e1 e2
      subst e1
      simp only [putM, if_true] at h3; cases h3
      have hn : ¬ (i' = id) := fun e => e2 e.symm
      simp only [putM, if_neg hn] at h4
      cases h1
      obtain ⟨h6, h6b⟩ := hfp' b h6
      rcases hb h6 with ⟨q1, q2⟩ | q
      · exact hi.sep _ _ _ _ _ _ b h2 hg h4 hm hn h7 ((hfp b).2 ⟨q1, by rw [← q2, h6b]⟩)
      · have := hltB i' o2 k' h2 h4 b h7; omega
    · rename_i e1 e2
      subst e2
      simp only [putM, if_true] at h4; cases h4
      have hn : ¬ (i = id) := fun e => e1 e.symm
      simp only [putM, if_neg hn] at h3
      cases h2
      obtain ⟨h7, h7b⟩ := hfp' b h7
      rcases hb h7 with ⟨q1, q2⟩ | q
      · exact hi.sep _ _ _ _ _ _ b h1 hg h3 hm hn h6 ((hfp b).2 ⟨q1, by rw [← q2, h7b]⟩)
      · have := hltB i o1 k h1 h3 b h6; omega
    · rename_i e1 e2
      have hn : ¬ (i = id) := fun e => e1 e.symm
      have hn' : ¬ (i' = id) := fun e => e2 e.symm
      simp only [putM, if_neg hn] at h3
      simp only [putM, if_neg hn'] at h4
      exact hi.sep _ _ _ _ _ _ b h1 h2 h3 h4 h5 h6 h7
  · exact hh b hb (fun h5 => by rintro rfl; exact hn ⟨id, ob, l, hg, hm, (hfp _).2 ⟨h5, rfl⟩⟩)
  · rintro b ⟨i, o1, k, h1, h2, h3⟩
    rw [upd_one] at h1
    split at h1
    · rename_i e; subst e
      simp only [putM, if_true] at h2; cases h2
      cases h1
      obtain ⟨h3, h3b⟩ := hfp' b h3
      rcases hb h3 with ⟨q1, q2⟩ | q
      · exact .inr ⟨id, ob, l, hg, hm, (hfp b).2 ⟨q1, by rw [← q2, h3b]⟩⟩
      · exact .inl (by omega)
    · rename_i e
      have hn : ¬ (i = id) := fun e' => e e'.symm
      simp only [putM, if_neg hn] at h2
      exact .inr ⟨i, o1, k, h1, h2, h3⟩

theorem widths_iff {n : Nat} {es : List AV} (h : widths n es = true) : ∀ e ∈ es, e.cells.length = n ∧ e.cells.all AV.one = true := by
  intro e he
  have := (List.all_eq_true.1 h) e he
  simpa using this

theorem srcTy_kind {t : TypeId} (h : srcTy P t = true) : (∃ e', P.underlying t = some (.slice e')) ∨ P.underlying t = some .string := by
  unfold srcTy at h
  split at h
  · rename_i e' hu; exact .inl ⟨_, hu⟩
  · rename_i hu; exact .inr hu
  · cases h

theorem loadCells_vals {w : World} {b o n : Nat} {vs : List Value} (hl : vs.length = n) (h : ∀ (j : Nat) (v : Value), vs[j]? = some v → w.cell? ⟨b, o + j, none⟩ = some v) :
    (loadCells ⟨b, o, none⟩ n).run P w = .ok vs.toArray w := by
  subst hl
  exact run_loadCells_list (P := P) w _ vs fun j v hj => by rw [add_none]; exact h j v hj

theorem bytes_flat (l : List UInt8) : (l.map byteAV).flatMap AV.cells = l.map byteAV := by
  induction l with
  | nil => rfl
  | cons x xs ih => simp [byteAV, AV.cells] at ih ⊢; exact ih

theorem bytes_VRL (l : List UInt8) : VRL φ m (l.map byteAV) (l.map fun b => Value.int .u8 b.toNat) := by
  induction l with
  | nil => simp [VRL]
  | cons x xs ih => simp only [List.map_cons, VRL]; exact ⟨_, _, rfl, by simp [byteAV, VR], ih⟩

/-- What an own array's part holds, as it lies in memory. -/
theorem own_vals (hi : Inv φ m g w) {id esz off len : Nat} {es : List AV} {ro : Bool} {l : Loc} (hg : g id = some (.arr esz es ro)) (hm : m id = some l) (hb : off + len ≤ es.length) (h0 : 0 < len) :
    ∃ vs : List Value, VRL φ LM.none (((es.drop off).take len).flatMap AV.cells) vs ∧ ∀ (j : Nat) (v : Value), vs[j]? = some v → w.cell? ⟨l.blk, off * esz + j, none⟩ = some v := by
  obtain ⟨l', hm', hr⟩ := hi.own id _ hg
  rw [hm] at hm'; cases hm'
  obtain ⟨h1, h2, h3, h4, h5⟩ := hr.arr esz es ro rfl
  obtain ⟨a, t, k1, k2, k3, k4⟩ := h5.resolve_left (by omega)
  have hw : ∀ e ∈ es, e.cells.length = esz := fun e he => (h3 e he).1
  refine ⟨((a.toList.take (es.length * esz)).drop (off * esz)).take (len * esz), ?_, fun j v hj => ?_⟩
  · have e1 : ((es.drop off).take len).flatMap AV.cells = ((es.flatMap AV.cells).drop (off * esz)).take (len * esz) := by
      clear k4 h5 hb h0 hr hg h3 h4
      induction es generalizing off len with
      | nil => simp
      | cons x xs ih =>
        have hx := hw x (by simp)
        have ih := fun {off len} => ih (off := off) (len := len) (fun e he => hw e (by simp [he]))
        cases off with
        | zero =>
          cases len with
          | zero => simp
          | succ len =>
            have := ih (off := 0) (len := len)
            simp only [List.drop_zero, Nat.zero_mul] at this ⊢
            simp only [List.take_succ_cons, List.flatMap_cons, this, List.take_append, hx, Nat.add_mul, Nat.one_mul, Nat.add_sub_cancel]
            rw [List.take_of_length_le (show x.cells.length ≤ len * esz + esz by omega)]
        | succ off =>
          have := ih (off := off) (len := len)
          simp only [List.drop_succ_cons, List.flatMap_cons, this, List.drop_append, hx, Nat.add_mul, Nat.one_mul, Nat.add_sub_cancel]
          rw [List.drop_eq_nil_of_le (show x.cells.length ≤ off * esz + esz by omega)]
          simp
    rw [e1]
    exact VRL_take (VRL_drop k4 _) _
  · rw [cell_at k1]
    rw [List.getElem?_take] at hj
    split at hj
    · rw [List.getElem?_drop, List.getElem?_take] at hj
      split at hj
      · simpa using hj
      · cases hj
    · cases hj

theorem src_sound (hi : Inv φ m g w) {x : AV} {cx : Value} {src : List AV} {is : List Nat} {t2 : TypeId} {n : Nat} (hk : srcTy P t2 = true)
    (h : elsOf gi x = some (src, is)) (hg : ∀ i ∈ is, g i = gi i) (hx : VR φ m x cx) (hw : ∀ e ∈ src, e.cells.length = n ∧ e.cells.all AV.one = true) :
    ∃ news, Src P n t2 cx src.length news w ∧ VRL φ LM.none (src.flatMap AV.cells) news := by
  have hone : (src.flatMap AV.cells).all AV.one = true := by
    rw [List.all_eq_true]; intro y hy
    obtain ⟨e, he, hye⟩ := List.mem_flatMap.1 hy
    exact (List.all_eq_true.1 (hw e he).2) y hye
  have mk : ∀ (news : List Value) (ad : Option Addr) (cap : Nat), cx = .slice ad src.length cap → VRL φ LM.none (src.flatMap AV.cells) news →
      (src.length = 0 ∨ ∃ b o, ad = some ⟨b, o, none⟩ ∧ ∀ (j : Nat) (v : Value), news[j]? = some v → w.cell? ⟨b, o + j, none⟩ = some v) → Src P n t2 cx src.length news w := by
    rintro news ad cap rfl hv hc
    have hlen : news.length = src.length * n := by rw [VRL_len hv, flat_len (fun e he => (hw e he).1)]
    have hcells : ∀ w' : World, (∀ b o, w'.cell? ⟨b, o, none⟩ = w.cell? ⟨b, o, none⟩) → (Builtin.firstCells n src.length (.slice ad src.length cap)).run P w' = .ok news.toArray w' := by
      intro w' hw'
      cases ad with
      | none =>
        rcases hc with h0 | ⟨b, o, h1, _⟩
        · have : news = [] := List.eq_nil_of_length_eq_zero (by rw [hlen, h0]; simp)
          simp [Builtin.firstCells, this]
        · cases h1
      | some a =>
        rcases hc with h0 | ⟨b, o, h1, h2⟩
        · have : news = [] := List.eq_nil_of_length_eq_zero (by rw [hlen, h0]; simp)
          subst this
          simp [Builtin.firstCells, h0, loadCells, loadCellsFrom]
        · cases h1
          simp only [Builtin.firstCells]
          exact loadCells_vals hlen fun j v hj => by rw [hw']; exact h2 j v hj
    exact ⟨srcTy_kind hk, fun _ => rfl, hcells w (fun _ _ => rfl), hcells w.drew (fun _ _ => rfl), hlen, VRL_one hv hone⟩
  cases x with
  | fsl es =>
    simp only [elsOf, Option.some.injEq, Prod.mk.injEq] at h
    obtain ⟨rfl, rfl⟩ := h
    simp only [VR] at hx
    obtain ⟨ad, cap, rfl, h1, h2⟩ := hx
    rcases h2 with h0 | ⟨b, o, rfl, h3⟩
    · have : es = [] := List.eq_nil_of_length_eq_zero h0
      subst this
      exact ⟨[], mk [] ad cap rfl (by simp [VRL]) (.inl rfl), by simp [VRL]⟩
    · obtain ⟨vs, k1, k2⟩ := VRE_vals h3
      exact ⟨vs, mk vs _ cap rfl k1 (.inr ⟨b, o, rfl, fun j v hj => hi.cell (k2 j v hj)⟩), k1⟩
  | nilsl =>
    simp only [elsOf, Option.some.injEq, Prod.mk.injEq] at h
    obtain ⟨rfl, rfl⟩ := h
    simp only [VR] at hx
    obtain ⟨ad, rfl⟩ := hx
    exact ⟨[], mk [] ad 0 rfl (by simp [VRL]) (.inl rfl), by simp [VRL]⟩
  | osl id off len tot =>
    simp only [elsOf] at h
    split at h
    · rename_i esz es ro hgi
      split at h
      · rename_i hb
        simp only [Option.some.injEq, Prod.mk.injEq] at h
        obtain ⟨rfl, rfl⟩ := h
        have hgid := (hg id (by simp)).trans hgi
        simp only [VR] at hx
        obtain ⟨_, l, hm, _, hv⟩ := hx
        obtain ⟨l', hm', hr⟩ := hi.own id _ hgid
        rw [hm] at hm'; cases hm'
        obtain ⟨ad, rfl, had⟩ := hv (by rw [hr.top]; exact hb.1)
        have hlen : ((es.drop off).take len).length = len := by simp; omega
        obtain ⟨h1, h2, h3, h4, _⟩ := hr.arr esz es ro rfl
        by_cases h0 : len = 0
        · subst h0
          refine ⟨[], mk [] ad _ (by rw [hlen]) (by simp [VRL]) (.inl (by simp)), by simp [VRL]⟩
        · obtain ⟨vs, k1, k2⟩ := own_vals hi hgid hm hb.2 (by omega)
          refine ⟨vs, mk vs ad _ (by rw [hlen]) k1 (.inr ⟨l.blk, off * esz, by rw [← h1]; exact had (by omega), k2⟩), k1⟩
      · cases h
    · cases h
  | _ => simp [elsOf] at h
end
end Go.Proofs.YtapchldnmkfkoabDoor.Am
namespace Go.Proofs.YtapchldnmkfkoabDoor.Am
open Go

variable {P : Program}

section
variable {φ : FM} {m : LM} {g gi : Nat → Option Ob} {w w' : World}

theorem src_any (hi : Inv φ m g w) {x : AV} {cx : Value} {src : List AV} {is : List Nat} {t2 : TypeId} {ts : TS} (hk : srcTy P t2 = true)
    (h : srcOf ts gi x = some (src, is)) (hg : ∀ i ∈ is, g i = gi i) (hx : VR φ m x cx) (hw : ∀ e ∈ src, e.cells.length = ts.size ∧ e.cells.all AV.one = true) :
    ∃ news, Src P ts.size t2 cx src.length news w ∧ VRL φ LM.none (src.flatMap AV.cells) news := by
  unfold srcOf at h
  split at h
  · rename_i b
    split at h
    · rename_i h1
      simp only [Option.some.injEq, Prod.mk.injEq] at h
      obtain ⟨rfl, rfl⟩ := h
      simp only [VR] at hx; subst hx
      refine ⟨byteCells b, ?_, by rw [bytes_flat]; exact bytes_VRL _⟩
      have : Src P 1 t2 (.string b) b.size (byteCells b) w := ⟨srcTy_kind hk, fun _ => rfl, firstCells_string b w, firstCells_string b w.drew, by rw [byteCells_length, Nat.mul_one], fun u hu => by
        obtain ⟨_, _, rfl⟩ := List.mem_map.1 hu
        rfl⟩
      rw [h1]
      rw [show (b.data.toList.map byteAV).length = b.size by simp]
      exact this
    · cases h
  · exact src_sound hi hk h hg hx hw

theorem next_le (need cap : Nat) (h : cap < need) : Builtin.nextslicecap need cap ≤ 4 * need + 4000 := by
  unfold Builtin.nextslicecap
  split
  · omega
  · split
    · omega
    · have h4 : ∀ c, Builtin.growBy need 4 c ≤ 3 * c + 3000 := by
        intro c
        simp only [Builtin.growBy]
        repeat' split
        all_goals omega
      have := h4 cap
      omega

/-- The bytes that an append may ask for are within what the model lets be. -/
theorem fit_of {n cap bytes : Nat} (h : n * bytes ≤ room) (hc : cap < n) (hb : bytes ≤ 2 ^ 20) : Builtin.nextslicecap n cap * bytes ≤ 281474976710656 := by
  have h1 := next_le n cap hc
  have h2 : Builtin.nextslicecap n cap * bytes ≤ (4 * n + 4000) * bytes := Nat.mul_le_mul_right _ h1
  have h3 : (4 * n + 4000) * bytes = 4 * (n * bytes) + 4000 * bytes := by rw [Nat.add_mul, Nat.mul_assoc]
  unfold room at h
  omega

theorem app_grow {mm : LM} {t t2 ty e : TypeId} {i : TypeInfo} {z : Value} (hu : P.underlying t = some (.slice e)) (hinf : P.info? e = some i) (hz : i.zero = some z)
    {base : Option Addr} {sLen sCap : Nat} {es src : List AV} {olds news : List Value} {cx : Value} (hzc : z.cells.size = i.size)
    (hold : (Builtin.firstCells i.size sLen (.slice base sLen sCap)).run P w.drew = .ok olds.toArray w.drew)
    (hov : VRL φ mm (es.flatMap AV.cells) olds) (hlen : es.length = sLen) (hwe : ∀ e ∈ es, e.cells.length = i.size)
    (hs : Src P i.size t2 cx src.length news w) (hnv : VRL φ mm (src.flatMap AV.cells) news)
    (hgrow : sCap < sLen + src.length) (hroom : (sLen + src.length) * i.bytes ≤ room) (hbytes : i.bytes ≤ 1048576) (hb0 : 0 < i.bytes) :
    ∃ a cap, (Builtin.append_ #[t, t2] ty #[.slice base sLen sCap, cx]).run P w = .ok (.slice (some ⟨w.heap.size, 0, none⟩) (sLen + src.length) cap) (w.drew.alloc (.cells a e)) ∧
      a.size = cap * i.size ∧ sLen + src.length ≤ cap ∧ VRL φ mm ((es ++ src).flatMap AV.cells) (a.toList.take ((es ++ src).length * i.size)) := by
  have h63 : ((sLen + src.length : Nat) : Int) ≤ 9223372036854775807 := by
    have : sLen + src.length ≤ (sLen + src.length) * i.bytes := Nat.le_mul_of_pos_right _ hb0
    unfold room at hroom; omega
  have hrun := run_append_grow_src (P := P) w t t2 ty e i z hu hinf hz base sLen sCap olds hold cx src.length news hs hgrow h63 (fit_of hroom hgrow (by omega))
  have hge : sLen + src.length ≤ grownCap w (sLen + src.length) sCap e := by unfold grownCap; simp [Question.cut]
  have hol : olds.length = sLen * i.size := by rw [VRL_len hov, flat_len hwe, hlen]
  have hnl := hs.newsLen
  refine ⟨_, _, hrun, ?_, hge, ?_⟩
  · simp only [Array.size_append, List.size_toArray, List.length_append, Builtin.zeroCells, Array.size_map, Array.size_range, hol, hnl, hzc]
    rw [← Nat.add_mul, ← Nat.add_mul]
    congr 1; omega
  · have hl : (es ++ src).length * i.size = (olds ++ news).length := by simp [hol, hnl, hlen, Nat.add_mul]
    rw [hl]
    simp only [Array.toList_append, List.take_left]
    rw [List.flatMap_append]
    exact VRL_append hov hnv

theorem run_append_room_at {t tx ty e : TypeId} {i : TypeInfo} (ht : P.underlying t = some (.slice e)) (hi : P.info? e = some i) {b o0 sLen sCap : Nat} {x : Value} {n : Nat} {news : List Value}
    (hs : Src P i.size tx x n news w) (hroom : sLen + n ≤ sCap) {cur : Array Value} {te : TypeId} (hh : w.heap[b]? = some (.cells cur te (0, 0))) (hle : o0 + sLen * i.size + news.length ≤ cur.size) :
    (Builtin.append_ #[t, tx] ty #[.slice (some ⟨b, o0, none⟩) sLen sCap, x]).run P w = .ok (.slice (some ⟨b, o0, none⟩) (sLen + n) sCap)
      (w.setRow b (cur.toList.take (o0 + sLen * i.size) ++ news ++ cur.toList.drop (o0 + sLen * i.size + news.length)).toArray) := by
  have hst := run_storeCells_at P b (o0 + sLen * i.size) te news 0 cur w hh (by simpa using hle) hs.one
  simp only [Nat.add_zero] at hst
  rcases hs.kind with ⟨e', hk⟩ | hk <;> simp [Builtin.append_, run_underlying ht, run_underlying hk, sizeOf, typeInfo, hi, hs.len, hroom, hs.cells, Addr.add_lit, hst]

theorem upd_self {id : Nat} {ob : Ob} (h : g id = some ob) : upd g [(id, ob)] = g := by
  funext i
  rw [upd_one]
  split
  · rename_i e; subst e; exact h.symm
  · rfl

theorem flat_seg {n : Nat} {es src : List AV} {k : Nat} (hw : ∀ e ∈ es, e.cells.length = n) (hs : ∀ e ∈ src, e.cells.length = n) (hk : k + src.length ≤ es.length) :
    (es.take k ++ src ++ es.drop (k + src.length)).flatMap AV.cells = spl (es.flatMap AV.cells) (k * n) (src.flatMap AV.cells) := by
  have e1 : ∀ (j : Nat) (l : List AV), (∀ e ∈ l, e.cells.length = n) → (l.take j).flatMap AV.cells = (l.flatMap AV.cells).take (j * n) := by
    intro j l
    induction l generalizing j with
    | nil => simp
    | cons x xs ih =>
      intro hl
      have hx := hl x (by simp)
      cases j with
      | zero => simp
      | succ j =>
        have := ih j (fun e he => hl e (by simp [he]))
        simp only [List.take_succ_cons, List.flatMap_cons, this, List.take_append, hx, Nat.add_mul, Nat.one_mul, Nat.add_sub_cancel]
        rw [List.take_of_length_le (show x.cells.length ≤ j * n + n by omega)]
  have e2 : ∀ (j : Nat) (l : List AV), (∀ e ∈ l, e.cells.length = n) → (l.drop j).flatMap AV.cells = (l.flatMap AV.cells).drop (j * n) := by
    intro j l
    induction l generalizing j with
    | nil => simp
    | cons x xs ih =>
      intro hl
      have hx := hl x (by simp)
      cases j with
      | zero => simp
      | succ j =>
        have := ih j (fun e he => hl e (by simp [he]))
        simp only [List.drop_succ_cons, List.flatMap_cons, this, List.drop_append, hx, Nat.add_mul, Nat.one_mul, Nat.add_sub_cancel]
        rw [List.drop_eq_nil_of_le (show x.cells.length ≤ j * n + n by omega)]
        simp
  rw [List.flatMap_append, List.flatMap_append, e1 k es hw, e2 _ es hw]
  unfold spl
  rw [flat_len hs, ← Nat.add_mul]

theorem app_sound {t t2 : TypeId} {ty : TypeId} {s x : AV} {cs cx : Value} {nx : Nat} {e : Eff}
    (h : appA P t t2 s x gi nx = some e) (hg : ∀ i ∈ e.rd, g i = gi i) (hi : Inv φ m g w) (hfr : nx < e.nx → g nx = none ∧ m nx = none)
    (hs : VR φ m s cs) (hx : VR φ m x cx) :
    ∃ cv w', (Builtin.append_ #[t, t2] ty #[cs, cx]).run P w = .ok cv w' ∧ Post φ m g w e cv w' := by
  unfold appA at h
  split at h
  · cases h
  rename_i el ts bytes hel
  split at h
  · cases h
  rename_i hk
  simp only [Bool.not_eq_true, Bool.not_eq_false'] at hk
  split at h
  · cases h
  rename_i z hz
  split at h
  · cases h
  rename_i hzb
  split at h
  · cases h
  rename_i src is hsrc
  split at h
  · cases h
  rename_i hwd
  simp only [Bool.not_eq_true, Bool.not_eq_false'] at hwd
  obtain ⟨hu, hts, i, hinf, hisz, hib, hipos⟩ := elt_some hel
  have hw := widths_iff hwd
  obtain ⟨i', zv, hinf', hzv, rfl, hzrun⟩ := zer_run hz w
  rw [hinf] at hinf'; cases hinf'
  have hzone : (ofV zv).cells.all AV.one = true := by
    cases hq : (ofV zv).cells.all AV.one with
    | true => rfl
    | false => exact absurd (.inr (.inr (.inr hq))) hzb
  have hzc : zv.cells.size = i.size := by
    have := VRL_len (ofV_cells (φ := φ) (m := m) hzone)
    simp only [Array.length_toList] at this
    omega
  have hb0 : 0 < i.bytes := by omega
  have hbl : i.bytes ≤ 1048576 := by omega
  have hsrcw : ∀ e ∈ src, e.cells.length = ts.size := fun e he => (hw e he).1
  cases s with
  | nilsl =>
    simp only at h
    split at h
    · rename_i hroom
      simp only [Option.some.injEq] at h; subst h
      obtain ⟨hgn, hmn⟩ := hfr (by simp)
      obtain ⟨news, hS, hnv⟩ := src_any hi hk hsrc (fun i hi => hg i hi) hx hw
      rw [← hisz] at hS
      simp only [VR] at hs
      obtain ⟨ad, rfl⟩ := hs
      by_cases h0 : src.length = 0
      · have : src = [] := List.eq_nil_of_length_eq_zero h0
        subst this
        have hn0 : news = [] := by simp [VRL] at hnv; exact hnv
        subst hn0
        obtain ⟨p1, p2, p3⟩ := new_nil (ad := ad) (esz := ts.size) hi hmn hgn (by omega)
        exact ⟨_, w, run_append_nothing (P := P) w t t2 ty el i hu hinf ad 0 0 (Nat.le_refl _) cx hS, _, _, p1, p2, p3, put_new (by simp) (by simp [lkp])⟩
      · obtain ⟨a, cap, r1, r2, r3, r4⟩ := app_grow (φ := φ) (ty := ty) (base := ad) (sLen := 0) (sCap := 0) (es := []) (olds := []) hu hinf hzv hzc (by cases ad <;> simp [Builtin.firstCells, loadCells, loadCellsFrom])
          (by simp [VRL]) rfl (by simp) hS hnv (by omega) (by rw [Nat.zero_add, hib]; exact hroom) hbl hb0
        obtain ⟨p1, p2, p3⟩ := new_arr (w' := w.drew.alloc (.cells a el)) (cap := cap) (t := el) (a := a) (esz := ts.size) (es := src) hi hmn hgn (by omega) hw (by omega) (by rw [r2, hisz]) (by simpa [hisz] using r4) rfl rfl rfl rfl
        refine ⟨_, _, r1, _, _, ?_, p2, p3, put_new (by simp) (by simp [lkp])⟩
        simpa using p1
    · cases h
  | osl id off len tot =>
    simp only at h
    split at h
    · rename_i esz es hgi
      split at h
      · rename_i hb
        obtain ⟨hesz, htot, hroom⟩ := hb
        simp only [VR] at hs
        obtain ⟨_, l, hm, _, hv⟩ := hs
        have fin : ∀ (hgid : g id = some (.arr esz es false)) (news : List Value) (hS : Src P i.size t2 cx src.length news w) (hnv : VRL φ LM.none (src.flatMap AV.cells) news),
            (off = 0 ∧ len = es.length → ∃ cv w', (Builtin.append_ #[t, t2] ty #[cs, cx]).run P w = .ok cv w' ∧ Post φ m g w ⟨.osl id 0 (len + src.length) (tot + src.length), id :: is, [(id, .arr esz (es ++ src) false)], nx⟩ cv w') ∧
            (off + len + src.length ≤ es.length → ∃ cv w', (Builtin.append_ #[t, t2] ty #[cs, cx]).run P w = .ok cv w' ∧
              Post φ m g w ⟨.osl id off (len + src.length) tot, id :: is, [(id, .arr esz (es.take (off + len) ++ src ++ es.drop (off + len + src.length)) false)], nx⟩ cv w') := by
          intro hgid news hS hnv
          obtain ⟨l', hm', hr⟩ := hi.own id _ hgid
          rw [hm] at hm'; cases hm'
          obtain ⟨ad, rfl, had⟩ := hv (by rw [hr.top]; exact htot)
          obtain ⟨b1, b2, b3, b4, b5⟩ := hr.arr esz es false rfl
          have hnl := hS.newsLen
          have hesi : esz = i.size := by omega
          refine ⟨fun ⟨ho, hl⟩ => ?_, fun hin => ?_⟩
          · subst ho
            by_cases h0 : src.length = 0
            · have : src = [] := List.eq_nil_of_length_eq_zero h0
              subst this
              have hn0 : news = [] := by simp [VRL] at hnv; exact hnv
              subst hn0
              refine ⟨_, w, run_append_nothing (P := P) w t t2 ty el i hu hinf ad len (l.cap - 0) (by omega) cx hS, φ, m, ?_, ?_, ?_, fun _ _ h => h⟩
              · simp only [VR]
                exact ⟨rfl, l, hm, by simp; omega, fun _ => ⟨ad, rfl, had⟩⟩
              · simp only [List.append_nil]; rw [upd_self hgid]; exact hi
              · simp only [List.append_nil]; rw [upd_self hgid]; exact Fr.refl ..
            · by_cases hcap : len + src.length ≤ l.cap
              · obtain ⟨a, te, c1, c2, c3, c4⟩ := b5.resolve_left (by omega)
                have had' := had (by omega)
                subst had'
                simp only [if_neg (by simp : ¬ (false = true))] at c3
                have hmul : (len + src.length) * esz ≤ l.cap * esz := Nat.mul_le_mul_right _ hcap
                rw [Nat.add_mul] at hmul
                have hroomle : 0 * l.esz + len * i.size + news.length ≤ a.size := by
                  have h1 : news.length = src.length * esz := by rw [hnl, hesi]
                  rw [h1, ← hesi, c2]; simp only [Nat.zero_mul, Nat.zero_add]; omega
                have hrun := run_append_room_at (P := P) (ty := ty) (o0 := 0 * l.esz) (sLen := len) (sCap := l.cap - 0) hu hinf hS (by omega) c1 hroomle
                refine ⟨_, _, hrun, φ, putM m id { l with top := len + src.length }, ?_, (and_assoc.1 ⟨?_, fun i _ h => put_old hm i h⟩)⟩
                · simp only [VR]
                  refine ⟨rfl, { l with top := len + src.length }, by simp [putM], by simp; omega, fun _ => ⟨_, rfl, fun _ => by simp⟩⟩
                · refine inv_repl hi hgid hm (fun _ => c3) (by simp; rw [hr.top]; simp [Ob.len]; omega) (fun e => ?_) (fun _ => Iff.rfl) (fun _ h => h) rfl (fun h => .inl ⟨h, rfl⟩) rfl rfl rfl (by rw [setRow_size]; exact Nat.le_refl _) (fun b hb hne => setRow_other _ _ _ (hne (by omega))) ⟨?_, fun cs' e => (by cases e), fun _ _ _ e => ?_, trivial⟩
                  · simp at e; rw [hr.top] at e; simp [Ob.len] at e; omega
                  · simp [Ob.len]; omega
                  · cases e
                    have hal : a.toList.length = l.cap * esz := by simpa using c2
                    have hnl' : news.length = src.length * esz := by rw [hnl, hesi]
                    refine ⟨b1, b2, fun e he => ?_, by simp; omega, .inr ⟨_, te, setRow_heap' c1 _, ?_, by simpa using c3, ?_⟩⟩
                    · rcases List.mem_append.1 he with h1 | h1
                      · exact b3 e h1
                      · rw [hesi, hisz]; exact hw e h1
                    · simp only [List.size_toArray, List.length_append, List.length_take, List.length_drop, hal, hnl', Nat.zero_mul, Nat.zero_add, ← hesi]
                      omega
                    · rw [List.flatMap_append]
                      simp only [Nat.zero_mul, Nat.zero_add, ← hesi]
                      have hlt : (a.toList.take (len * esz)).length = len * esz := by rw [List.length_take, hal]; omega
                      have hlt2 : (es ++ src).length * esz = (a.toList.take (len * esz) ++ news).length := by rw [List.length_append (as := a.toList.take (len * esz)), hlt, hnl', List.length_append, Nat.add_mul, ← hl]
                      have e1 : (a.toList.take (len * esz) ++ news ++ a.toList.drop (len * esz + news.length)).take ((es ++ src).length * esz) = a.toList.take (len * esz) ++ news := by
                        rw [hlt2, List.take_left]
                      rw [e1]
                      refine VRL_append ?_ hnv
                      rw [hl]; exact c4
              · have hold : (Builtin.firstCells i.size len (.slice ad len (l.cap - 0))).run P w.drew = .ok (if 0 < l.cap then (match w.heap[l.blk]? with | some (.cells a _ _) => a.toList.take (len * esz) | _ => []) else []).toArray w.drew ∧
                    VRL φ LM.none (es.flatMap AV.cells) (if 0 < l.cap then (match w.heap[l.blk]? with | some (.cells a _ _) => a.toList.take (len * esz) | _ => []) else []) := by
                  by_cases hc : 0 < l.cap
                  · obtain ⟨a, te, c1, c2, c3, c4⟩ := b5.resolve_left (by omega)
                    rw [if_pos hc, c1]
                    simp only
                    have had' := had (by omega)
                    subst had'
                    have hal : a.toList.length = l.cap * esz := by simpa using c2
                    have hle : len * esz ≤ l.cap * esz := Nat.mul_le_mul_right _ (by omega)
                    refine ⟨?_, by rw [hl]; exact c4⟩
                    simp only [Builtin.firstCells, Nat.zero_mul]
                    refine loadCells_vals (w := w.drew) (by rw [List.length_take, hal, ← hesi]; omega) fun j v hj => ?_
                    have : w.drew.cell? ⟨l.blk, 0 + j, none⟩ = w.cell? ⟨l.blk, 0 + j, none⟩ := rfl
                    rw [this, cell_at c1]
                    rw [List.getElem?_take] at hj
                    split at hj
                    · simpa using hj
                    · cases hj
                  · rw [if_neg hc]
                    have hl0 : len = 0 := by omega
                    have he0 : es = [] := List.eq_nil_of_length_eq_zero (by omega)
                    subst he0
                    refine ⟨?_, by simp [VRL]⟩
                    cases ad <;> simp [Builtin.firstCells, hl0, loadCells, loadCellsFrom]
                obtain ⟨a, cap, r1, r2, r3, r4⟩ := app_grow (φ := φ) (ty := ty) (base := ad) (sLen := len) (sCap := l.cap - 0) (es := es) hu hinf hzv hzc hold.1 hold.2 hl.symm (fun e he => by rw [(b3 e he).1, hesi]) hS hnv (by omega) (by rw [hib]; exact hroom) hbl hb0
                refine ⟨_, _, r1, φ, putM m id ⟨w.heap.size, esz, cap, len + src.length, l.sub⟩, ?_, (and_assoc.1 ⟨?_, fun i _ h => put_old hm i h⟩)⟩
                · simp only [VR]
                  exact ⟨rfl, _, by simp [putM]; rfl, by simp; omega, fun _ => ⟨_, by simp; rfl, fun _ => by simp⟩⟩
                · refine inv_repl hi hgid hm (fun hc => ?_) (by simp; rw [hr.top]; simp [Ob.len]; omega) (fun e => ?_) (fun _ => Iff.rfl) (fun _ h => h) rfl (fun _ => .inr (Nat.le_refl _)) rfl rfl rfl (by simp) (fun b hb _ => ?_) ⟨?_, fun cs' e => (by cases e), fun _ _ _ e => ?_, trivial⟩
                  · obtain ⟨a', te, c1, c2, c3, c4⟩ := b5.resolve_left (by omega)
                    simpa using c3
                  · simp at e; rw [hr.top] at e; simp [Ob.len] at e; omega
                  · show (w.heap.push _)[b]? = _
                    rw [Array.getElem?_push, if_neg (by omega)]
                  · simp [Ob.len]; omega
                  · cases e
                    refine ⟨rfl, b2, fun e he => ?_, by simp; omega, .inr ⟨a, el, ?_, by simp [r2, hesi], ?_, by rw [hesi]; exact r4⟩⟩
                    · rcases List.mem_append.1 he with h1 | h1
                      · exact b3 e h1
                      · rw [hesi, hisz]; exact hw e h1
                    · show (w.heap.push _)[w.heap.size]? = _
                      simp
                    · simp only [if_neg (by simp : ¬ (false = true))]
                      cases hp : φ w.heap.size with
                      | none => rfl
                      | some o => have := (Array.getElem?_eq_some_iff.1 (hi.fz _ _ hp)).1; simp at this
          · by_cases hcap : 0 < l.cap
            · obtain ⟨a, te, c1, c2, c3, c4⟩ := b5.resolve_left (by omega)
              have hal : a.toList.length = l.cap * esz := by simpa using c2
              have hmul : (off + len + src.length) * esz ≤ es.length * esz := Nat.mul_le_mul_right _ hin
              have hmul2 : es.length * esz ≤ l.cap * esz := Nat.mul_le_mul_right _ b4
              have hnl' : news.length = src.length * esz := by rw [hnl, hesi]
              rw [Nat.add_mul, Nat.add_mul] at hmul
              by_cases hofc : off < l.cap
              · have had' := had hofc
                subst had'
                have hrun := run_append_room_at (P := P) (ty := ty) (o0 := off * l.esz) (sLen := len) (sCap := l.cap - off) hu hinf hS (by omega) c1 (by rw [b1, ← hesi, hnl']; simp at hal; omega)
                have hput := put_arr hi hgid hm hcap (es' := es.take (off + len) ++ src ++ es.drop (off + len + src.length)) (by simp; omega) (fun e he => by
                    rcases List.mem_append.1 he with h1 | h1
                    · rcases List.mem_append.1 h1 with h2 | h2
                      · exact b3 e (List.mem_of_mem_take h2)
                      · rw [hesi, hisz]; exact hw e h2
                    · exact b3 e (List.mem_of_mem_drop h1)) c1 hnv (k := (off + len) * esz) (by rw [flat_len hsrcw, ← hisz, ← hesi, Nat.add_mul]; omega)
                  (flat_seg (fun e he => (b3 e he).1) (fun e he => by rw [hesi, hisz]; exact hsrcw e he) hin)
                refine ⟨_, _, hrun, φ, m, ?_, (and_assoc.1 ⟨?_, fun _ _ h => h⟩)⟩
                · simp only [VR]
                  exact ⟨rfl, l, hm, by rw [hr.top]; simp [Ob.len]; omega, fun _ => ⟨_, rfl, fun _ => rfl⟩⟩
                · have e2 : off * l.esz + len * i.size = (off + len) * esz := by rw [b1, ← hesi, Nat.add_mul]
                  rw [e2]
                  exact hput
              · have hl0 : src.length = 0 := by omega
                have : src = [] := List.eq_nil_of_length_eq_zero hl0
                subst this
                have hn0 : news = [] := by simp [VRL] at hnv; exact hnv
                subst hn0
                refine ⟨_, w, run_append_nothing (P := P) w t t2 ty el i hu hinf ad len (l.cap - off) (by omega) cx hS, φ, m, ?_, ?_, ?_, fun _ _ h => h⟩
                · simp only [VR]
                  exact ⟨rfl, l, hm, by rw [hr.top]; simp [Ob.len]; omega, fun _ => ⟨ad, rfl, had⟩⟩
                · simp only [List.append_nil, List.length_nil, Nat.add_zero, List.take_append_drop]; rw [upd_self hgid]; exact hi
                · simp only [List.append_nil, List.length_nil, Nat.add_zero, List.take_append_drop]; rw [upd_self hgid]; exact Fr.refl ..
            · have hl0 : src.length = 0 := by omega
              have : src = [] := List.eq_nil_of_length_eq_zero hl0
              subst this
              have hn0 : news = [] := by simp [VRL] at hnv; exact hnv
              subst hn0
              refine ⟨_, w, run_append_nothing (P := P) w t t2 ty el i hu hinf ad len (l.cap - off) (by omega) cx hS, φ, m, ?_, ?_, ?_, fun _ _ h => h⟩
              · simp only [VR]
                exact ⟨rfl, l, hm, by rw [hr.top]; simp [Ob.len]; omega, fun _ => ⟨ad, rfl, had⟩⟩
              · simp only [List.append_nil, List.length_nil, Nat.add_zero, List.take_append_drop]; rw [upd_self hgid]; exact hi
              · simp only [List.append_nil, List.length_nil, Nat.add_zero, List.take_append_drop]; rw [upd_self hgid]; exact Fr.refl ..
        split at h
        · rename_i hc
          simp only [Option.some.injEq] at h; subst h
          obtain ⟨news, hS, hnv⟩ := src_any hi hk hsrc (fun i hi => hg i (by simp [hi])) hx hw
          rw [← hisz] at hS
          exact (fin ((hg id (by simp)).trans hgi) news hS hnv).1 hc
        · split at h
          · rename_i hc
            simp only [Option.some.injEq] at h; subst h
            obtain ⟨news, hS, hnv⟩ := src_any hi hk hsrc (fun i hi => hg i (by simp [hi])) hx hw
            rw [← hisz] at hS
            exact (fin ((hg id (by simp)).trans hgi) news hS hnv).2 hc
          · cases h
      · cases h
    · cases h
  | _ => cases h
end
end Go.Proofs.YtapchldnmkfkoabDoor.Am
namespace Go.Proofs.YtapchldnmkfkoabDoor.Am
open Go
set_option maxHeartbeats 400000
section
variable {P : Program} {φ : FM} {m : LM} {g : Nat → Option Ob} {w : World}

/-- An object given up. -/
theorem inv_gone (hi : Inv φ m g w) {id : Nat} {ob : Ob} (hg : g id = some ob) : Inv φ m (upd g [(id, .gone ob.len)]) w ∧ Fr φ m g w φ m (upd g [(id, .gone ob.len)]) w := by
  have hown : ∀ b, ownB (upd g [(id, .gone ob.len)]) m b → ownB g m b := by
    rintro b ⟨i, o, l, h1, h2, h3⟩
    rw [upd_one] at h1
    split at h1
    · cases h1; exact h3.elim
    · exact ⟨i, o, l, h1, h2, h3⟩
  refine ⟨⟨hi.fz, fun i o h => ?_, fun i i' o o' k k' b h1 h2 h3 h4 h5 h6 h7 => ?_⟩, ⟨FM.le_refl _, Ext.refl _, rfl, rfl, rfl, Nat.le_refl _, fun _ _ _ => rfl, fun b o h => .inl h, fun b hb => .inr (hown b hb)⟩⟩
  · rw [upd_one] at h
    split at h
    · rename_i e; subst e; cases h
      obtain ⟨l, hm, hr⟩ := hi.own id ob hg
      exact ⟨l, hm, hr.top, (fun _ e => by cases e), (fun _ _ _ e => by cases e), trivial⟩
    · exact hi.own i o h
  · rw [upd_one] at h1 h2
    split at h1
    · cases h1; exact h6.elim
    · split at h2
      · cases h2; exact h7.elim
      · exact hi.sep _ _ _ _ _ _ b h1 h2 h3 h4 h5 h6 h7

theorem upd_two {g : Nat → Option Ob} {i j : Nat} {o p : Ob} {k : Nat} : upd g [(i, o), (j, p)] k = if i = k then some o else if j = k then some p else g k := by
  simp only [upd, lkp]
  split <;> rename_i h
  · split at h
    · rename_i e; rw [if_pos e, h]
    · split at h
      · rename_i e1 e2; rw [if_neg e1, if_pos e2, h]
      · cases h
  · split at h
    · cases h
    · split at h
      · cases h
      · rename_i e1 e2; rw [if_neg e1, if_neg e2]
theorem Ext.put1 {m : LM} {id : Nat} {l l' : Loc} (hm : m id = some l) (htop : l.top ≤ l'.top) (hsame : l'.top = l.top → l'.blk = l.blk ∧ l'.esz = l.esz ∧ l'.cap = l.cap) : Ext m (putM m id l') := by
  intro i k hk
  unfold putM
  split
  · rename_i e; subst e
    rw [hm] at hk; cases hk
    exact ⟨l', rfl, htop, hsame⟩
  · exact ⟨k, hk, Nat.le_refl _, fun _ => ⟨rfl, rfl, rfl⟩⟩

/-- An object takes over what another one had. -/
theorem inv_absorb {w' : World} (hi : Inv φ m g w) {id id2 n : Nat} {ob ob2 ob' : Ob} {l l2 l' : Loc} (hg : g id = some ob) (hm : m id = some l) (hg2 : g id2 = some ob2) (hm2 : m id2 = some l2) (hne : id ≠ id2) (hn : ob2.len = n)
    (htop : l.top ≤ l'.top) (hsame : l'.top = l.top → l'.blk = l.blk ∧ l'.esz = l.esz ∧ l'.cap = l.cap)
    (hfp : ∀ b, ob'.fp l' b → ob.fp l b ∨ ob2.fp l2 b ∨ w.heap.size ≤ b)
    (hos : w'.os = w.os) (htape : w'.tape = w.tape) (hout : w'.output = w.output) (hsz : w.heap.size ≤ w'.heap.size)
    (hh : ∀ b, b < w.heap.size → ¬ ob.fp l b → w'.heap[b]? = w.heap[b]?) (hφ : ∀ b, ob.fp l b → φ b = none) (hr : ObR φ (putM m id l') w' l' ob') :
    Inv φ (putM m id l') (upd g [(id, ob'), (id2, .gone n)]) w' ∧ Fr φ m g w φ (putM m id l') (upd g [(id, ob'), (id2, .gone n)]) w' := by
  have hext : Ext m (putM m id l') := Ext.put1 hm htop hsame
  have hltB : ∀ i ob k, g i = some ob → m i = some k → ∀ b, ob.fp k b → b < w.heap.size := fun i ob k h1 h2 b h3 => hi.ltB h1 h2 h3
  have hoth : ∀ i o k, g i = some o → m i = some k → i ≠ id → ∀ b, o.fp k b → w'.heap[b]? = w.heap[b]? := fun i o k h1 h2 h3 b h4 =>
    hh _ (hltB i o k h1 h2 b h4) (fun h5 => hi.sep _ _ _ _ _ _ b h1 hg h2 hm h3 h4 h5)
  refine ⟨⟨fun b o hbo => ?_, fun i ob1 h => ?_, fun i i' o1 o2 k k' b h1 h2 h3 h4 h5 h6 h7 => ?_⟩, ⟨FM.le_refl _, hext, hos, htape, hout, hsz, fun b hb hn' => hh b hb fun h5 => hn' ⟨id, ob, l, hg, hm, h5⟩, fun b o h => .inl h, ?_⟩⟩
  · have := hi.fz b o hbo
    rw [hh b (Array.getElem?_eq_some_iff.1 this).1 (fun h5 => by rw [hφ b h5] at hbo; cases hbo)]; exact this
  · rw [upd_two] at h
    split at h
    · rename_i e; subst e; cases h
      exact ⟨l', by simp [putM], hr⟩
    · rename_i e1
      have e1' : i ≠ id := fun e => e1 e.symm
      split at h
      · rename_i e; subst e; cases h
        obtain ⟨l3, hm3, hr3⟩ := hi.own id2 ob2 hg2
        exact ⟨l3, by simp [putM, e1', hm3], by rw [hr3.top]; exact hn, (fun _ e => by cases e), (fun _ _ _ e => by cases e), trivial⟩
      · obtain ⟨k, hk, hkr⟩ := hi.own i ob1 h
        exact ⟨k, by simp [putM, e1', hk], hkr.mono (FM.le_refl _) hext (hoth i _ k h hk e1') (fun _ _ => rfl)⟩
  · have key : ∀ i o k, upd g [(id, ob'), (id2, .gone n)] i = some o → putM m id l' i = some k → i ≠ id → ∀ b, o.fp k b → g i = some o ∧ m i = some k ∧ i ≠ id2 := by
      intro i o k q1 q2 q3 b q4
      have q3' : ¬ id = i := fun e => q3 e.symm
      rw [upd_two, if_neg q3'] at q1
      simp only [putM, if_neg q3] at q2
      split at q1
      · cases q1; exact q4.elim
      · rename_i e; exact ⟨q1, q2, fun e' => e e'.symm⟩
    have one : ∀ i o k b, upd g [(id, ob'), (id2, .gone n)] i = some o → putM m id l' i = some k → i ≠ id → o.fp k b → ob'.fp l' b → False := by
      intro i o k b q1 q2 q3 q4 q5
      obtain ⟨r1, r2, r3⟩ := key i o k q1 q2 q3 b q4
      rcases hfp b q5 with h | h | h
      · exact hi.sep _ _ _ _ _ _ b r1 hg r2 hm q3 q4 h
      · exact hi.sep _ _ _ _ _ _ b r1 hg2 r2 hm2 r3 q4 h
      · have := hltB i o k r1 r2 b q4; omega
    by_cases e1 : i = id
    · have e2 : i' ≠ id := fun e => h5 (by rw [e1, e])
      rw [e1, upd_two, if_pos rfl] at h1; cases h1
      rw [e1] at h3; simp only [putM, if_true] at h3; cases h3
      exact one i' o2 k' b h2 h4 e2 h7 h6
    · by_cases e2 : i' = id
      · rw [e2, upd_two, if_pos rfl] at h2; cases h2
        rw [e2] at h4; simp only [putM, if_true] at h4; cases h4
        exact one i o1 k b h1 h3 e1 h6 h7
      · obtain ⟨r1, r2, _⟩ := key i o1 k h1 h3 e1 b h6
        obtain ⟨s1, s2, _⟩ := key i' o2 k' h2 h4 e2 b h7
        exact hi.sep _ _ _ _ _ _ b r1 s1 r2 s2 h5 h6 h7
  · rintro b ⟨i, o1, k, h1, h2, h3⟩
    rw [upd_two] at h1
    split at h1
    · rename_i e; subst e; cases h1
      simp only [putM, if_true] at h2; cases h2
      rcases hfp b h3 with h | h | h
      · exact .inr ⟨id, ob, l, hg, hm, h⟩
      · exact .inr ⟨id2, ob2, l2, hg2, hm2, h⟩
      · exact .inl h
    · rename_i e
      have e' : ¬ i = id := fun x => e x.symm
      simp only [putM, if_neg e'] at h2
      split at h1
      · cases h1; exact h3.elim
      · exact .inr ⟨i, o1, k, h1, h2, h3⟩

/-- A part of an object becomes an object of its own. -/
theorem inv_split (hi : Inv φ m g w) {id nx : Nat} {ob ob' ob2 : Ob} {l l' l2 : Loc} (hg : g id = some ob) (hm : m id = some l) (hgn : g nx = none) (hmn : m nx = none)
    (htop : l'.top = l.top) (hsame : l'.blk = l.blk ∧ l'.esz = l.esz ∧ l'.cap = l.cap)
    (hf1 : ∀ b, ob'.fp l' b → ob.fp l b) (hf2 : ∀ b, ob2.fp l2 b → ob.fp l b) (hd : ∀ b, ob'.fp l' b → ob2.fp l2 b → False)
    (hr1 : ObR φ (putM (putM m id l') nx l2) w l' ob') (hr2 : ObR φ (putM (putM m id l') nx l2) w l2 ob2) :
    Inv φ (putM (putM m id l') nx l2) (upd g [(id, ob'), (nx, ob2)]) w ∧ Fr φ m g w φ (putM (putM m id l') nx l2) (upd g [(id, ob'), (nx, ob2)]) w := by
  have hne : id ≠ nx := by rintro rfl; rw [hg] at hgn; cases hgn
  have hext : Ext m (putM (putM m id l') nx l2) := (Ext.put1 hm (Nat.le_of_eq htop.symm) (fun _ => hsame)).trans (Ext.put (by simp [putM, hne.symm, hmn]))
  have hmi : putM (putM m id l') nx l2 id = some l' := by simp [putM, hne]
  have hmx : putM (putM m id l') nx l2 nx = some l2 := by simp [putM]
  have hmo : ∀ i, i ≠ id → i ≠ nx → putM (putM m id l') nx l2 i = m i := fun i h1 h2 => by simp [putM, h1, h2]
  -- whose block it was
  have own : ∀ i o k b, upd g [(id, ob'), (nx, ob2)] i = some o → putM (putM m id l') nx l2 i = some k → o.fp k b → (i = id ∨ i = nx) ∧ ob.fp l b ∨ (i ≠ id ∧ i ≠ nx) ∧ g i = some o ∧ m i = some k := by
    intro i o k b h1 h2 h3
    rw [upd_two] at h1
    split at h1
    · rename_i e; subst e; cases h1
      rw [hmi] at h2; cases h2
      exact .inl ⟨.inl rfl, hf1 b h3⟩
    · rename_i e1
      split at h1
      · rename_i e; subst e; cases h1
        rw [hmx] at h2; cases h2
        exact .inl ⟨.inr rfl, hf2 b h3⟩
      · rename_i e2
        have e1' : i ≠ id := fun x => e1 x.symm
        have e2' : i ≠ nx := fun x => e2 x.symm
        rw [hmo i e1' e2'] at h2
        exact .inr ⟨⟨e1', e2'⟩, h1, h2⟩
  refine ⟨⟨hi.fz, fun i ob1 h => ?_, fun i i' o1 o2 k k' b h1 h2 h3 h4 h5 h6 h7 => ?_⟩, ⟨FM.le_refl _, hext, rfl, rfl, rfl, Nat.le_refl _, fun _ _ _ => rfl, fun b o h => .inl h, ?_⟩⟩
  · rw [upd_two] at h
    split at h
    · rename_i e; subst e; cases h; exact ⟨l', hmi, hr1⟩
    · rename_i e1
      split at h
      · rename_i e; subst e; cases h; exact ⟨l2, hmx, hr2⟩
      · rename_i e2
        obtain ⟨k, hk, hkr⟩ := hi.own i ob1 h
        exact ⟨k, by rw [hmo i (fun x => e1 x.symm) (fun x => e2 x.symm)]; exact hk, hkr.mono (FM.le_refl _) hext (fun _ _ => rfl) (fun _ _ => rfl)⟩
  · rcases own i o1 k b h1 h3 h6 with ⟨c1, c2⟩ | ⟨c1, c2, c3⟩
    · rcases own i' o2 k' b h2 h4 h7 with ⟨d1, d2⟩ | ⟨d1, d2, d3⟩
      · rcases c1 with rfl | rfl <;> rcases d1 with rfl | rfl
        · exact h5 rfl
        · rw [upd_two, if_pos rfl] at h1; cases h1
          rw [upd_two, if_neg hne, if_pos rfl] at h2; cases h2
          rw [hmi] at h3; cases h3; rw [hmx] at h4; cases h4
          exact hd b h6 h7
        · rw [upd_two, if_pos rfl] at h2; cases h2
          rw [upd_two, if_neg hne, if_pos rfl] at h1; cases h1
          rw [hmi] at h4; cases h4; rw [hmx] at h3; cases h3
          exact hd b h7 h6
        · exact h5 rfl
      · exact hi.sep _ _ _ _ _ _ b d2 hg d3 hm d1.1 h7 c2
    · rcases own i' o2 k' b h2 h4 h7 with ⟨d1, d2⟩ | ⟨d1, d2, d3⟩
      · exact hi.sep _ _ _ _ _ _ b c2 hg c3 hm c1.1 h6 d2
      · exact hi.sep _ _ _ _ _ _ b c2 d2 c3 d3 h5 h6 h7
  · rintro b ⟨i, o1, k, h1, h2, h3⟩
    rcases own i o1 k b h1 h2 h3 with ⟨_, c2⟩ | ⟨_, c2, c3⟩
    · exact .inr ⟨id, ob, l, hg, hm, c2⟩
    · exact .inr ⟨i, o1, k, c2, c3, h3⟩

theorem NRc.one {z : Nat} {c : AV} {v : Value} {o : Option Nat} (h : NRc φ m w z c v o) (h1 : c.one = true) : v.oneCell' = true := by
  rcases h with ⟨_, h2, _⟩ | ⟨es, ad, cap, _, rfl, _⟩
  · exact one_of h2 h1
  · rfl
theorem flat_set1 {n : Nat} {es : List AV} (hw : ∀ e ∈ es, e.cells.length = n ∧ e.cells.all AV.one = true) {ix off : Nat} {e0 e' x : AV} (he : es[ix]? = some e0) (hoff : off < n) (h1 : x.one = true) (hx : x.cells = [x]) (hs : sve e0 off [x] = some e') :
    (es.set ix e').flatMap AV.cells = (es.flatMap AV.cells).set (ix * n + off) x ∧ ∀ e ∈ es.set ix e', e.cells.length = n ∧ e.cells.all AV.one = true := by
  have hlt : ix < es.length := (List.getElem?_eq_some_iff.1 he).1
  have hwe := hw e0 (List.mem_of_getElem? he)
  obtain ⟨s1, s2, s3⟩ := sve_cells hs hwe.2 (by simp [h1])
  have hl : e'.cells.length = n := by rw [s2, spl_len s1]; exact hwe.1
  have hset : ∀ (cs : List AV) (k : Nat), k < cs.length → spl cs k [x] = cs.set k x := by
    intro cs k hk
    simp only [spl, List.length_singleton]
    rw [List.set_eq_take_append_cons_drop, if_pos hk]
    simp
  refine ⟨?_, fun e he' => ?_⟩
  · have hfl : (es.flatMap AV.cells).length = es.length * n := flat_len (fun e he => (hw e he).1)
    have hmul : (ix + 1) * n ≤ es.length * n := Nat.mul_le_mul_right _ hlt
    rw [Nat.succ_mul] at hmul
    rw [set_flat (fun e he => (hw e he).1) hlt hl, s2, spl_spl (flat_get (fun e he => (hw e he).1) he) (by rw [hfl]; omega) hwe.1 s1, hset _ _ (by rw [hfl]; omega)]
  · rcases List.mem_or_eq_of_mem_set he' with h | h
    · exact hw e h
    · subst h; exact ⟨hl, s3⟩

/-- A row taken out of an element: what it leaves. -/
theorem brw_post {nx : Nat} {e : Eff} {cv : Value} (h : Brw φ m g w nx e cv) (hi : Inv φ m g w) (hgn : g nx = none) (hmn : m nx = none) : Post φ m g w e cv w := by
  obtain ⟨id, ix, off, esz, es, zs, e0, r, e', l, a, t, vs, F, hg, hm, he, hc, hoff, hs, hz, hh, hsz, hφ, hvs, hnr, hF, hcv, rfl⟩ := h
  obtain ⟨l', hm', hr⟩ := hi.own id _ hg
  rw [hm] at hm'; cases hm'
  obtain ⟨b1, b2, b3, b4, b5, _⟩ := hr.oth
  have hlt : ix < es.length := (List.getElem?_eq_some_iff.1 he).1
  have hcap0 : 0 < l.cap := by omega
  have hne : id ≠ nx := by rintro rfl; rw [hg] at hgn; cases hgn
  obtain ⟨hfs, hws⟩ := flat_set1 (x := .osl nx 0 r.length r.length) b3 he hoff rfl rfl hs
  have hcell : (es.flatMap AV.cells)[ix * esz + off]? = some (.fsl r) := by rw [flat_at (fun e he => (b3 e he).1) he hoff]; exact hc
  have hmod : (ix * esz + off) % esz = off := by rw [Nat.mul_add_mod_self_right, Nat.mod_eq_of_lt hoff]
  have hN := hnr.2.1 _ _ _ hcell hcv
  rw [hmod] at hN
  obtain ⟨es', ad, cap, q0, rfl, q1, q2, q3, q4⟩ := hN.resolve_left (by rintro ⟨hp, _⟩; simp [plain] at hp)
  cases q0
  -- the row's own block
  obtain ⟨b, hb⟩ : ∃ b, (cap = 0 ∧ F (ix * esz + off) = none) ∨ (0 < cap ∧ ad = some ⟨b, 0, none⟩ ∧ F (ix * esz + off) = some b ∧ ∃ a' t', w.heap[b]? = some (.cells a' t' (0, 0)) ∧ a'.size = cap * zs.getD off 0 ∧ VRL φ LM.none (r.flatMap AV.cells) (a'.toList.take (r.length * zs.getD off 0))) := by
    rcases q4 with h | ⟨h0, b, a', t', k1, k2, k3, _, k4, k5⟩
    · exact ⟨0, .inl h⟩
    · exact ⟨b, .inr ⟨h0, k1, k2, a', t', k3, k4, k5 φ⟩⟩
  let l' : Loc := { l with sub := l.sub.filter fun x => !(decide (0 < cap) && x == b) }
  let l2 : Loc := ⟨b, zs.getD off 0, cap, r.length, []⟩
  have hmem : ∀ {x : Nat}, x ∈ l'.sub ↔ x ∈ l.sub ∧ ¬ (0 < cap ∧ x = b) := fun {x} => by
    show x ∈ l.sub.filter _ ↔ _
    rw [List.mem_filter]
    refine and_congr_right fun _ => ?_
    by_cases h0 : 0 < cap <;> simp [h0]
  have hbs : 0 < cap → b ∈ l.sub := fun h0 => by
    obtain ⟨_, _, k, _⟩ := hb.resolve_left (by omega)
    exact hF _ _ k
  have hext : Ext m (putM (putM m id l') nx l2) := (Ext.put1 (l' := l') hm (Nat.le_refl _) (fun _ => ⟨rfl, rfl, rfl⟩)).trans (Ext.put (by simp [putM, hne.symm, hmn]))
  have hmx : putM (putM m id l') nx l2 nx = some l2 := by simp [putM]
  have hvr : VR φ (putM (putM m id l') nx l2) (.osl nx 0 r.length r.length) (.slice ad r.length cap) := by
    simp only [VR]
    refine ⟨rfl, l2, hmx, Nat.le_refl _, fun _ => ⟨ad, by simp [l2], fun h0 => ?_⟩⟩
    have h0' : 0 < cap := h0
    obtain ⟨_, k, _⟩ := hb.resolve_left (by omega)
    rw [k]; simp [l2]
  have hr1 : ObR φ (putM (putM m id l') nx l2) w l' (.nar esz (es.set ix e') zs) := by
    refine ⟨by rw [show l'.top = l.top from rfl, hr.top]; simp [Ob.len], (fun _ e => by cases e), (fun _ _ _ e => by cases e), ⟨b1, b2, hws, by simpa using b4, fun x hx => b5 x (hmem.1 hx).1, vs, fun i => if i = ix * esz + off then none else F i, ⟨?_, fun i c v hci hvi => ?_, fun i j x h1 h2 => ?_, fun i hi2 => ?_⟩, fun i x h1 => ?_, .inr ⟨a, t, hh, hsz, hφ, by simpa using hvs⟩⟩⟩
    · rw [hfs, List.length_set]; exact hnr.1
    · show NRc φ _ w _ c v (if i = ix * esz + off then none else F i)
      rw [hfs, List.getElem?_set] at hci
      by_cases hik : i = ix * esz + off
      · rw [if_pos hik]
        rw [if_pos hik.symm] at hci
        split at hci
        · cases hci
          rw [hik, hcv] at hvi; cases hvi
          exact .inl ⟨rfl, hvr, rfl⟩
        · cases hci
      · rw [if_neg hik]
        rw [if_neg (fun e => hik e.symm)] at hci
        exact (hnr.2.1 i c v hci hvi).mono (FM.le_refl _) hext (fun _ _ => rfl)
    · dsimp only at h1 h2
      split at h1
      · cases h1
      · split at h2
        · cases h2
        · exact hnr.2.2.1 i j x h1 h2
    · dsimp only
      split
      · rfl
      · refine hnr.2.2.2 i ?_
        rw [hfs, List.length_set] at hi2; exact hi2
    · dsimp only at h1
      split at h1
      · cases h1
      · rename_i hik
        refine hmem.2 ⟨hF i x h1, ?_⟩
        rintro ⟨h0, rfl⟩
        obtain ⟨_, _, k, _⟩ := hb.resolve_left (by omega)
        exact hik (hnr.2.2.1 i _ x h1 k)
  have hr2 : ObR φ (putM (putM m id l') nx l2) w l2 (.arr (zs.getD off 0) r false) :=
    ⟨rfl, (fun _ e => by cases e), fun z' es'' ro' e => by
      cases e
      refine ⟨rfl, hz, fun e he => q2 hz e he, q1, ?_⟩
      rcases hb with h | ⟨h0, _, k2, a', t', k3, k4, k5⟩
      · exact .inl h.1
      · exact .inr ⟨a', t', k3, k4, by simpa using (b5 b (hbs h0)).1, k5⟩, trivial⟩
  obtain ⟨i1, f1⟩ := inv_split (l' := l') (l2 := l2) (ob' := .nar esz (es.set ix e') zs) (ob2 := .arr (zs.getD off 0) r false) hi hg hm hgn hmn rfl ⟨rfl, rfl, rfl⟩
    (fun x hx => by
      rcases hx with hx | hx
      · exact .inl hx
      · exact .inr (hmem.1 hx).1)
    (fun x hx => .inr (by obtain ⟨h0, rfl⟩ := hx; exact hbs h0))
    (fun x hx hx2 => by
      obtain ⟨h0, hxb⟩ := hx2
      rcases hx with hx | hx
      · exact (b5 b (hbs h0)).2.2 hcap0 (by rw [hx.2]; exact hxb)
      · exact (hmem.1 hx).2 ⟨h0, hxb.symm⟩) hr1 hr2
  exact ⟨φ, _, hvr, i1, f1, fun i hi2 hmi => by
    have h1 : i ≠ id := by rintro rfl; rw [hm] at hmi; cases hmi
    have h2 : i ≠ nx := by
      rintro rfl
      rcases hi2 with h | h
      · simp at h; omega
      · simp [lkp, hne] at h
    simp [putM, h1, h2, hmi]⟩
theorem brwL_keys {zs : List Nat} : ∀ {suf ds : List AV} {wr : Hp} {k nx n : Nat}, brwL zs suf k nx = some (ds, wr, n) → nx ≤ n ∧ (∀ i o, lkp wr i = some o → nx ≤ i ∧ i < n) ∧ plainL ds = true ∧ ds.length = suf.length
  | [], ds, wr, k, nx, n, h => by
    simp only [brwL, Option.some.injEq, Prod.mk.injEq] at h
    obtain ⟨rfl, rfl, rfl⟩ := h
    exact ⟨Nat.le_refl _, fun i o h => by simp [lkp] at h, rfl, rfl⟩
  | c :: cs, ds, wr, k, nx, n, h => by
    have pl : ∀ c', (if plain c' = true then (brwL zs cs (k + 1) nx).map fun x => (c' :: x.1, x.2.1, x.2.2) else none) = some (ds, wr, n) → nx ≤ n ∧ (∀ i o, lkp wr i = some o → nx ≤ i ∧ i < n) ∧ plainL ds = true ∧ ds.length = (c :: cs).length := fun c' h => by
      split at h
      · rename_i hp
        obtain ⟨⟨d, w', n'⟩, h1, h2⟩ := Option.map_eq_some_iff.1 h
        cases h2
        obtain ⟨i1, i2, i3, i4⟩ := brwL_keys h1
        exact ⟨i1, i2, by simp [plainL, hp, i3], by simp [i4]⟩
      · cases h
    by_cases hf : ∃ r, c = .fsl r
    · obtain ⟨r, rfl⟩ := hf
      simp only [brwL] at h
      split at h
      · obtain ⟨⟨d, w', n'⟩, h1, h2⟩ := Option.map_eq_some_iff.1 h
        cases h2
        obtain ⟨i1, i2, i3, i4⟩ := brwL_keys h1
        dsimp only at *
        refine ⟨by omega, fun i o h => ?_, by simp [plainL, plain, i3], by simp [i4]⟩
        simp only [lkp] at h
        split at h
        · rename_i e; subst e; omega
        · have := i2 i o h; omega
      · cases h
    · refine pl c ?_
      cases c <;> first | exact (hf ⟨_, rfl⟩).elim | exact h
theorem brwL_plain {zs : List Nat} {c : AV} {cs : List AV} {k nx : Nat} (hf : ∀ r, c ≠ .fsl r) : brwL zs (c :: cs) k nx = if plain c = true then (brwL zs cs (k + 1) nx).map fun x => (c :: x.1, x.2.1, x.2.2) else none := by
  cases c <;> first | exact (hf _ rfl).elim | rfl
theorem brw_chain {id ix esz : Nat} {zs : List Nat} : ∀ (suf pre ds es : List AV) (wr : Hp) (n nx : Nat) (φ : FM) (g : Nat → Option Ob) (m : LM), Inv φ m g w → g id = some (.nar esz es zs) → es[ix]? = some (.agg (pre ++ suf)) → brwL zs suf pre.length nx = some (ds, wr, n) →
    (∀ i, nx ≤ i → i < n → g i = none ∧ m i = none) →
    ∃ φ' m', Inv φ' m' (upd g ((id, .nar esz (es.set ix (.agg (pre ++ ds))) zs) :: wr)) w ∧ Fr φ m g w φ' m' (upd g ((id, .nar esz (es.set ix (.agg (pre ++ ds))) zs) :: wr)) w ∧
      ∀ i, (n ≤ i ∨ lkp ((id, Ob.nar esz (es.set ix (.agg (pre ++ ds))) zs) :: wr) i = none) → m i = none → m' i = none
  | [], pre, ds, es, wr, n, nx, φ, g, m, hi, hg, he, h, hf => by
    simp only [brwL, Option.some.injEq, Prod.mk.injEq] at h
    obtain ⟨rfl, rfl, rfl⟩ := h
    have hs : es.set ix (.agg (pre ++ [])) = es := List.ext_getElem? fun i => by
      rw [List.getElem?_set]
      split
      · rename_i e; subst e
        rw [if_pos (List.getElem?_eq_some_iff.1 he).1, he]
      · rfl
    rw [hs]
    have hu : upd g [(id, .nar esz es zs)] = g := by
      funext i; rw [upd_one]; split
      · rename_i e; subst e; exact hg.symm
      · rfl
    rw [hu]
    exact ⟨φ, m, hi, Fr.refl .., fun _ _ h => h⟩
  | c :: cs, pre, ds, es, wr, n, nx, φ, g, m, hi, hg, he, h, hf => by
    by_cases hfs : ∃ r, c = .fsl r
    · obtain ⟨r, rfl⟩ := hfs
      simp only [brwL] at h
      split at h
      case isFalse => cases h
      rename_i hz
      obtain ⟨⟨d, wr', n'⟩, h1, h2⟩ := Option.map_eq_some_iff.1 h
      cases h2
      dsimp only at *
      obtain ⟨j1, j2, j3, j4⟩ := brwL_keys h1
      obtain ⟨hgn, hmn⟩ := hf nx (Nat.le_refl _) (by omega)
      have hne : id ≠ nx := by rintro rfl; rw [hg] at hgn; cases hgn
      obtain ⟨l, hm, hr⟩ := hi.own id _ hg
      obtain ⟨b1, b2, b3, b4, b5, vs, F, b6, b7, b8⟩ := hr.oth
      have hlt : ix < es.length := (List.getElem?_eq_some_iff.1 he).1
      obtain ⟨a, t, c1, c2, c3, c4⟩ := b8.resolve_left (by omega)
      have hel := b3 _ (List.mem_of_getElem? he)
      have hoff : pre.length < esz := by
        have := hel.1
        simp only [AV.cells, List.length_append, List.length_cons] at this; omega
      have hx0 : ix * esz + pre.length < vs.length := by
        rw [b6.1, flat_len (fun e he => (b3 e he).1)]
        have : (ix + 1) * esz ≤ es.length * esz := Nat.mul_le_mul_right _ hlt
        rw [Nat.succ_mul] at this; omega
      obtain ⟨x, hx⟩ : ∃ x, x = AV.osl nx 0 r.length r.length := ⟨_, rfl⟩
      obtain ⟨es1, hes1⟩ : ∃ es1, es1 = es.set ix (.agg ((pre ++ [x]) ++ cs)) := ⟨_, rfl⟩
      have hsv : sve (.agg (pre ++ .fsl r :: cs)) pre.length [.osl nx 0 r.length r.length] = some (.agg ((pre ++ [x]) ++ cs)) := by
        simp only [sve]
        rw [if_pos (by simp), hx]
        simp [spl]
      have hb : Brw φ m g w nx ⟨.osl nx 0 r.length r.length, [id], [(id, .nar esz es1 zs), (nx, .arr (zs.getD pre.length 0) r false)], nx + 1⟩ (vs[ix * esz + pre.length]) :=
        ⟨id, ix, pre.length, esz, es, zs, _, r, _, l, a, t, vs, F, hg, hm, he, by simp [AV.cells], hoff, hsv, hz, c1, c2, c3, c4, b6, b7, List.getElem?_eq_getElem hx0, by rw [hes1]⟩
      obtain ⟨φ1, m1, _, i1, f1, n1⟩ := brw_post hb hi hgn hmn
      dsimp only at i1 f1 n1
      have hg1 : upd g [(id, .nar esz es1 zs), (nx, .arr (zs.getD pre.length 0) r false)] id = some (.nar esz es1 zs) := by rw [upd_two, if_pos rfl]
      have he1 : es1[ix]? = some (.agg ((pre ++ [x]) ++ cs)) := by rw [hes1, List.getElem?_set_self hlt]
      obtain ⟨φ2, m2, k1, k2, k3⟩ := brw_chain cs (pre ++ [x]) d es1 wr' _ (nx + 1) φ1 _ m1 i1 hg1 he1 (by rw [List.length_append, List.length_singleton]; exact h1) (fun i q1 q2 => by
        obtain ⟨p1, p2⟩ := hf i (by omega) q2
        refine ⟨?_, n1 i (.inl q1) p2⟩
        rw [upd_two, if_neg (by rintro rfl; rw [hg] at p1; cases p1), if_neg (by omega)]; exact p1)
      have hset : es1.set ix (.agg ((pre ++ [x]) ++ d)) = es.set ix (.agg (pre ++ (x :: d))) := by rw [hes1, List.set_set]; simp
      rw [hset] at k1 k2 k3
      have hu : upd (upd g [(id, .nar esz es1 zs), (nx, .arr (zs.getD pre.length 0) r false)]) ((id, .nar esz (es.set ix (.agg (pre ++ (x :: d)))) zs) :: wr') = upd g ((id, .nar esz (es.set ix (.agg (pre ++ (x :: d)))) zs) :: (nx, .arr (zs.getD pre.length 0) r false) :: wr') := by
        funext i
        by_cases e : id = i
        · subst e; simp [upd, lkp]
        · simp only [upd, lkp, if_neg e]
          by_cases e2 : nx = i
          · subst e2
            cases hq : lkp wr' nx with
            | none => simp
            | some o => have := j2 _ _ hq; omega
          · simp only [if_neg e2]
      rw [hu] at k1 k2
      rw [← hx]
      refine ⟨φ2, m2, k1, f1.trans k2, fun i q1 q2 => ?_⟩
      have q3 : m1 i = none := n1 i (by
        rcases q1 with q1 | q1
        · exact .inl (by omega)
        · refine .inr ?_
          simp only [lkp] at q1 ⊢
          split at q1
          · cases q1
          · rename_i e; rw [if_neg e]
            split at q1
            · cases q1
            · rename_i e2; rw [if_neg e2]) q2
      refine k3 i ?_ q3
      rcases q1 with q1 | q1
      · exact .inl q1
      · refine .inr ?_
        simp only [lkp] at q1 ⊢
        split at q1
        · cases q1
        · rename_i e; rw [if_neg e]
          split at q1
          · cases q1
          · exact q1
    · rw [brwL_plain (fun r hr => hfs ⟨r, hr⟩)] at h
      split at h
      case isFalse => cases h
      obtain ⟨⟨d, wr', n'⟩, h1, h2⟩ := Option.map_eq_some_iff.1 h
      cases h2
      have := brw_chain cs (pre ++ [c]) d es wr' _ nx φ g m hi hg (by simpa using he) (by rw [List.length_append, List.length_singleton]; exact h1) hf
      simpa using this
/-- All rows of an element taken out: what it leaves. -/
theorem brwM_post {nx : Nat} {e : Eff} {cv : Value} (h : BrwM φ m g w nx e cv) (hi : Inv φ m g w) (hf : ∀ i, nx ≤ i → i < e.nx → g i = none ∧ m i = none) : Post φ m g w e cv w := by
  obtain ⟨id, ix, esz, es, zs, cs, ds, wr, n, l, vs, F, arr, a, t, hg, hm, he, hb, _, hh, hvs, hnr, rfl, harr, rfl⟩ := h
  obtain ⟨j1, j2, j3, j4⟩ := brwL_keys hb
  obtain ⟨φ', m', k1, k2, k3⟩ := brw_chain cs [] ds es wr n nx φ g m hi hg he hb hf
  rw [List.nil_append] at k1 k2 k3
  refine ⟨φ', m', ?_, k1, k2, k3⟩
  have hg' : upd g ((id, .nar esz (es.set ix (.agg ds)) zs) :: wr) id = some (.nar esz (es.set ix (.agg ds)) zs) := by simp [upd, lkp]
  obtain ⟨l0, hm0, hr0⟩ := hi.own id _ hg
  rw [hm] at hm0; cases hm0
  obtain ⟨l', hm', hr'⟩ := k1.own id _ hg'
  obtain ⟨l2, q1, q2, q3⟩ := k2.ext id l hm
  rw [hm'] at q1; cases q1
  obtain ⟨q4, q5, q6⟩ := q3 (by rw [hr'.top, hr0.top]; simp [Ob.len])
  obtain ⟨b1, b2, b3, b4, b5, vs', F', b6, b7, b8⟩ := hr'.oth
  have hlt : ix < es.length := (List.getElem?_eq_some_iff.1 he).1
  have hls : (es.set ix (.agg ds)).length = es.length := by simp
  obtain ⟨a', t', c1, c2, c3, c4⟩ := b8.resolve_left (by omega)
  rw [q4, hh] at c1
  cases c1
  rw [hls, hvs] at c4
  subst c4
  have hse : (es.set ix (.agg ds))[ix]? = some (.agg ds) := List.getElem?_set_self hlt
  have hwe := b3 _ (List.mem_of_getElem? hse)
  have hdl : ds.length = esz := hwe.1
  simp only [VR]
  refine ⟨hwe.2, arr, rfl, ?_⟩
  rw [harr]
  have hvl : vs.length = es.length * esz := by rw [b6.1, flat_len (fun e he => (b3 e he).1), hls]
  refine VRL_of ?_ fun j c v h1 h2 => ?_
  · rw [List.length_take, List.length_drop, hdl]
    have : (ix + 1) * esz ≤ es.length * esz := Nat.mul_le_mul_right _ hlt
    rw [Nat.succ_mul] at this; omega
  · have hj : j < esz := by rw [← hdl]; exact (List.getElem?_eq_some_iff.1 h1).1
    rw [List.getElem?_take, if_pos hj, List.getElem?_drop] at h2
    have hc : ((es.set ix (.agg ds)).flatMap AV.cells)[ix * esz + j]? = some c := by rw [flat_at (fun e he => (b3 e he).1) hse hj]; exact h1
    obtain ⟨v2, r1, r2, _⟩ := NR_plain b6 hc (plainL_iff.1 j3 c (List.mem_of_getElem? h1))
    rw [h2] at r1; cases r1
    exact r2
theorem app_grow2 {t t2 ty e : TypeId} {i : TypeInfo} {z : Value} (hu : P.underlying t = some (.slice e)) (hinf : P.info? e = some i) (hz : i.zero = some z)
    {base : Option Addr} {sLen sCap n : Nat} {olds news : List Value} {cx : Value} (hzc : z.cells.size = i.size)
    (hold : (Builtin.firstCells i.size sLen (.slice base sLen sCap)).run P w.drew = .ok olds.toArray w.drew) (hol : olds.length = sLen * i.size)
    (hs : Src P i.size t2 cx n news w)
    (hgrow : sCap < sLen + n) (hroom : (sLen + n) * i.bytes ≤ room) (hbytes : i.bytes ≤ 1048576) (hb0 : 0 < i.bytes) :
    ∃ a cap, (Builtin.append_ #[t, t2] ty #[.slice base sLen sCap, cx]).run P w = .ok (.slice (some ⟨w.heap.size, 0, none⟩) (sLen + n) cap) (w.drew.alloc (.cells a e)) ∧
      a.size = cap * i.size ∧ sLen + n ≤ cap ∧ a.toList.take ((sLen + n) * i.size) = olds ++ news := by
  have h63 : ((sLen + n : Nat) : Int) ≤ 9223372036854775807 := by
    have : sLen + n ≤ (sLen + n) * i.bytes := Nat.le_mul_of_pos_right _ hb0
    unfold room at hroom; omega
  have hrun := run_append_grow_src (P := P) w t t2 ty e i z hu hinf hz base sLen sCap olds hold cx n news hs hgrow h63 (fit_of hroom hgrow (by omega))
  have hge : sLen + n ≤ grownCap w (sLen + n) sCap e := by unfold grownCap; simp [Question.cut]
  have hnl := hs.newsLen
  refine ⟨_, _, hrun, ?_, hge, ?_⟩
  · simp only [Array.size_append, List.size_toArray, List.length_append, Builtin.zeroCells, Array.size_map, Array.size_range, hol, hnl, hzc]
    rw [← Nat.add_mul, ← Nat.add_mul]
    congr 1; omega
  · have hl : (sLen + n) * i.size = (olds ++ news).length := by simp [hol, hnl, Nat.add_mul]
    rw [hl]
    simp only [Array.toList_append, List.take_left]

/-- Two rows with rows in them, one behind the other. -/
theorem NR.app {m' : LM} {w' : World} {esz : Nat} {zs : List Nat} {cs cs2 : List AV} {vs vs2 : List Value} {F F2 : Nat → Option Nat} (h : NR φ m w esz zs cs vs F) (h2 : NR φ m w esz zs cs2 vs2 F2) (hd : ∀ i j b, F i = some b → F2 j = some b → False)
    (hm : Ext m m') (hw : ∀ i b, F i = some b ∨ F2 i = some b → w'.heap[b]? = w.heap[b]?) (hmul : cs.length % esz = 0) (hpos : 0 < esz) :
    NR φ m' w' esz zs (cs ++ cs2) (vs ++ vs2) (fun i => if i < cs.length then F i else F2 (i - cs.length)) := by
  refine ⟨by simp [h.1, h2.1], fun i c v hc hv => ?_, fun i j b h3 h4 => ?_, fun i hi => ?_⟩
  · show NRc φ m' w' _ c v (if i < cs.length then F i else F2 (i - cs.length))
    by_cases hi : i < cs.length
    · rw [List.getElem?_append_left hi] at hc
      rw [List.getElem?_append_left (by rw [h.1]; exact hi)] at hv
      rw [if_pos hi]
      exact (h.2.1 i c v hc hv).mono (FM.le_refl _) hm (fun b hF => hw i b (.inl hF))
    · rw [List.getElem?_append_right (by omega)] at hc
      rw [List.getElem?_append_right (by rw [h.1]; omega), h.1] at hv
      rw [if_neg hi]
      have := (h2.2.1 (i - cs.length) c v hc hv).mono (FM.le_refl _) hm (fun b hF => hw _ b (.inr hF))
      have e : (i - cs.length) % esz = i % esz := by
        obtain ⟨k, hk⟩ := Nat.dvd_of_mod_eq_zero hmul
        rw [hk]
        have : i = i - esz * k + esz * k := by omega
        conv => rhs; rw [this, Nat.add_mul_mod_self_left]
      rw [e] at this; exact this
  · dsimp only at h3 h4
    split at h3 <;> split at h4
    · exact h.2.2.1 i j b h3 h4
    · exact (hd _ _ b h3 h4).elim
    · exact (hd _ _ b h4 h3).elim
    · have := h2.2.2.1 _ _ b h3 h4; omega
  · simp only [List.length_append] at hi
    dsimp only
    rw [if_neg (by omega)]
    exact h2.2.2.2 _ (by omega)

/-- What a whole row with rows in it holds, as a source. -/
theorem nar_src (hi : Inv φ m g w) {id esz : Nat} {es : List AV} {zs : List Nat} {t2 : TypeId} {cx : Value} (hk : srcTy P t2 = true) (hg : g id = some (.nar esz es zs)) (hx : VR φ m (.osl id 0 es.length es.length) cx) (h0 : 0 < es.length) :
    ∃ l a t vs F, m id = some l ∧ w.heap[l.blk]? = some (.cells a t (0, 0)) ∧ a.toList.take (es.length * esz) = vs ∧ NR φ m w esz zs (es.flatMap AV.cells) vs F ∧ (∀ i b, F i = some b → b ∈ l.sub) ∧ Src P esz t2 cx es.length vs w := by
  simp only [VR] at hx
  obtain ⟨_, l, hm, _, hv⟩ := hx
  obtain ⟨l', hm', hr⟩ := hi.own id _ hg
  rw [hm] at hm'; cases hm'
  obtain ⟨ad, rfl, had⟩ := hv (by rw [hr.top]; rfl)
  obtain ⟨b1, b2, b3, b4, b5, vs, F, b6, b7, b8⟩ := hr.oth
  obtain ⟨a, t, c1, c2, c3, c4⟩ := b8.resolve_left (by omega)
  have had' := had (by omega)
  subst had'
  have hlen : vs.length = es.length * esz := by rw [b6.1, flat_len (fun e he => (b3 e he).1)]
  have hone : ∀ v ∈ vs, v.oneCell' = true := by
    intro v hv
    obtain ⟨i, hiv⟩ := List.mem_iff_getElem?.1 hv
    have hlt : i < (es.flatMap AV.cells).length := by rw [← b6.1]; exact (List.getElem?_eq_some_iff.1 hiv).1
    have hc := List.getElem?_eq_getElem hlt
    refine (b6.2.1 i _ v hc hiv).one ?_
    obtain ⟨e, he, hce⟩ := List.mem_flatMap.1 (List.mem_of_getElem? hc)
    exact (List.all_eq_true.1 (b3 e he).2) _ hce
  refine ⟨l, a, t, vs, F, hm, c1, c4, b6, b7, ?_⟩
  have hcells : ∀ w' : World, w'.heap = w.heap → (Builtin.firstCells esz es.length (.slice (some ⟨l.blk, 0 * l.esz, none⟩) es.length (l.cap - 0))).run P w' = .ok vs.toArray w' := by
    intro w' hw'
    simp only [Builtin.firstCells, Nat.zero_mul]
    refine loadCells_vals hlen fun j v hj => ?_
    have c1' : w'.heap[l.blk]? = some (.cells a t (0, 0)) := by rw [hw']; exact c1
    rw [cell_at c1', Nat.zero_add]
    rw [← c4, List.getElem?_take] at hj
    split at hj
    · simpa using hj
    · cases hj
  exact ⟨srcTy_kind hk, fun _ => rfl, hcells w rfl, hcells w.drew rfl, hlen, hone⟩

theorem nap_sound {t t2 ty : TypeId} {s x : AV} {cs cx : Value} {nx : Nat} {e : Eff} {gi : Nat → Option Ob} (h : napA P t t2 s x gi nx = some e) (hg : ∀ i ∈ e.rd, g i = gi i) (hi : Inv φ m g w) (hs : VR φ m s cs) (hx : VR φ m x cx) :
    ∃ cv w', (Builtin.append_ #[t, t2] ty #[cs, cx]).run P w = .ok cv w' ∧ Post φ m g w e cv w' := by
  unfold napA at h
  split at h
  · cases h
  rename_i el ts bytes hel
  split at h
  · cases h
  rename_i hk
  simp only [Bool.not_eq_true, Bool.not_eq_false'] at hk
  split at h
  · cases h
  rename_i z hz
  split at h
  · cases h
  rename_i hzb
  obtain ⟨hu, hts, i, hinf, hisz, hib, hipos⟩ := elt_some hel
  obtain ⟨i', zv, hinf', hzv, rfl, hzrun⟩ := zer_run hz w
  rw [hinf] at hinf'; cases hinf'
  have hzone : (ofV zv).cells.all AV.one = true := by
    cases hq : (ofV zv).cells.all AV.one with
    | true => rfl
    | false => exact absurd (.inr (.inr (.inr hq))) hzb
  have hzc : zv.cells.size = i.size := by
    have := VRL_len (ofV_cells (φ := φ) (m := m) hzone)
    simp only [Array.length_toList] at this
    omega
  have hb0 : 0 < i.bytes := by omega
  have hbl : i.bytes ≤ 1048576 := by omega
  split at h
  · rename_i id off len tot id2 off2 len2 tot2
    split at h
    · rename_i esz es zs esz2 es2 zs2 hgi hgi2
      split at h
      · rename_i hb
        obtain ⟨⟨⟨q1, q2, rfl⟩, rfl, rfl, rfl, rfl, rfl, rfl⟩, q9, hne, q11⟩ := hb
        simp only [Option.some.injEq] at h; subst h
        have hgid := (hg id (by simp)).trans hgi
        have hgid2 := (hg id2 (by simp)).trans hgi2
        have hesi : esz = i.size := by omega
        have hesi2 : esz2 = esz := by omega
        subst hesi2
        obtain ⟨l2, a2, t2', vs2, F2, hm2, hh2, hvs2, hnr2, hF2, hS⟩ := nar_src hi hk hgid2 hx q9
        obtain ⟨l2', hm2', hr2⟩ := hi.own id2 _ hgid2
        rw [hm2] at hm2'; cases hm2'
        obtain ⟨_, _, e3, e4, e5, _⟩ := hr2.oth
        simp only [VR] at hs
        obtain ⟨_, l, hm, _, hv⟩ := hs
        obtain ⟨l', hm', hr⟩ := hi.own id _ hgid
        rw [hm] at hm'; cases hm'
        obtain ⟨ad, rfl, had⟩ := hv (by rw [hr.top]; rfl)
        obtain ⟨b1, b2, b3, b4, b5, vs, F, b6, b7, b8⟩ := hr.oth
        have hw : ∀ e ∈ es ++ es2, e.cells.length = esz2 ∧ e.cells.all AV.one = true := fun e he => by
          rcases List.mem_append.1 he with h1 | h1
          · exact b3 e h1
          · exact e3 e h1
        have hnl := hS.newsLen
        have hfl : (es.flatMap AV.cells).length = es.length * esz2 := flat_len (fun e he => (b3 e he).1)
        have hvl : vs.length = es.length * esz2 := by rw [b6.1, hfl]
        have hlt2 : ∀ b, b ∈ l2.sub → b < w.heap.size := fun b hb => hi.ltB hgid2 hm2 (.inr hb)
        have hlt1 : ∀ b, b ∈ l.sub → b < w.heap.size := fun b hb => hi.ltB hgid hm (.inr hb)
        have hdis : ∀ i j b, F i = some b → F2 j = some b → False := fun i j b h1 h2 => hi.sep _ _ _ _ _ _ b hgid hgid2 hm hm2 hne (.inr (b7 i b h1)) (.inr (hF2 j b h2))
        have hφ1 : ∀ b, (Ob.nar esz2 es zs).fp l b → φ b = none := fun b hb => by
          rcases hb with ⟨h0, rfl⟩ | hb
          · obtain ⟨a, te, c1, c2, c3, c4⟩ := b8.resolve_left (by omega)
            exact c3
          · exact (b5 b hb).1
        have hmod : (es.flatMap AV.cells).length % esz2 = 0 := by rw [hfl]; exact Nat.mul_mod_left _ _
        have hnone : ∀ (l' : Loc) (j : Nat), m j = none → putM m id l' j = none := fun l' j hj => by
          have hji : j ≠ id := by rintro rfl; rw [hm] at hj; cases hj
          simp only [putM, if_neg hji]; exact hj
        by_cases hcap : es.length + es2.length ≤ l.cap
        · obtain ⟨a, te, c1, c2, c3, c4⟩ := b8.resolve_left (by omega)
          have had' : ad = some ⟨l.blk, 0, none⟩ := by rw [had (by omega), Nat.zero_mul]
          subst had'
          have hmul : (es.length + es2.length) * esz2 ≤ l.cap * esz2 := Nat.mul_le_mul_right _ hcap
          rw [Nat.add_mul] at hmul
          have hS' := hS
          rw [hesi] at hS'
          have hroomle : 0 + es.length * i.size + vs2.length ≤ a.size := by
            rw [hnl, ← hesi, c2]; omega
          have hrun := run_append_room_at (P := P) (ty := ty) (o0 := 0) (sLen := es.length) (sCap := l.cap - 0) hu hinf hS' (by omega) c1 hroomle
          simp only [Nat.zero_add, ← hesi] at hrun
          let l' : Loc := ⟨l.blk, l.esz, l.cap, es.length + es2.length, l.sub ++ l2.sub⟩
          have hext : Ext m (putM m id l') := Ext.put1 hm (by rw [hr.top]; simp [l', Ob.len]) (fun _ => ⟨rfl, rfl, rfl⟩)
          have hal : a.toList.length = l.cap * esz2 := by simpa using c2
          have hcap0 : 0 < l.cap := by omega
          have hnb : ∀ b, b ∈ l.sub ∨ b ∈ l2.sub → b ≠ l.blk := fun b hb => by
            rcases hb with hb | hb
            · exact (b5 b hb).2.2 hcap0
            · rintro rfl
              exact hi.sep _ _ _ _ _ _ _ hgid hgid2 hm hm2 hne (.inl ⟨hcap0, rfl⟩) (.inr hb)
          obtain ⟨W, hW⟩ : ∃ W, W = w.setRow l.blk (a.toList.take (es.length * esz2) ++ vs2 ++ a.toList.drop (es.length * esz2 + vs2.length)).toArray := ⟨_, rfl⟩
          have hold : ∀ b, b ≠ l.blk → W.heap[b]? = w.heap[b]? := fun b hb => by rw [hW]; exact setRow_other _ _ _ hb
          have hrep := inv_absorb (w' := W) (n := es2.length) (l' := l') (ob' := .nar esz2 (es ++ es2) zs) hi hgid hm hgid2 hm2 hne rfl (by rw [hr.top]; simp [l', Ob.len]) (fun _ => ⟨rfl, rfl, rfl⟩)
            (fun b hb => by
              rcases hb with hb | hb
              · exact .inl (.inl hb)
              · rcases List.mem_append.1 hb with hb | hb
                · exact .inl (.inr hb)
                · exact .inr (.inl (.inr hb))) (by rw [hW]; rfl) (by rw [hW]; rfl) (by rw [hW]; rfl) (by rw [hW, setRow_size]; exact Nat.le_refl _) (fun b _ hn => hold b (fun e => hn (.inl ⟨hcap0, e.symm⟩))) hφ1
            ⟨by simp [l', Ob.len], (fun _ e => by cases e), (fun _ _ _ e => by cases e), ⟨b1, b2, hw, by simp [l']; omega, fun b hb => by
                rcases List.mem_append.1 hb with hb | hb
                · obtain ⟨d1, d2, d3⟩ := b5 b hb
                  exact ⟨d1, by rw [hold b (hnb b (.inl hb))]; exact d2, d3⟩
                · obtain ⟨d1, d2, d3⟩ := e5 b hb
                  exact ⟨d1, by rw [hold b (hnb b (.inr hb))]; exact d2, fun _ => hnb b (.inr hb)⟩,
              vs ++ vs2, _, by
                rw [List.flatMap_append]
                exact NR.app b6 hnr2 hdis hext (fun i b hb => hold b (hnb b (hb.imp (b7 i b) (hF2 i b)))) hmod b2, fun i b hb => by
                  have hb' : (if i < (es.flatMap AV.cells).length then F i else F2 (i - (es.flatMap AV.cells).length)) = some b := hb
                  split at hb'
                  · exact List.mem_append.2 (.inl (b7 _ b hb'))
                  · exact List.mem_append.2 (.inr (hF2 _ b hb')), .inr ⟨_, te, by rw [hW]; exact setRow_heap' c1 _, by
                show _ = l.cap * esz2
                simp only [List.size_toArray, List.length_append, List.length_take, List.length_drop, hal, hnl]
                omega, c3, by
                have hlt : (a.toList.take (es.length * esz2)).length = es.length * esz2 := by rw [List.length_take, hal]; omega
                have hlt2 : (es ++ es2).length * esz2 = (a.toList.take (es.length * esz2) ++ vs2).length := by rw [List.length_append (as := a.toList.take (es.length * esz2)), hlt, hnl, List.length_append, Nat.add_mul]
                rw [hlt2]
                show (a.toList.take (es.length * esz2) ++ vs2 ++ _).take _ = _
                rw [List.take_left, c4]⟩⟩⟩
          rw [← hW] at hrun
          have hvr : VR φ (putM m id l') (.osl id 0 (es.length + es2.length) (es.length + es2.length)) (.slice (some ⟨l.blk, 0, none⟩) (es.length + es2.length) (l.cap - 0)) := by
            simp only [VR]
            refine ⟨rfl, l', if_pos rfl, Nat.le_refl _, fun _ => ⟨some ⟨l.blk, 0, none⟩, rfl, fun _ => ?_⟩⟩
            show some (⟨l.blk, 0, none⟩ : Addr) = some ⟨l.blk, 0 * l.esz, none⟩
            rw [Nat.zero_mul]
          exact ⟨_, W, hrun, φ, putM m id l', hvr, hrep.1, hrep.2, fun j _ hj => hnone _ j hj⟩
        · have hold : (Builtin.firstCells i.size es.length (.slice ad es.length (l.cap - 0))).run P w.drew = .ok vs.toArray w.drew := by
            by_cases hc : 0 < l.cap
            · obtain ⟨a, te, c1, c2, c3, c4⟩ := b8.resolve_left (by omega)
              have had' := had (by omega)
              subst had'
              simp only [Builtin.firstCells, Nat.zero_mul]
              refine loadCells_vals (w := w.drew) (by rw [hvl, hesi]) fun j v hj => ?_
              have : w.drew.cell? ⟨l.blk, 0 + j, none⟩ = w.cell? ⟨l.blk, 0 + j, none⟩ := rfl
              rw [this, cell_at c1]
              rw [← c4, List.getElem?_take] at hj
              split at hj
              · simpa using hj
              · cases hj
            · have he0 : es = [] := List.eq_nil_of_length_eq_zero (by omega)
              have hv0 : vs = [] := List.eq_nil_of_length_eq_zero (by rw [hvl, he0]; simp)
              rw [he0, hv0]
              cases ad <;> simp [Builtin.firstCells, loadCells, loadCellsFrom]
          have hS' := hS
          rw [hesi] at hS'
          obtain ⟨a, cap, r1, r2, r3, r4⟩ := app_grow2 (ty := ty) (base := ad) (sLen := es.length) (sCap := l.cap - 0) (n := es2.length) hu hinf hzv hzc hold (by rw [hvl, hesi]) hS' (by omega) (by rw [hib]; exact q11) hbl hb0
          let l' : Loc := ⟨w.heap.size, esz2, cap, es.length + es2.length, l.sub ++ l2.sub⟩
          have htop : l'.top ≠ l.top := by
            have e3 : l.top = es.length := hr.top
            simp only [l']; omega
          have hext : Ext m (putM m id l') := Ext.put1 hm (by rw [hr.top]; simp [l', Ob.len]) (fun e => absurd e htop)
          have hk2 : ∀ b, b < w.heap.size → (w.drew.alloc (.cells a el)).heap[b]? = w.heap[b]? := fun b hb => by
            show (w.heap.push _)[b]? = _
            rw [Array.getElem?_push, if_neg (by omega)]
          have hsb : ∀ b, b ∈ l.sub ∨ b ∈ l2.sub → b < w.heap.size := fun b hb => hb.elim (hlt1 b) (hlt2 b)
          have hrep := inv_absorb (w' := w.drew.alloc (.cells a el)) (n := es2.length) (l' := l') (ob' := .nar esz2 (es ++ es2) zs) hi hgid hm hgid2 hm2 hne rfl (by rw [hr.top]; simp [l', Ob.len]) (fun e => absurd e htop)
            (fun b hb => by
              rcases hb with hb | hb
              · exact .inr (.inr (by rw [← hb.2]; exact Nat.le_refl _))
              · rcases List.mem_append.1 hb with hb | hb
                · exact .inl (.inr hb)
                · exact .inr (.inl (.inr hb))) rfl rfl rfl (by simp) (fun b hb _ => hk2 b hb) hφ1
            ⟨by simp [l', Ob.len], (fun _ e => by cases e), (fun _ _ _ e => by cases e), ⟨rfl, b2, hw, by simp [l']; omega, fun b hb => by
                rcases List.mem_append.1 hb with hb | hb
                · obtain ⟨d1, d2, d3⟩ := b5 b hb
                  exact ⟨d1, by rw [hk2 b (hlt1 b hb)]; exact d2, fun _ e => by have := hlt1 b hb; simp only [l'] at e; omega⟩
                · obtain ⟨d1, d2, d3⟩ := e5 b hb
                  exact ⟨d1, by rw [hk2 b (hlt2 b hb)]; exact d2, fun _ e => by have := hlt2 b hb; simp only [l'] at e; omega⟩,
              vs ++ vs2, _, by
                rw [List.flatMap_append]
                exact NR.app b6 hnr2 hdis hext (fun i b hb => hk2 b (hsb b (hb.imp (b7 i b) (hF2 i b)))) hmod b2, fun i b hb => by
                  have hb' : (if i < (es.flatMap AV.cells).length then F i else F2 (i - (es.flatMap AV.cells).length)) = some b := hb
                  split at hb'
                  · exact List.mem_append.2 (.inl (b7 _ b hb'))
                  · exact List.mem_append.2 (.inr (hF2 _ b hb')), .inr ⟨a, el, by
                show (w.heap.push _)[w.heap.size]? = _
                simp, by rw [r2, hesi], by
                cases hp : φ w.heap.size with
                | none => rfl
                | some o => have := (Array.getElem?_eq_some_iff.1 (hi.fz _ _ hp)).1; simp at this, by rw [List.length_append, hesi]; exact r4⟩⟩⟩
          have hvr : VR φ (putM m id l') (.osl id 0 (es.length + es2.length) (es.length + es2.length)) (.slice (some ⟨w.heap.size, 0, none⟩) (es.length + es2.length) cap) := by
            simp only [VR]
            refine ⟨rfl, l', if_pos rfl, Nat.le_refl _, fun _ => ⟨some ⟨w.heap.size, 0, none⟩, rfl, fun _ => ?_⟩⟩
            show some (⟨w.heap.size, 0, none⟩ : Addr) = some ⟨w.heap.size, 0 * esz2, none⟩
            rw [Nat.zero_mul]
          exact ⟨_, _, r1, φ, putM m id l', hvr, hrep.1, hrep.2, fun j _ hj => hnone _ j hj⟩
      · cases h
    · cases h
  · cases h
end
end Go.Proofs.YtapchldnmkfkoabDoor.Am
