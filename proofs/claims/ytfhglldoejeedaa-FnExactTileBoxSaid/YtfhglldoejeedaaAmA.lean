import Derived.Below
import Derived.Orders
namespace Go.Proofs.Ytfhglldoejeedaa.Am
open Go

/-- A value as the abstract machine has it: frozen slices and frozen pointers bear what they hold; own ones a number. -/
inductive AV where
  | any
  | bool (b : Bool)
  | int (k : IntKind) (n : Int)
  | str (s : ByteArray)
  | agg (cs : List AV)
  | tup (vs : List AV)
  | fsl (els : List AV)
  | fptr (cs : List AV) (off : Nat)
  | osl (id off len tot : Nat)
  | optr (id off tot : Nat)
  | eptr (id ix off tot : Nat)
  | func (fn : Fn) (first cap : List AV)
  | nilf | nilp | nilsl | nili
  deriving Inhabited

/-- The cells of a value. -/
def AV.cells : AV → List AV
  | .agg cs => cs
  | v => [v]

def AV.one : AV → Bool
  | .any | .agg _ | .tup _ => false
  | _ => true

inductive Ob where
  | box (cells : List AV)
  | arr (esz : Nat) (els : List AV) (ro : Bool)
  deriving Inhabited

def Ob.len : Ob → Nat
  | .box cs => cs.length
  | .arr _ es _ => es.length

abbrev Hp := List (Nat × Ob)

def lkp {α : Type} : List (Nat × α) → Nat → Option α
  | [], _ => none
  | (i, v) :: m, j => if i = j then some v else lkp m j

def lk (m : List (Nat × AV)) (j : Nat) : AV := (lkp m j).getD .any

/-- The shape in which a value of a type is loaded: one cell, or so many together. -/
inductive TS where
  | sc
  | ag (n : Nat)

def TS.size : TS → Nat
  | .sc => 1
  | .ag n => n

def isAg (P : Program) (t : TypeId) : Option Bool :=
  match P.underlying t with
  | some (.struct _) | some (.array _ _) => some true
  | some _ => some false
  | none => none

def tsh (P : Program) (t : TypeId) : Option TS :=
  match isAg P t, P.info? t with
  | some true, some i => some (.ag i.size)
  | some false, some i => if i.size = 1 then some .sc else none
  | _, _ => none

/-- A field's place and shape. -/
def fld (P : Program) (s : TypeId) (f : Nat) : Option (Nat × TS) :=
  match P.underlying s with
  | some (.struct fs) => match fs[f]? with
    | some f => match tsh P f.type, P.info? f.type with
      | some ts, some i => if i.size = 0 then none else some (f.offset, ts)
      | _, _ => none
    | none => none
  | _ => none

/-- An element's shape and its bytes, of a slice type. -/
def elt (P : Program) (t : TypeId) : Option (TypeId × TS × Nat) :=
  match P.underlying t with
  | some (.slice e) => match tsh P e, P.info? e with
    | some ts, some i => if i.size = 0 then none else some (e, ts, i.bytes)
    | _, _ => none
  | _ => none

/-- Length and element's shape of an array type. -/
def art (P : Program) (t : TypeId) : Option (Nat × TS) :=
  match P.underlying t with
  | some (.array n e) => match tsh P e, P.info? e with
    | some ts, some i => if i.size = 0 then none else some (n, ts)
    | _, _ => none
  | _ => none

mutual
def ofV : Value → AV
  | .bool b => .bool b
  | .int k n => .int k n
  | .string s => .str s
  | .pointer none => .nilp
  | .slice none 0 0 => .nilsl
  | .nilFunc => .nilf
  | .nilIface => .nili
  | .agg ⟨cs⟩ => if (ofVL cs).all AV.one then .agg (ofVL cs) else .any
  | .tuple ⟨cs⟩ => .tup (ofVL cs)
  | .func fn ⟨[]⟩ ⟨[]⟩ => .func fn [] []
  | _ => .any
def ofVL : List Value → List AV
  | [] => []
  | v :: vs => ofV v :: ofVL vs
end

def zer (P : Program) (t : TypeId) : Option AV := ((P.info? t).bind (·.zero)).map ofV

/-- Field places for 'build'. -/
def plc (P : Program) (t : TypeId) : Option (List (Nat × Nat)) :=
  match P.underlying t with
  | some (.struct fs) => fs.toList.mapM fun f => (P.info? f.type).map fun i => (f.offset, i.size)
  | _ => none

structure Eff where
  v : AV
  rd : List Nat
  wr : Hp
  nx : Nat

def Eff.pure (v : AV) (nx : Nat) : Option Eff := some ⟨v, [], [], nx⟩

def spl (cs : List AV) (off : Nat) (new : List AV) : List AV := cs.take off ++ new ++ cs.drop (off + new.length)

/-- What a load of a shape finds among cells. -/
def ldc (ts : TS) (cs : List AV) (off : Nat) : Option AV :=
  match ts with
  | .sc => cs[off]?
  | .ag n => if off + n ≤ cs.length then some (.agg ((cs.drop off).take n)) else none

def sve (e : AV) (off : Nat) (new : List AV) : Option AV :=
  match e with
  | .agg cs => if off + new.length ≤ cs.length then some (.agg (spl cs off new)) else none
  | _ => match off, new with
    | 0, [v] => some v
    | _, _ => none

def filA (places : Nat → Option (Nat × Nat)) (cells : List AV) : List (Nat × AV) → Option (List AV)
  | [] => some cells
  | (i, v) :: rest =>
    match places i with
    | none => none
    | some (off, size) =>
      if v.cells.length = size ∧ off + size ≤ cells.length ∧ v.cells.all AV.one then filA places (spl cells off v.cells) rest else none


/-! A value frozen: what it leads to is read out of the heap. -/
mutual
def frzW (g : Nat → Option Ob) (bx : List AV → Option (List AV)) : AV → Option AV
  | .any => none
  | .agg cs => (frzWL g bx cs).map .agg
  | .tup cs => (frzWL g bx cs).map .tup
  | .func fn f c => match frzWL g bx f, frzWL g bx c with
    | some f, some c => some (.func fn f c)
    | _, _ => none
  | .nilsl => some (.fsl [])
  | .osl id off len tot => match g id with
    | some (.arr _ es _) => if tot = es.length ∧ off + len ≤ es.length then some (.fsl ((es.drop off).take len)) else none
    | _ => none
  | .optr id off tot => match g id with
    | some (.box cs) => if tot = cs.length then (bx cs).map (.fptr · off) else none
    | _ => none
  | .eptr id ix off tot => match g id with
    | some (.arr _ es _) => if tot = es.length then match es[ix]? with
      | some e => some (.fptr e.cells off)
      | none => none
      else none
    | _ => none
  | v => some v
def frzWL (g : Nat → Option Ob) (bx : List AV → Option (List AV)) : List AV → Option (List AV)
  | [] => some []
  | c :: cs => match frzW g bx c, frzWL g bx cs with
    | some c, some cs => some (c :: cs)
    | _, _ => none
end
def bxD (g : Nat → Option Ob) : Nat → List AV → Option (List AV)
  | 0, _ => none
  | d + 1, cs => frzWL g (bxD g d) cs
def frz (g : Nat → Option Ob) (v : AV) : Option AV := frzW g (bxD g 3) v
def frzL (g : Nat → Option Ob) (v : List AV) : Option (List AV) := frzWL g (bxD g 3) v

/-! The own numbers that a value bears. -/
mutual
def ids : AV → List Nat
  | .osl id _ _ _ => [id]
  | .optr id _ _ => [id]
  | .eptr id _ _ _ => [id]
  | .agg cs => idsL cs
  | .tup cs => idsL cs
  | .func _ f c => idsL f ++ idsL c
  | _ => []
def idsL : List AV → List Nat
  | [] => []
  | c :: cs => ids c ++ idsL cs
end
def Ob.ids : Ob → List Nat
  | .box cs => idsL cs
  | .arr _ _ _ => []

def addTo (l : List Nat) : List Nat → List Nat
  | [] => l
  | x :: xs => if l.contains x then addTo l xs else addTo (l ++ [x]) xs

/-- The numbers that are reached. -/
def clo (g : Nat → Option Ob) : Nat → List Nat → List Nat
  | 0, l => l
  | d + 1, l => clo g d (addTo l (l.flatMap fun i => match g i with | some o => o.ids | none => []))

mutual
def ren (f : Nat → Nat) : AV → AV
  | .osl id off len tot => .osl (f id) off len tot
  | .optr id off tot => .optr (f id) off tot
  | .eptr id ix off tot => .eptr (f id) ix off tot
  | .agg cs => .agg (renL f cs)
  | .tup cs => .tup (renL f cs)
  | .func fn a c => .func fn (renL f a) (renL f c)
  | v => v
def renL (f : Nat → Nat) : List AV → List AV
  | [] => []
  | c :: cs => ren f c :: renL f cs
end
def Ob.ren (f : Nat → Nat) : Ob → Ob
  | .box cs => .box (renL f cs)
  | o => o

mutual
/-- Nothing frozen is in it. -/
def plain : AV → Bool
  | .bool _ | .int _ _ | .str _ | .osl .. | .optr .. | .eptr .. | .nilf | .nilp | .nilsl | .nili => true
  | .agg cs => plainL cs
  | .tup cs => plainL cs
  | _ => false
def plainL : List AV → Bool
  | [] => true
  | c :: cs => plain c && plainL cs
end

def ixOf : List Nat → Nat → Nat
  | [], _ => 0
  | x :: xs, i => if x = i then 0 else ixOf xs i + 1

structure Md where
  own : Bool := false
  keep : Bool := false

/-- Make what these numbers bear unwritable from now on; none where one is a box. -/
def roAll (g : Nat → Option Ob) : List Nat → Option Hp
  | [] => some []
  | i :: is => match g i, roAll g is with
    | some (.arr e es _), some h => some ((i, .arr e es true) :: h)
    | _, _ => none

def outOf (g : Nat → Option Ob) : List Nat → Option (List Ob)
  | [] => some []
  | i :: is => match g i, outOf g is with
    | some o, some os => some (o :: os)
    | _, _ => none

def zipAt (nx : Nat) : List Ob → Hp
  | [] => []
  | o :: os => (nx, o) :: zipAt (nx + 1) os

def zipTo : List Nat → List Ob → Hp
  | i :: is, o :: os => (i, o) :: zipTo is os
  | _, _ => []

/-- Is all that these objects lead to among them? -/
def closed (g : Nat → Option Ob) (l : List Nat) : Bool := l.all fun i => match g i with | some o => o.ids.all (l.contains ·) | none => true

abbrev Cl := FuncId → List AV → List Ob → Option (AV × List Ob)

/-- A call, seen from the caller. -/
def callV (cl : Cl) (E : FuncId → Md) (f : FuncId) (args : List AV) (g : Nat → Option Ob) (nx : Nat) : Option Eff :=
  let is := clo g 3 (addTo [] (idsL args))
  if !closed g is then none else
  if (E f).own then
    match outOf g is with
    | none => none
    | some sub => match cl f (renL (ixOf is) args) (sub.map (Ob.ren (ixOf is))) with
      | none => none
      | some (v, obs) =>
        let back := fun i => if i < is.length then is.getD i 0 else nx + (i - is.length)
        let obs := obs.map (Ob.ren back)
        some ⟨ren back v, is, zipTo is obs ++ zipAt nx (obs.drop is.length), nx + (obs.length - is.length)⟩
  else
    match frzL g args with
    | none => none
    | some args' => match cl f args' [] with
      | none => none
      | some (v, obs) =>
        match (if is.isEmpty || (plain v && obs.isEmpty) then some [] else roAll g is) with
        | none => none
        | some ro => some ⟨ren (nx + ·) v, is, zipAt nx (obs.map (Ob.ren (nx + ·))) ++ ro, nx + obs.length⟩

/-- What a function hands back: its result, and the objects that came in, then those that are new and reached. -/
def doneV (md : Md) (k : Nat) (g : Nat → Option Ob) (v : AV) : Option (AV × List Ob) :=
  let old := List.range k
  let reach := clo g 3 old
  if md.keep then
    let all := clo g 3 (addTo reach (ids v))
    if !closed g all then none else
    match outOf g all with
    | none => none
    | some obs => some (ren (ixOf all) v, obs.map (Ob.ren (ixOf all)))
  else
    let own := clo g 3 (addTo [] (ids v))
    if !closed g reach || !closed g own || own.any (reach.contains ·) then none else
    match frz g v, outOf g reach with
    | some v, some obs => some (v, obs.map (Ob.ren (ixOf reach)))
    | _, _ => none

def bitsA (op : BinOp) (k : IntKind) (x y : Int) : Option Int :=
  let a := BitVec.ofInt k.bits x
  let b := BitVec.ofInt k.bits y
  match op with
  | .and => some (k.wrap (a &&& b).toNat)
  | .or => some (k.wrap (a ||| b).toNat)
  | .xor => some (k.wrap (a ^^^ b).toNat)
  | .andNot => some (k.wrap (a &&& ~~~b).toNat)
  | _ => none

def intA (op : BinOp) (k : IntKind) (x y : Int) : Option AV :=
  match op with
  | .add => some (.int k (k.wrap (x + y)))
  | .sub => some (.int k (k.wrap (x - y)))
  | .mul => some (.int k (k.wrap (x * y)))
  | .quo => if y = 0 then none else some (.int k (k.wrap (x.tdiv y)))
  | .rem => if y = 0 then none else some (.int k (x.tmod y))
  | .and | .or | .xor | .andNot => (bitsA op k x y).map (.int k)
  | .eql => some (.bool (decide (x = y)))
  | .neq => some (.bool (decide (x ≠ y)))
  | .lss => some (.bool (decide (x < y)))
  | .leq => some (.bool (decide (x ≤ y)))
  | .gtr => some (.bool (decide (x > y)))
  | .geq => some (.bool (decide (x ≥ y)))
  | _ => none

/-- The kinds of cells that are compared as they are. -/
inductive Kc where
  | b | i | s

/-- Whether two rows of cells of these kinds are the same. -/
def eqK : List Kc → List AV → List AV → Option Bool
  | [], [], [] => some true
  | .b :: ks, .bool x :: as, .bool y :: bs => (eqK ks as bs).map fun r => decide (x = y) && r
  | .i :: ks, .int k x :: as, .int k' y :: bs => if k = k' then (eqK ks as bs).map fun r => decide (x = y) && r else none
  | .s :: ks, .str x :: as, .str y :: bs => (eqK ks as bs).map fun r => decide (x = y) && r
  | _, _, _ => none

def kndFs (P : Program) (ok : TypeId → Option (List Kc)) : List Field → Nat → Nat → Option (List Kc)
  | [], o, e => if o = e then some [] else none
  | f :: fs, o, e => match tsh P f.type, ok f.type, kndFs P ok fs (o + ((tsh P f.type).map TS.size).getD 0) e with
    | some ts, some k1, some k2 => if f.name ≠ "_" ∧ f.offset = o ∧ k1.length = ts.size ∧ 0 < ts.size then some (k1 ++ k2) else none
    | _, _, _ => none
/-- The cells' kinds of a type whose values are compared cell by cell: bools, whole numbers, strings, structs of these. -/
def kndIn (P : Program) : Nat → TypeId → Option (List Kc)
  | 0, _ => none
  | d + 1, t => match P.underlying t, P.info? t with
    | some .bool, _ => some [.b]
    | some (.int _), _ => some [.i]
    | some .string, _ => some [.s]
    | some (.struct fs), some i => if P.stoodInHeld t then none else kndFs P (kndIn P d) fs.toList 0 i.size
    | _, _ => none
/-- Is it a struct, and which kinds of cells has it? -/
def eqk (P : Program) (t : TypeId) : Option (Bool × List Kc) :=
  match isAg P t, kndIn P 8 t with
  | some a, some k => if P.eqGuardType P.depth t then none else some (a, k)
  | _, _ => none

def eqA (P : Program) (t : TypeId) (x y : AV) : Option Bool :=
  match eqk P t, x, y with
  | some (true, k), .agg as, .agg bs => eqK k as bs
  | some (false, k), .bool a, .bool b => eqK k [.bool a] [.bool b]
  | _, _, _ => none

def binA (P : Program) (op : BinOp) (t : TypeId) (x y : AV) : Option AV :=
  match op, x, y with
  | .shl, .int k a, .int _ b => if b < 0 then none else some (.int k (k.wrap (a * 2 ^ (min b.toNat k.bits))))
  | .shr, .int k a, .int _ b => if b < 0 then none else some (.int k (a.fdiv (2 ^ (min b.toNat k.bits))))
  | op, .int k a, .int k' b => if k = k' then intA op k a b else none
  | .add, .str a, .str b => if ((a.size + b.size : Nat) : Int) > IntKind.i64.max then none else some (.str (a ++ b))
  | .eql, .str a, .str b => some (.bool (decide (a = b)))
  | .neq, .str a, .str b => some (.bool (decide (a ≠ b)))
  | .eql, x, y => (eqA P t x y).map .bool
  | .neq, x, y => (eqA P t x y).map (fun b => .bool (!b))
  | _, _, _ => none

def unA (op : UnOp) (x : AV) : Option AV :=
  match op, x with
  | .neg, .int k n => some (.int k (k.wrap (0 - n)))
  | .not, .bool b => some (.bool !b)
  | _, _ => none

/-- The elements of a slice value. -/
def elsOf (g : Nat → Option Ob) : AV → Option (List AV × List Nat)
  | .fsl es => some (es, [])
  | .nilsl => some ([], [])
  | .osl id off len tot => match g id with
    | some (.arr _ es _) => if tot = es.length ∧ off + len ≤ es.length then some ((es.drop off).take len, [id]) else none
    | _ => none
  | _ => none

def byteAV (b : UInt8) : AV := .int .u8 b.toNat
def byteOfAV : AV → Option UInt8
  | .int .u8 n => some (UInt8.ofNat n.toNat)
  | _ => none
def bytesA : List AV → Option (List UInt8)
  | [] => some []
  | v :: vs => match byteOfAV v, bytesA vs with
    | some b, some bs => some (b :: bs)
    | _, _ => none

inductive Cv where
  | int (k : IntKind) | str | bytesStr
def cvt (P : Program) (src dst : TypeId) : Option Cv :=
  match P.underlying src, P.underlying dst with
  | some (.int _), some (.int k) => some (.int k)
  | some .string, some .string => some .str
  | some (.slice e), some .string => match P.underlying e with
    | some (.int .u8) => some .bytesStr
    | _ => none
  | _, _ => none
def cvA (P : Program) (src dst : TypeId) (g : Nat → Option Ob) (nx : Nat) (x : AV) : Option Eff :=
  match cvt P src dst, x with
  | some (.int k), .int _ n => Eff.pure (.int k (k.wrap n)) nx
  | some .str, .str s => Eff.pure (.str s) nx
  | some .bytesStr, x => match elsOf g x with
    | some (es, is) => match bytesA es with
      | some bs => some ⟨.str ⟨bs.toArray⟩, is, [], nx⟩
      | none => none
    | none => none
  | _, _ => none

def room : Nat := 2 ^ 44

def widths (n : Nat) (es : List AV) : Bool := es.all fun e => e.cells.length == n && e.cells.all AV.one

/-- Is a type a slice or a string (what 'append' may take behind)? -/
def srcTy (P : Program) (t : TypeId) : Bool :=
  match P.underlying t with
  | some (.slice _) | some .string => true
  | _ => false

/-- What may stand behind in 'append' and 'copy'. -/
def srcOf (ts : TS) (g : Nat → Option Ob) : AV → Option (List AV × List Nat)
  | .str b => if ts.size = 1 then some (b.data.toList.map byteAV, []) else none
  | x => elsOf g x

def appA (P : Program) (t t2 : TypeId) (s x : AV) (g : Nat → Option Ob) (nx : Nat) : Option Eff :=
  match elt P t with
  | none => none
  | some (e, ts, bytes) =>
    if !srcTy P t2 then none else
    match zer P e with
    | none => none
    | some z =>
    if z.cells.length ≠ ts.size ∨ bytes = 0 ∨ 1048576 < bytes ∨ z.cells.all AV.one = false then none else
    match srcOf ts g x with
    | none => none
    | some (src, is) =>
      if !widths ts.size src then none else
      match s with
      | .nilsl => if src.length * bytes ≤ room then some ⟨.osl nx 0 src.length src.length, is, [(nx, .arr ts.size src false)], nx + 1⟩ else none
      | .osl id off len tot => match g id with
        | some (.arr esz es false) =>
          if esz = ts.size ∧ tot = es.length ∧ (len + src.length) * bytes ≤ room then
            if off = 0 ∧ len = es.length then
              some ⟨.osl id 0 (len + src.length) (tot + src.length), id :: is, [(id, .arr esz (es ++ src) false)], nx⟩
            else if off + len + src.length ≤ es.length then
              some ⟨.osl id off (len + src.length) tot, id :: is, [(id, .arr esz (es.take (off + len) ++ src ++ es.drop (off + len + src.length)) false)], nx⟩
            else none
          else none
        | _ => none
      | _ => none

def cpyA (P : Program) (t t2 : TypeId) (s x : AV) (g : Nat → Option Ob) (nx : Nat) : Option Eff :=
  match elt P t with
  | none => none
  | some (_, ts, _) =>
    if !srcTy P t2 then none else
    match srcOf ts g x with
    | none => none
    | some (src, is) =>
      if !widths ts.size src then none else
      match s with
      | .osl id off len tot => match g id with
        | some (.arr esz es false) =>
          if esz = ts.size ∧ tot = es.length ∧ off + len ≤ es.length ∧ src.length ≤ len then
            some ⟨.int .i64 src.length, id :: is, [(id, .arr esz (es.take off ++ src ++ es.drop (off + src.length)) false)], nx⟩
          else none
        | _ => none
      | _ => none

def max2A : AV → AV → Option AV
  | .int k x, .int k' y => if k = k' then some (.int k (if y > x then y else x)) else none
  | _, _ => none
def min2A : AV → AV → Option AV
  | .int k x, .int k' y => if k = k' then some (.int k (if y < x then y else x)) else none
  | _, _ => none
def foldA (f : AV → AV → Option AV) : AV → List AV → Option AV
  | a, [] => some a
  | a, b :: bs => match f a b with
    | some c => foldA f c bs
    | none => none

def mkA (P : Program) (t : TypeId) (l c : AV) (nx : Nat) : Option Eff :=
  match elt P t, l, c with
  | some (e, ts, bytes), .int .i64 l, .int .i64 c =>
    match zer P e with
    | some z => if 0 ≤ l ∧ l ≤ c ∧ c ≤ room ∧ c * bytes ≤ room ∧ z.cells.length = ts.size ∧ z.cells.all AV.one then
        some ⟨.osl nx 0 l.toNat l.toNat, [], [(nx, .arr ts.size (List.replicate l.toNat z) false)], nx + 1⟩ else none
    | none => none
  | _, _, _ => none

def numA : Option AV → Option (Option Int)
  | none => some none
  | some (.int _ n) => some (some n)
  | _ => none

def slcA (P : Program) (t : TypeId) (x : AV) (lo hi mx : Option AV) (g : Nat → Option Ob) (nx : Nat) : Option Eff :=
  match numA lo, numA hi, numA mx with
  | some lo, some hi, some mx =>
    match x with
    | .str s => match P.underlying t with
      | some .string =>
        let h := hi.getD s.size
        let l := lo.getD 0
        if mx = none ∧ 0 ≤ l ∧ l ≤ h ∧ h ≤ s.size then Eff.pure (.str (s.extract l.toNat h.toNat)) nx else none
      | _ => none
    | _ => match elt P t with
      | none => none
      | some (_, ts, _) =>
        match x with
        | .fsl es =>
          let h := hi.getD es.length
          let l := lo.getD 0
          match mx with
          | none => if 0 ≤ l ∧ l ≤ h ∧ h ≤ es.length ∧ es.all (fun e => e.cells.length == ts.size) = true then Eff.pure (.fsl ((es.drop l.toNat).take (h - l).toNat)) nx else none
          | some m => if l = h ∧ h = m ∧ 0 ≤ l ∧ l ≤ es.length ∧ hi.isSome = true then Eff.pure .nilsl nx else none
        | .nilsl =>
          let h := hi.getD 0
          let l := lo.getD 0
          let m := mx.getD 0
          if l = 0 ∧ h = 0 ∧ m = 0 ∧ (mx.isSome = true → hi.isSome = true) then Eff.pure .nilsl nx else none
        | .osl id off len tot =>
          let h := hi.getD len
          let l := lo.getD 0
          match g id with
          | some (.arr esz es _) =>
            if tot = es.length ∧ off + len ≤ es.length ∧ esz = ts.size then
              match mx with
              | none => if 0 ≤ l ∧ l ≤ h ∧ h ≤ len then some ⟨.osl id (off + l.toNat) (h - l).toNat tot, [id], [], nx⟩ else none
              | some m => if 0 ≤ l ∧ l ≤ h ∧ h ≤ m ∧ m ≤ len ∧ hi.isSome = true then some ⟨if l = m then .nilsl else .any, [id], [], nx⟩ else none
            else none
          | _ => none
        | _ => none
  | _, _, _ => none

/-- Is it the object as it was when the pointer was made? -/
def liveA (g : Nat → Option Ob) (id tot : Nat) : Bool := match g id with | some ob => tot == ob.len | none => false

def ixA (P : Program) (t : TypeId) (x i : AV) (g : Nat → Option Ob) (nx : Nat) : Option Eff :=
  match i with
  | .int _ i =>
    if i < 0 then none else
    match x with
    | .fsl es => match elt P t, es[i.toNat]? with
      | some (_, ts, _), some e => if es.all (fun e => e.cells.length == ts.size) = true then Eff.pure (.fptr e.cells 0) nx else none
      | _, _ => none
    | .osl id off len tot => match elt P t, g id with
      | some (_, ts, _), some (.arr esz es _) =>
        if esz = ts.size ∧ tot = es.length ∧ i < len ∧ off + len ≤ es.length then some ⟨.eptr id (off + i.toNat) 0 tot, [id], [], nx⟩ else none
      | _, _ => none
    | .optr id off tot => match art P t with
      | some (n, ts) => if i < n ∧ liveA g id tot then some ⟨.optr id (off + i.toNat * ts.size) tot, [id], [], nx⟩ else none
      | none => none
    | .eptr id ix off tot => match art P t with
      | some (n, ts) => if i < n ∧ liveA g id tot then some ⟨.eptr id ix (off + i.toNat * ts.size) tot, [id], [], nx⟩ else none
      | none => none
    | .fptr cs off => match art P t with
      | some (n, ts) => if i < n then Eff.pure (.fptr cs (off + i.toNat * ts.size)) nx else none
      | none => none
    | _ => none
  | _ => none

def idxA (P : Program) (t : TypeId) (x i : AV) : Option AV :=
  match x, i with
  | .str s, .int _ i => if 0 ≤ i then match s.data.toList[i.toNat]? with
    | some b => match P.underlying t with
      | some .string => some (.int .u8 b.toNat)
      | _ => none
    | none => none
    else none
  | .agg cs, .int _ i => match art P t with
    | some (n, ts) => if 0 ≤ i ∧ i < n then ldc ts cs (i.toNat * ts.size) else none
    | none => none
  | _, _ => none

def ldA (P : Program) (t : TypeId) (a : AV) (g : Nat → Option Ob) (nx : Nat) : Option Eff :=
  match tsh P t with
  | none => none
  | some ts =>
    match a with
    | .fptr cs off => (ldc ts cs off).bind fun v => Eff.pure v nx
    | .optr id off tot => match g id with
      | some (.box cs) => if tot = cs.length then (ldc ts cs off).map fun v => ⟨v, [id], [], nx⟩ else none
      | _ => none
    | .eptr id ix off tot => match g id with
      | some (.arr _ es _) => if tot = es.length then match es[ix]? with
        | some e => (ldc ts e.cells off).map fun v => ⟨v, [id], [], nx⟩
        | none => none
        else none
      | _ => none
    | _ => none

def stA (P : Program) (t : TypeId) (a x : AV) (g : Nat → Option Ob) (nx : Nat) : Option Eff :=
  match tsh P t with
  | none => none
  | some ts =>
    if x.cells.length = ts.size ∧ x.cells.all AV.one then
      match a with
      | .optr id off tot => match g id with
        | some (.box cs) => if tot = cs.length ∧ off + ts.size ≤ cs.length then some ⟨.any, [id], [(id, .box (spl cs off x.cells))], nx⟩ else none
        | _ => none
      | .eptr id ix off tot =>
        match frz g x, roAll g (addTo [] (ids x)) with
        | some x', some ro => match g id with
          | some (.arr esz es false) => if tot = es.length ∧ !(ids x).contains id then match es[ix]? with
            | some e => match sve e off x'.cells with
              | some e' => some ⟨.any, id :: ids x, (id, .arr esz (es.set ix e') false) :: ro, nx⟩
              | none => none
            | none => none
            else none
          | _ => none
        | _, _ => none
      | _ => none
    else none

def bldA (P : Program) (t : TypeId) (parts : List (Nat × AV)) : Option AV :=
  match plc P t, zer P t with
  | some pl, some z => if z.cells.all AV.one then (filA (pl[·]?) z.cells parts).map .agg else none
  | _, _ => none

/-- 'build' of an array. -/
def bldArr (P : Program) (t : TypeId) (parts : List (Nat × AV)) : Option AV :=
  match art P t, zer P t with
  | some (_, ts), some z => if z.cells.all AV.one then (filA (fun i => some (i * ts.size, ts.size)) z.cells parts).map .agg else none
  | _, _ => none

def setParts (g : Nat → Option Ob) (n : Nat) : List AV → List (Nat × AV) → Option (List AV)
  | es, [] => some es
  | es, (i, v) :: rest => match frz g v with
    | some v => if v.cells.length = n ∧ i < es.length ∧ v.cells.all AV.one then setParts g n (es.set i v) rest else none
    | none => none

def bslA (P : Program) (t : TypeId) (len : Nat) (parts : List (Nat × AV)) (g : Nat → Option Ob) (nx : Nat) : Option Eff :=
  match elt P t with
  | none => none
  | some (e, ts, _) => match zer P e with
    | none => none
    | some z =>
      if len * ts.size ≤ 2 ^ 24 ∧ z.cells.length = ts.size ∧ z.cells.all AV.one then
        match setParts g ts.size (List.replicate len z) parts, roAll g (addTo [] (idsL (parts.map (·.2)))) with
        | some es, some ro => some ⟨.osl nx 0 len len, addTo [] (idsL (parts.map (·.2))), (nx, .arr ts.size es false) :: ro, nx + 1⟩
        | _, _ => none
      else none

def clrA (P : Program) (t : TypeId) (x : AV) (g : Nat → Option Ob) (nx : Nat) : Option Eff :=
  match elt P t with
  | none => none
  | some (e, ts, _) => match zer P e, x with
    | some _, .nilsl => Eff.pure (.tup []) nx
    | some z, .osl id off len tot => match g id with
      | some (.arr esz es false) =>
        if esz = ts.size ∧ tot = es.length ∧ off + len ≤ es.length ∧ z.cells.length = ts.size ∧ z.cells.all AV.one then
          some ⟨.tup [], [id], [(id, .arr esz (es.take off ++ List.replicate len z ++ es.drop (off + len)) false)], nx⟩
        else none
      | _ => none
    | _, _ => none

/-- 'len'. -/
def lnA (P : Program) (t : TypeId) (x : AV) (g : Nat → Option Ob) (nx : Nat) : Option Eff :=
  match P.underlying t with
  | some (.array n _) => Eff.pure (.int .i64 n) nx
  | some .string => match x with
    | .str s => Eff.pure (.int .i64 s.size) nx
    | _ => none
  | some (.slice _) => match x with
    | .fsl es => Eff.pure (.int .i64 es.length) nx
    | .nilsl => Eff.pure (.int .i64 0) nx
    | .osl id _ len tot => if liveA g id tot then some ⟨.int .i64 len, [id], [], nx⟩ else none
    | _ => none
  | _ => none

def isArr (P : Program) (t : TypeId) : Bool := match P.underlying t with | some (.array _ _) => true | _ => false

def opv (P : Program) (cl : Cl) (E : FuncId → Md) (op : Op) (ρ : Operand → AV) (g : Nat → Option Ob) (nx : Nat) : Option Eff :=
  match op with
  | .move x | .assign x => Eff.pure (ρ x) nx
  | .pick c a b => match ρ c with
    | .bool t => Eff.pure (if t then ρ a else ρ b) nx
    | _ => none
  | .alloc t => match zer P t with
    | some z => if z.cells.all AV.one ∧ 0 < z.cells.length then some ⟨.optr nx 0 z.cells.length, [], [(nx, .box z.cells)], nx + 1⟩ else none
    | none => none
  | .box _ x => if (ρ x).cells.all AV.one ∧ 0 < (ρ x).cells.length then some ⟨.optr nx 0 (ρ x).cells.length, [], [(nx, .box (ρ x).cells)], nx + 1⟩ else none
  | .build t parts =>
    let ps := parts.toList.map fun p => (p.1, ρ p.2)
    (if isArr P t then bldArr P t ps else bldA P t ps).bind fun v => Eff.pure v nx
  | .buildSlice t len parts => bslA P t len (parts.toList.map fun p => (p.1, ρ p.2)) g nx
  | .load t a => ldA P t (ρ a) g nx
  | .store t a x => stA P t (ρ a) (ρ x) g nx
  | .nilCheck x => match ρ x with
    | .optr i o t => if liveA g i t then some ⟨.optr i o t, [i], [], nx⟩ else none
    | .eptr i ix o t => if liveA g i t then some ⟨.eptr i ix o t, [i], [], nx⟩ else none
    | .fptr cs o => Eff.pure (.fptr cs o) nx
    | _ => none
  | .binOp op t x y _ => (binA P op t (ρ x) (ρ y)).bind fun v => Eff.pure v nx
  | .unOp op _ x => (unA op (ρ x)).bind fun v => Eff.pure v nx
  | .convert src dst x => cvA P src dst g nx (ρ x)
  | .makeFunc fn first cap => Eff.pure (.func fn (first.toList.map ρ) (cap.toList.map ρ)) nx
  | .makeSlice t l c => mkA P t (ρ l) (ρ c) nx
  | .slice t x lo hi mx => slcA P t (ρ x) (lo.map ρ) (hi.map ρ) (mx.map ρ) g nx
  | .fieldAddr s x f => match fld P s f, ρ x with
    | some (o, _), .optr id off tot => if liveA g id tot then some ⟨.optr id (off + o) tot, [id], [], nx⟩ else none
    | some (o, _), .eptr id ix off tot => if liveA g id tot then some ⟨.eptr id ix (off + o) tot, [id], [], nx⟩ else none
    | some (o, _), .fptr cs off => Eff.pure (.fptr cs (off + o)) nx
    | _, _ => none
  | .field s x f => match fld P s f, ρ x with
    | some (o, ts), .agg cs => (ldc ts cs o).bind fun v => Eff.pure v nx
    | _, _ => none
  | .indexAddr t x i => ixA P t (ρ x) (ρ i) g nx
  | .index t x i => (idxA P t (ρ x) (ρ i)).bind fun v => Eff.pure v nx
  | .extract t i => match ρ t with
    | .tup vs => (vs[i]?).bind fun v => Eff.pure v nx
    | _ => none
  | .call c => match c.callee with
    | .builtin .len => match c.args.toList, c.argTypes.toList with
      | [x], [t] => lnA P t (ρ x) g nx
      | _, _ => none
    | .builtin .append => match c.args.toList, c.argTypes.toList with
      | [s, x], [t, t2] => appA P t t2 (ρ s) (ρ x) g nx
      | _, _ => none
    | .builtin .copy => match c.args.toList, c.argTypes.toList with
      | [s, x], [t, t2] => cpyA P t t2 (ρ s) (ρ x) g nx
      | _, _ => none
    | .builtin .clear => match c.args.toList, c.argTypes.toList with
      | [x], [t] => clrA P t (ρ x) g nx
      | _, _ => none
    | .builtin .max => match c.args.toList with
      | x :: xs => (foldA max2A (ρ x) (xs.map ρ)).bind fun v => Eff.pure v nx
      | _ => none
    | .builtin .min => match c.args.toList with
      | x :: xs => (foldA min2A (ρ x) (xs.map ρ)).bind fun v => Eff.pure v nx
      | _ => none
    | .value f => match ρ f with
      | .func (.func f) first cap => callV cl E f (first ++ c.args.toList.map ρ ++ cap) g nx
      | _ => none
    | _ => none
  | _ => none
end Go.Proofs.Ytfhglldoejeedaa.Am
