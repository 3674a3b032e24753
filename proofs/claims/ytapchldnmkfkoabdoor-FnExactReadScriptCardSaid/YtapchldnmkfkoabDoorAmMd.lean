import Derived.Test.YtapchldnmkfkoabDoorAmWk
set_option linter.unusedVariables false
set_option linter.unusedSimpArgs false
set_option linter.unusedSectionVars false
namespace Go.Proofs.YtapchldnmkfkoabDoor.Am
open Go

/-! ## Words of the models -/
section
variable {α β γ : Type}
def bnd (o : Option α) (f : α → Option β) : Option β := match o with
  | some x => f x
  | none => none
def HS (o : Option α) (r : α) : Prop := o = some r
theorem HS.bnd {o : Option α} {f : α → Option β} {r : β} (h : HS (bnd o f) r) : ∃ x, o = some x ∧ HS (f x) r := by
  cases o with
  | none => cases h
  | some x => exact ⟨x, rfl, h⟩
theorem HS.some {x r : α} (h : HS (some x) r) : r = x := by cases h; rfl
theorem HS.none {r : α} (h : HS (none : Option α) r) : False := by cases h
def chkP (p : Prop) [Decidable p] (o : Option α) : Option α := if p then o else none
@[congr] theorem chkP_congr {p q : Prop} [Decidable p] [Decidable q] {o o' : Option α} (h : p = q) (k : o = o') : chkP p o = chkP q o' := by subst h; subst k; congr
theorem HS.chkP {p : Prop} [Decidable p] {o : Option α} {r : α} (h : HS (chkP p o) r) : p ∧ HS o r := by
  unfold Am.chkP at h
  split at h
  · exact ⟨‹_›, h⟩
  · cases h
def cnd (c : Bool) (a b : Option α) : Option α := match c with
  | true => a
  | false => b
@[simp] theorem cnd_true {a b : Option α} : cnd true a b = a := rfl
@[simp] theorem cnd_false {a b : Option α} : cnd false a b = b := rfl
@[simp] theorem cnd_not {c : Bool} {a b : Option α} : cnd (!c) a b = cnd c b a := by cases c <;> rfl
theorem HS.cnd_t {c : Bool} {a b : Option α} {r : α} (h : c = true) (k : HS (cnd c a b) r) : HS a r := by subst h; exact k
theorem HS.cnd_f {c : Bool} {a b : Option α} {r : α} (h : c = false) (k : HS (cnd c a b) r) : HS b r := by subst h; exact k
@[simp] theorem bnd_some {x : α} {f : α → Option β} : bnd (some x) f = f x := rfl
@[simp] theorem bnd_none {f : α → Option β} : bnd none f = none := rfl
@[simp] theorem chkP_true {o : Option α} : chkP True o = o := by simp [chkP]
theorem chkP_pos {p : Prop} [Decidable p] {o : Option α} (h : p) : chkP p o = o := by simp [chkP, h]

/-- What is made has a name. -/
def nam (e : α) (f : α → Option β) : Option β := f e
theorem HS.nam {e : α} {f : α → Option β} {r : β} (h : HS (nam e f) r) : ∃ x, e = x ∧ HS (f x) r := ⟨e, rfl, h⟩
structure Inj (e : α → AV) : Prop where
  h : ∀ a b, e a = e b → a = b
theorem map_inj {e : α → AV} (h : Inj e) {a b : List α} : List.map e a = List.map e b ↔ a = b := by
  constructor
  · intro k
    induction a generalizing b with
    | nil => cases b with
      | nil => rfl
      | cons => simp at k
    | cons x a ih => cases b with
      | nil => simp at k
      | cons y b =>
        simp only [List.map_cons, List.cons.injEq] at k
        rw [h.h x y k.1, ih k.2]
  · intro k; rw [k]
theorem inj_int {k : IntKind} : Inj (AV.int k) := ⟨fun a b h => by simpa using h⟩
theorem inj_bool : Inj AV.bool := ⟨fun a b h => by simpa using h⟩
@[simp] theorem mij {e : α → AV} (h : Inj e) {a b : List α} : List.map e a = List.map e b ↔ a = b := map_inj h
@[simp] theorem Inj_int {k : IntKind} : Inj (AV.int k) = True := eq_true inj_int
@[simp] theorem Inj_bool : Inj AV.bool = True := eq_true inj_bool
theorem selQ_cases {c : Bool} {A B : Prop} (h1 : c = true → A) (h2 : c = false → B) : selQ c A B := by
  cases c
  · exact h2 rfl
  · exact h1 rfl

/-- A place in a row. -/
def idx (l : List α) (i : Int) : Option α := if 0 ≤ i then l[i.toNat]? else none
theorem idx_get {l : List α} {i : Int} {x : α} (h : idx l i = some x) : l[i.toNat]? = some x := by
  unfold idx at h; split at h
  · exact h
  · cases h
theorem idx_ge {l : List α} {i : Int} {x : α} (h : idx l i = some x) : 0 ≤ i := by
  unfold idx at h; split at h
  · assumption
  · cases h
theorem idx_lt {l : List α} {i : Int} {x : α} (h : idx l i = some x) : i.toNat < l.length := (List.getElem?_eq_some_iff.1 (idx_get h)).1
theorem idx_lt' {l : List α} {i : Int} {x : α} (h : idx l i = some x) : i < l.length := by
  have := idx_lt h; have := idx_ge h; omega

/-- A row as a frozen value. -/
@[simp] def eSl (e : α → AV) (l : List α) : AV := .fsl (l.map e)
/-- Bytes as a string's. -/
def bs (l : List UInt8) : ByteArray := ⟨l.toArray⟩
@[simp] def eS (l : List UInt8) : AV := .str (bs l)
@[simp] theorem bs_size {l : List UInt8} : (bs l).size = l.length := rfl
theorem bs_inj {a b : List UInt8} (h : bs a = bs b) : a = b := by
  unfold bs at h; simpa using h
@[simp] theorem Inj_sl {e : α → AV} (h : Inj e) : Inj (eSl e) = True := eq_true ⟨fun a b k => by
  simp only [eSl, AV.fsl.injEq] at k; exact (map_inj h).1 k⟩
@[simp] theorem Inj_s : Inj eS = True := eq_true ⟨fun a b k => by
  simp only [eS, AV.str.injEq] at k; exact bs_inj k⟩
@[simp] theorem bs_eq {a b : List UInt8} : bs a = bs b ↔ a = b := ⟨bs_inj, fun h => by rw [h]⟩
def sq' (a b : List UInt8) : Bool := decide (a = b)
@[simp] theorem seq'_bs {a b : List UInt8} : seq' (bs a) (bs b) = sq' a b := by
  unfold seq' sq'
  refine decide_eq_decide.2 ⟨bs_inj, fun h => by rw [h]⟩

/-- Are all values of this form so many cells wide? -/
structure wid (e : α → AV) (n : Nat) : Prop where
  h : ∀ x, (e x).cells.length = n ∧ (e x).cells.all AV.one = true
@[simp] theorem wid_int {k : IntKind} : wid (AV.int k) 1 = True := eq_true ⟨by simp⟩
@[simp] theorem wid_bool : wid AV.bool 1 = True := eq_true ⟨by simp⟩
@[simp] theorem wid_sl {e : α → AV} : wid (eSl e) 1 = True := eq_true ⟨by simp⟩
@[simp] theorem wid_s : wid eS 1 = True := eq_true ⟨by simp⟩
theorem wid_all {e : α → AV} {n : Nat} (h : wid e n) {l : List α} : (l.map e).all (fun v => v.cells.length == n) = true := by
  simp only [List.all_map, List.all_eq_true, Function.comp, beq_iff_eq]
  exact fun x _ => (h.h x).1
theorem wid_widths {e : α → AV} {n : Nat} (h : wid e n) {l : List α} : widths n (l.map e) = true := by
  simp only [widths, List.all_map, List.all_eq_true, Function.comp, Bool.and_eq_true, beq_iff_eq]
  exact fun x _ => ⟨(h.h x).1, List.all_eq_true.1 (h.h x).2⟩
end

section
variable {P : Program} {g : Nat → Option Ob} {nx : Nat} {α : Type}
/-! Places -/
def ixT (el : Option (TypeId × TS × Nat)) (ar : Option (Nat × TS)) (x i : AV) (g : Nat → Option Ob) (nx : Nat) : Option Eff :=
  match i with
  | .int _ i =>
    if i < 0 then none else
    match x with
    | .fsl es => match el, es[i.toNat]? with
      | some (_, ts, _), some e => if es.all (fun e => e.cells.length == ts.size) = true then Eff.pure (.fptr e.cells 0) nx else none
      | _, _ => none
    | .osl id off len tot => match el, rowO (g id) with
      | some (_, ts, _), some (esz, es) =>
        if esz = ts.size ∧ tot = es.length ∧ i < len ∧ off + len ≤ es.length then some ⟨.eptr id (off + i.toNat) 0 tot, [id], [], nx⟩ else none
      | _, _ => none
    | .optr id off tot => match ar with
      | some (n, ts) => if i < n ∧ liveA g id tot then some ⟨.optr id (off + i.toNat * ts.size) tot, [id], [], nx⟩ else none
      | none => none
    | .eptr id ix off tot => match ar with
      | some (n, ts) => if i < n ∧ liveA g id tot then some ⟨.eptr id ix (off + i.toNat * ts.size) tot, [id], [], nx⟩ else none
      | none => none
    | .fptr cs off => match ar with
      | some (n, ts) => if i < n then Eff.pure (.fptr cs (off + i.toNat * ts.size)) nx else none
      | none => none
    | _ => none
  | _ => none
@[simp] theorem ixA_T {t x i} : ixA P t x i g nx = ixT (elt P t) (art P t) x i g nx := rfl
def ixR (o : Option α) (e : α → AV) (nx : Nat) : Option Eff := match o with
  | some x => Eff.pure (.fptr (e x).cells 0) nx
  | none => none
@[simp] theorem ixR_some {x : α} {e : α → AV} : ixR (some x) e nx = Eff.pure (.fptr (e x).cells 0) nx := rfl
@[simp] theorem ixT_fsl {t ts b ar k i} {e : α → AV} {l : List α} (hw : wid e ts.size) : ixT (some (t, ts, b)) ar (.fsl (l.map e)) (.int k i) g nx = ixR (idx l i) e nx := by
  unfold ixT ixR idx
  dsimp only
  by_cases h : i < 0
  · rw [if_pos h, if_neg (by omega)]
  · rw [if_neg h, if_pos (by omega), List.getElem?_map]
    cases l[i.toNat]? with
    | none => rfl
    | some x => dsimp only [Option.map]; rw [if_pos (wid_all hw)]
def ixO (ts : TS) (o : Option Ob) (i : Int) (id off len tot nx : Nat) : Option Eff := match rowO o with
  | some (esz, es) => if i < 0 then none else if esz = ts.size ∧ tot = es.length ∧ i < len ∧ off + len ≤ es.length then some ⟨.eptr id (off + i.toNat) 0 tot, [id], [], nx⟩ else none
  | _ => none
@[simp] theorem ixT_osl {t ts b ar k i id off len tot} : ixT (some (t, ts, b)) ar (.osl id off len tot) (.int k i) g nx = ixO ts (g id) i id off len tot nx := by
  unfold ixT ixO
  dsimp only
  cases rowO (g id) with
  | none => split <;> rfl
  | some o => rfl
def ixP (o : Option α) (id tot nx : Nat) (i : Int) : Option Eff := match o with
  | some _ => some ⟨.eptr id i.toNat 0 tot, [id], [], nx⟩
  | none => none
@[simp] theorem ixP_some {x : α} {id tot i} : ixP (some x) id tot nx i = some ⟨.eptr id i.toNat 0 tot, [id], [], nx⟩ := rfl
@[simp] theorem ixO_map {ts z r id i} {e : α → AV} {l : List α} (hz : z = ts.size) : ixO ts (some (.arr z (l.map e) r)) i id 0 l.length l.length nx = ixP (idx l i) id l.length nx i := by
  unfold ixO ixP idx
  dsimp only [rowO, Ob.row]
  by_cases h : i < 0
  · have h0 : ¬ 0 ≤ i := by omega
    simp [h, h0]
  · have h0 : 0 ≤ i := by omega
    simp only [h, h0, if_true, if_false]
    by_cases h2 : i < (l.length : Int)
    · have : i.toNat < l.length := by omega
      simp [hz, h2, List.getElem?_eq_getElem this]
    · have : l[i.toNat]? = none := by rw [List.getElem?_eq_none_iff]; omega
      simp [h2, this]
@[simp low] theorem ixO_nar {ts z r id i n} {es : List AV} (hz : z = ts.size) (hn : es.length = n) : ixO ts (some (.nar z es r)) i id 0 n n nx = ixP (idx es i) id n nx i := by
  subst hn
  have := ixO_map (nx := nx) (id := id) (r := true) (i := i) (ts := ts) (e := fun x : AV => x) (l := es) hz
  simp only [List.map_id_fun', id_eq] at this
  rw [← this]; rfl
@[simp] theorem idx_mapS {β : Type} {e : α → β} {l : List α} {i : Int} : idx (List.map e l) i = (idx l i).map e := by
  unfold idx; split
  · rw [List.getElem?_map]
  · rfl
@[simp] theorem idx_setS {l : List α} {i : Int} {a : α} : idx (List.set l i.toNat a) i = (idx l i).map fun _ => a := by
  unfold idx; split
  · rw [List.getElem?_set_self']; cases l[i.toNat]? <;> rfl
  · rfl
@[simp] theorem ixO_map' {ts z r id i n} {e : α → AV} {l : List α} (hz : z = ts.size) (hn : l.length = n) : ixO ts (some (.arr z (l.map e) r)) i id 0 n n nx = ixP (idx l i) id n nx i := by
  subst hn; exact ixO_map hz
@[simp low] theorem ixO_es {ts z r id i n} {a : AV} {es : List AV} (hz : z = ts.size) (hn : es.length + 1 = n) : ixO ts (some (.arr z (a :: es) r)) i id 0 n n nx = ixP (idx (a :: es) i) id n nx i := by
  have := ixO_map' (nx := nx) (id := id) (r := r) (i := i) (ts := ts) (e := fun x : AV => x) (l := a :: es) hz (by simpa using hn)
  simpa using this
@[simp] theorem idx_l0 {a : α} {l : List α} : idx (a :: l) 0 = some a := rfl
@[simp] theorem idx_l1 {a b : α} {l : List α} : idx (a :: b :: l) 1 = some b := rfl
@[simp] theorem idx_l2 {a b c : α} {l : List α} : idx (a :: b :: c :: l) 2 = some c := rfl
@[simp] theorem idx_l3 {a b c d : α} {l : List α} : idx (a :: b :: c :: d :: l) 3 = some d := rfl
@[simp] theorem idx_l4 {a b c d e : α} {l : List α} : idx (a :: b :: c :: d :: e :: l) 4 = some e := rfl
theorem idx_map {β : Type} {e : α → β} {l : List α} {i : Int} {x : α} (h : idx l i = some x) : idx (List.map e l) i = some (e x) := by
  unfold idx at h ⊢
  split at h
  · rename_i h0; rw [if_pos h0, List.getElem?_map, h]; rfl
  · cases h
@[simp] theorem ixT_ao {el n ts k i id off tot} (h : 0 ≤ i) : ixT el (some (n, ts)) (.optr id off tot) (.int k i) g nx = if i < n ∧ liveA g id tot then some ⟨.optr id (off + i.toNat * ts.size) tot, [id], [], nx⟩ else none := by
  have h0 : ¬ i < 0 := by omega
  unfold ixT; simp only [h0, if_false]

/-! Lengths -/
inductive Lk where
  | ar (n : Nat) | st | sl
def lnK (P : Program) (t : TypeId) : Option Lk := match P.underlying t with
  | some (.array n _) => some (.ar n)
  | some .string => some .st
  | some (.slice _) => some .sl
  | _ => none
def lnT (k : Option Lk) (x : AV) (g : Nat → Option Ob) (nx : Nat) : Option Eff := match k with
  | some (.ar n) => Eff.pure (.int .i64 n) nx
  | some .st => match x with
    | .str s => Eff.pure (.int .i64 s.size) nx
    | _ => none
  | some .sl => match x with
    | .fsl es => Eff.pure (.int .i64 es.length) nx
    | .nilsl => Eff.pure (.int .i64 0) nx
    | .osl id _ len tot => if liveA g id tot then some ⟨.int .i64 len, [id], [], nx⟩ else none
    | _ => none
  | none => none
@[simp] theorem lnA_T {t x} : lnA P t x g nx = lnT (lnK P t) x g nx := by
  unfold lnA lnK lnT
  cases P.underlying t with
  | none => rfl
  | some d => cases d <;> rfl
@[simp] theorem lnT_ar {n x} : lnT (some (.ar n)) x g nx = Eff.pure (.int .i64 n) nx := rfl
@[simp] theorem lnT_st {s} : lnT (some .st) (.str s) g nx = Eff.pure (.int .i64 s.size) nx := rfl
@[simp] theorem lnT_fsl {es} : lnT (some .sl) (.fsl es) g nx = Eff.pure (.int .i64 es.length) nx := rfl
@[simp] theorem lnT_nil : lnT (some .sl) .nilsl g nx = Eff.pure (.int .i64 0) nx := rfl
@[simp] theorem lnT_osl {id off len tot} : lnT (some .sl) (.osl id off len tot) g nx = if liveA g id tot then some ⟨.int .i64 len, [id], [], nx⟩ else none := rfl

/-! Turnings -/
def cvT (c : Option Cv) (g : Nat → Option Ob) (nx : Nat) (x : AV) : Option Eff :=
  match c, x with
  | some (.int k), .int _ n => Eff.pure (.int k (k.wrap n)) nx
  | some .str, .str s => Eff.pure (.str s) nx
  | some .bytesStr, x => match elsOf g x with
    | some (es, is) => match bytesA es with
      | some bs => some ⟨.str ⟨bs.toArray⟩, is, [], nx⟩
      | none => none
    | none => none
  | _, _ => none
@[simp] theorem cvA_T {a b x} : cvA P a b g nx x = cvT (cvt P a b) g nx x := rfl
@[simp] theorem cvT_int {k k' n} : cvT (some (.int k)) g nx (.int k' n) = Eff.pure (.int k (k.wrap n)) nx := rfl
@[simp] theorem cvT_str {s} : cvT (some .str) g nx (.str s) = Eff.pure (.str s) nx := rfl
/-- Numbers as bytes. -/
def toBs (l : List Int) : List UInt8 := l.map fun n => UInt8.ofNat n.toNat
theorem bytesA_map : ∀ {l : List Int}, bytesA (l.map (AV.int .u8)) = some (toBs l)
  | [] => rfl
  | n :: l => by simp [bytesA, byteOfAV, bytesA_map (l := l), toBs]
@[simp] theorem cvT_fb {l : List Int} : cvT (some .bytesStr) g nx (.fsl (l.map (AV.int .u8))) = some ⟨.str (bs (toBs l)), [], [], nx⟩ := by
  simp [cvT, elsOf, bytesA_map, bs]
@[simp] theorem cvT_nb : cvT (some .bytesStr) g nx .nilsl = some ⟨.str (bs []), [], [], nx⟩ := by
  simp [cvT, elsOf, bytesA, bs]
def cvO (o : Option Ob) (id off len tot nx : Nat) : Option Eff := match o with
  | some (.arr _ es _) => if tot = es.length ∧ off + len ≤ es.length then match bytesA ((es.drop off).take len) with
      | some bs => some ⟨.str ⟨bs.toArray⟩, [id], [], nx⟩
      | none => none
    else none
  | _ => none
@[simp] theorem cvT_osl {id off len tot} : cvT (some .bytesStr) g nx (.osl id off len tot) = cvO (g id) id off len tot nx := by
  unfold cvT cvO elsOf
  dsimp only
  cases g id with
  | none => rfl
  | some o =>
    cases o with
    | box cs => rfl
    | gone n => rfl
    | bld t c => rfl
    | nar z e r => rfl
    | arr z es r => dsimp only; split <;> (split <;> simp_all)
@[simp] theorem cvO_map {z r id} {l : List Int} : cvO (some (.arr z (l.map (AV.int .u8)) r)) id 0 l.length l.length nx = some ⟨.str (bs (toBs l)), [id], [], nx⟩ := by
  have : (List.take l.length (l.map (AV.int .u8))) = l.map (AV.int .u8) := by
    rw [List.take_of_length_le (by simp)]
  simp [cvO, this, bytesA_map, bs]

/-! Strings -/
@[simp] theorem binA_cat {t : TypeId} {a b : List UInt8} : binA P .add t (.str (bs a)) (.str (bs b)) = if ((a.length + b.length : Nat) : Int) ≤ 9223372036854775807 then some (.str (bs (a ++ b))) else none := by
  have e : bs a ++ bs b = bs (a ++ b) := by
    unfold bs; apply ByteArray.ext; simp
  have m : IntKind.i64.max = 9223372036854775807 := by decide
  simp only [binA, bs_size, e, m]
  by_cases h : ((a.length + b.length : Nat) : Int) ≤ 9223372036854775807
  · rw [if_pos h, if_neg (by omega)]
  · rw [if_neg h, if_pos (by omega)]
inductive Ik where
  | st | ar (n : Nat) (ts : TS) | no
def isStr (P : Program) (t : TypeId) : Bool := match P.underlying t with | some .string => true | _ => false
def idxT (st : Bool) (ar : Option (Nat × TS)) (x i : AV) : Option AV :=
  match x, i with
  | .str s, .int _ i => if 0 ≤ i then match s.data.toList[i.toNat]? with
    | some b => if st then some (.int .u8 b.toNat) else none
    | none => none
    else none
  | .agg cs, .int _ i => match ar with
    | some (n, ts) => if 0 ≤ i ∧ i < n then ldc ts cs (i.toNat * ts.size) else none
    | none => none
  | _, _ => none
@[simp] theorem idxA_T {t x i} : idxA P t x i = idxT (isStr P t) (art P t) x i := by
  cases x <;> cases i <;> try rfl
  rename_i s k i
  unfold idxA idxT isStr
  dsimp only
  by_cases h : 0 ≤ i
  · rw [if_pos h, if_pos h]
    cases s.data.toList[i.toNat]? with
    | none => rfl
    | some b =>
      dsimp only
      cases P.underlying t with
      | none => rfl
      | some d => cases d <;> rfl
  · rw [if_neg h, if_neg h]
def idxB (o : Option UInt8) : Option AV := match o with
  | some b => some (.int .u8 b.toNat)
  | none => none
@[simp] theorem idxB_some {b} : idxB (some b) = some (.int .u8 b.toNat) := rfl
@[simp] theorem idxT_s {ar s k i} : idxT true ar (.str (bs s)) (.int k i) = idxB (idx s i) := by
  unfold idxT idxB idx
  simp only [bs]
  split
  · cases s[i.toNat]? <;> rfl
  · rfl
@[simp] theorem idxT_a {st n ts cs k i} : idxT st (some (n, ts)) (.agg cs) (.int k i) = if 0 ≤ i ∧ i < n then ldc ts cs (i.toNat * ts.size) else none := rfl

/-- A piece of a row. -/
def slc (l : List α) (lo hi : Int) : Option (List α) := if 0 ≤ lo ∧ lo ≤ hi ∧ hi ≤ l.length then some ((l.drop lo.toNat).take (hi - lo).toNat) else none
end
end Go.Proofs.YtapchldnmkfkoabDoor.Am
