import Derived.Test.YtapchldnmkfkoabDoorAmNl
set_option linter.unusedVariables false
set_option linter.unusedSimpArgs false
set_option linter.unusedSectionVars false
namespace Go.Proofs.YtapchldnmkfkoabDoor.Am
open Go
@[simp] theorem ofVL_nil : ofVL [] = [] := by simp [ofVL]
@[simp] theorem ofVL_cons {v vs} : ofVL (v :: vs) = ofV v :: ofVL vs := by simp [ofVL]
@[simp] theorem ofV_agg {l : List Value} : ofV (.agg l.toArray) = if (ofVL l).all AV.one then .agg (ofVL l) else .any := by simp [ofV]
/-! Arrays of given parts -/
def bldR (ar : Option (Nat × TS)) (z : Option AV) (parts : List (Nat × AV)) : Option AV := match ar, z with
  | some (_, ts), some z => if z.cells.all AV.one then (filA (fun i => some (i * ts.size, ts.size)) z.cells parts).map .agg else none
  | _, _ => none
@[simp] theorem bldArr_eq {P : Program} {t parts} : bldArr P t parts = bldR (art P t) (zer P t) parts := rfl
@[simp] theorem bldR_some {n ts z parts} : bldR (some (n, ts)) (some z) parts = if z.cells.all AV.one then (filA (fun i => some (i * ts.size, ts.size)) z.cells parts).map .agg else none := rfl
@[simp high] theorem idxT_sc {st n cs k i} (h : cs.length = n) : idxT st (some (n, .sc)) (.agg cs) (.int k i) = idx cs i := by
  subst h
  rw [idxT_a]
  unfold idx
  by_cases h0 : 0 ≤ i
  · by_cases h1 : i < (cs.length : Int)
    · rw [if_pos ⟨h0, h1⟩, if_pos h0, ldc_sc]
      show cs[i.toNat * 1]? = _
      rw [Nat.mul_one]
    · rw [if_neg (by omega), if_pos h0, List.getElem?_eq_none (by omega)]
  · rw [if_neg (by omega), if_neg h0]
/-! Parts of own rows -/
theorem slc_map {α β : Type} {e : α → β} {l n : List α} {a b : Int} (h : slc l a b = some n) : List.take (b - a).toNat (List.drop a.toNat (List.map e l)) = List.map e n := by
  rw [(slc_spec h).2.2, List.map_take, List.map_drop]
theorem slc_fit {α : Type} {l n : List α} {a b : Int} (h : slc l a b = some n) : a.toNat + (b - a).toNat ≤ l.length := by
  obtain ⟨h1, _, _⟩ := slc_spec h
  omega
/-! Parts: overwritten, cleared -/
section
variable {P : Program} {g : Nat → Option Ob} {nx : Nat} {α β : Type}
def ovr (l : List α) (k : Nat) (s : List α) : List α := l.take k ++ s ++ l.drop (k + s.length)
theorem ovr_len {l s : List α} {k : Nat} (h : k + s.length ≤ l.length) : (ovr l k s).length = l.length := by
  unfold ovr; simp only [List.length_append, List.length_take, List.length_drop]; omega
@[simp] theorem ovr_map {f : α → β} {l s : List α} {k : Nat} : (ovr l k s).map f = ovr (l.map f) k (s.map f) := by
  unfold ovr; simp
def clrL (l : List α) (a k : Nat) (z : α) : List α := l.take a ++ List.replicate k z ++ l.drop (a + k)
theorem clrL_len {l : List α} {a k : Nat} {z : α} (h : a + k ≤ l.length) : (clrL l a k z).length = l.length := by
  unfold clrL; simp only [List.length_append, List.length_take, List.length_drop, List.length_replicate]; omega
@[simp] theorem clrL_map {f : α → β} {l : List α} {a k : Nat} {z : α} : (clrL l a k z).map f = clrL (l.map f) a k (f z) := by
  unfold clrL; simp
def slM (ts : TS) (o : Option Ob) (id off len tot : Nat) (l h m : Int) (nx : Nat) : Option Eff := match rowO o with
  | some (esz, es) => if tot = es.length ∧ off + len ≤ es.length ∧ esz = ts.size then (if 0 ≤ l ∧ l ≤ h ∧ h ≤ m ∧ m ≤ len then some ⟨if l = m then .nilsl else .any, [id], [], nx⟩ else none) else none
  | _ => none
@[simp] theorem slcT_om {st t ts b id off len tot k a k' c k'' m} : slcT st (some (t, ts, b)) (.osl id off len tot) (some (.int k a)) (some (.int k' c)) (some (.int k'' m)) g nx = slM ts (g id) id off len tot a c m nx := by
  simp only [slcT, numA, slM, Option.getD_some, Option.isSome_some, and_true]
  cases rowO (g id) with
  | none => rfl
  | some o => rfl
@[simp] theorem slM_some {ts esz es r id off len tot l h m} : slM ts (some (.arr esz es r)) id off len tot l h m nx = if tot = es.length ∧ off + len ≤ es.length ∧ esz = ts.size then (if 0 ≤ l ∧ l ≤ h ∧ h ≤ m ∧ m ≤ len then some ⟨if l = m then .nilsl else .any, [id], [], nx⟩ else none) else none := rfl
def clrT (el : Option (TypeId × TS × Nat)) (z : TypeId → Option AV) (x : AV) (g : Nat → Option Ob) (nx : Nat) : Option Eff :=
  match el with
  | none => none
  | some (e, ts, _) => match z e, x with
    | some _, .nilsl => Eff.pure (.tup []) nx
    | some z, .osl id off len tot => match g id with
      | some (.arr esz es false) =>
        if esz = ts.size ∧ tot = es.length ∧ off + len ≤ es.length ∧ z.cells.length = ts.size ∧ z.cells.all AV.one then
          some ⟨.tup [], [id], [(id, .arr esz (es.take off ++ List.replicate len (fz z) ++ es.drop (off + len)) false)], nx⟩
        else none
      | _ => none
    | _, _ => none
@[simp] theorem clrA_T {t x} : clrA P t x g nx = clrT (elt P t) (zer P) x g nx := rfl
def clrO (ts : TS) (z : Option AV) (o : Option Ob) (id off len tot nx : Nat) : Option Eff := match z with
  | none => none
  | some z => match o with
      | some (.arr esz es false) =>
        if esz = ts.size ∧ tot = es.length ∧ off + len ≤ es.length ∧ z.cells.length = ts.size ∧ z.cells.all AV.one then
          some ⟨.tup [], [id], [(id, .arr esz (clrL es off len (fz z)) false)], nx⟩
        else none
      | _ => none
@[simp] theorem clrT_osl {e ts b z id off len tot} : clrT (some (e, ts, b)) z (.osl id off len tot) g nx = clrO ts (z e) (g id) id off len tot nx := by
  unfold clrT clrO clrL
  dsimp only
  cases z e with
  | none => rfl
  | some z =>
    dsimp only
    try (cases g id with
    | none => rfl
    | some o =>
      cases o with
      | box cs => rfl
      | arr e es r => cases r <;> rfl)
@[simp] theorem clrO_some {ts z esz es id off len tot} : clrO ts (some z) (some (.arr esz es false)) id off len tot nx = if esz = ts.size ∧ tot = es.length ∧ off + len ≤ es.length ∧ z.cells.length = ts.size ∧ z.cells.all AV.one then
          some ⟨.tup [], [id], [(id, .arr esz (clrL es off len (fz z)) false)], nx⟩ else none := rfl
theorem appO_part {ts b src is esz es id off len tot} (h : off + len + src.length ≤ es.length) (hz : esz = ts.size ∧ tot = es.length ∧ (len + src.length) * b ≤ room) :
    appO ts b src is (some (.arr esz es false)) id off len tot nx = some ⟨.osl id off (len + src.length) tot, id :: is, [(id, .arr esz (ovr es (off + len) src) false)], nx⟩ := by
  unfold appO
  dsimp only
  rw [if_pos hz]
  split
  · rename_i h2
    have h3 : src = [] := List.eq_nil_of_length_eq_zero (by omega)
    subst h3
    obtain ⟨rfl, rfl⟩ := h2
    simp [ovr]
  · first | (rw [if_pos h]; rfl) | rfl | (simp [h]; rfl)
/-! Copying -/
@[simp] theorem trmS_osl {id off len tot x} : trmS (.osl id off len tot) x = trmA len x := rfl
@[simp] theorem trmA_osl {len id off l tot} : trmA len (.osl id off l tot) = .osl id off (min l len) tot := rfl
@[simp] theorem trmA_fsl {len es} : trmA len (.fsl es) = .fsl es := rfl
@[simp] theorem trmA_nil {len} : trmA len .nilsl = .nilsl := rfl
def cpyS (ts : TS) (src : Option (List AV × List Nat)) (s : AV) (g : Nat → Option Ob) (nx : Nat) : Option Eff :=
    match src with
    | none => none
    | some (src, is) =>
      if !widths ts.size src then none else
      match s with
      | .osl id off len tot => match g id with
        | some (.arr esz es false) =>
          if esz = ts.size ∧ tot = es.length ∧ off + len ≤ es.length ∧ src.length ≤ len then
            some ⟨.int .i64 src.length, id :: is, [(id, .arr esz (es.take off ++ src ++ es.drop (off + src.length)) false)], nx⟩
          else none
        | _ => none
      | _ => none
def cpyT (el : Option (TypeId × TS × Nat)) (st : Bool) (s x : AV) (g : Nat → Option Ob) (nx : Nat) : Option Eff :=
  match el with
  | none => none
  | some (_, ts, _) => if !st then none else cpyS ts (srcOf ts g (trmS s x)) s g nx
@[simp] theorem cpyA_T {t t2 s x} : cpyA P t t2 s x g nx = cpyT (elt P t) (srcTy P t2) s x g nx := rfl
@[simp] theorem cpyT_some {e ts b s x} : cpyT (some (e, ts, b)) true s x g nx = cpyS ts (srcOf ts g (trmS s x)) s g nx := rfl
def cpyO (ts : TS) (src : List AV) (is : List Nat) (o : Option Ob) (id off len tot nx : Nat) : Option Eff := match o with
  | some (.arr esz es false) => if esz = ts.size ∧ tot = es.length ∧ off + len ≤ es.length ∧ src.length ≤ len then
            some ⟨.int .i64 src.length, id :: is, [(id, .arr esz (ovr es off src) false)], nx⟩ else none
  | _ => none
@[simp] theorem cpyS_osl {ts src is id off len tot} (h : widths ts.size src = true) : cpyS ts (some (src, is)) (.osl id off len tot) g nx = cpyO ts src is (g id) id off len tot nx := by
  unfold cpyS cpyO ovr
  simp only [h]; rfl
@[simp] theorem cpyO_some {ts src is esz es id off len tot} : cpyO ts src is (some (.arr esz es false)) id off len tot nx = if esz = ts.size ∧ tot = es.length ∧ off + len ≤ es.length ∧ src.length ≤ len then
            some ⟨.int .i64 src.length, id :: is, [(id, .arr esz (ovr es off src) false)], nx⟩ else none := rfl
end
end Go.Proofs.YtapchldnmkfkoabDoor.Am
