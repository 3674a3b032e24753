import Derived.Test.YtapchldnmkfkoabDoorAmPu
import Derived.Test.YtapchldnmkfkoabDoorAmRo
set_option linter.unusedVariables false
set_option linter.unusedSimpArgs false
set_option linter.unusedSectionVars false
namespace Go.Proofs.YtapchldnmkfkoabDoor.Am
open Go

/-! ## The laws' own functions: how large something is, copies, sameness -/
theorem ilt {a b : Int} (h : a ≤ b) : ile a b = true := ile_t.2 h
theorem ilf {a b : Int} (h : b < a) : ile a b = false := ile_f.2 h
theorem iqt {a : Int} : ieq a a = true := by simp [ieq]
theorem iqf {a b : Int} (h : a ≠ b) : ieq a b = false := by simp [ieq, h]

def szR (v left : Int) (g : Prop) : Prop := v ≤ left ∧ -1 ≤ v ∧ (0 ≤ v → g)
def gdL {α : Type} (g : α → Prop) (l : List α) : Prop := l.length ≤ 1048576 ∧ ∀ x ∈ l, g x
def tt {α : Type} (_ : α) : Prop := True

theorem nam_eq {α β : Type} {e : α} {f : α → Option β} : nam e f = f e := rfl
theorem sz_row {α : Type} {a : List α} {left : Int} (ha : (a.length : Int) ≤ 9223372036854775807) (h0 : 0 ≤ left) (h1 : left ≤ 1048576) :
    ∃ v, cnd (ile 0 (IntKind.i64.wrap (left - (List.length a : Int)))) (some (IntKind.i64.wrap (left - (List.length a : Int)))) (some (-1)) = some v ∧ szR v left (gdL tt a) := by
  rw [wr_in (by omega)]
  by_cases h : 0 ≤ left - (a.length : Int)
  · rw [ilt h]
    exact ⟨_, rfl, by omega, by omega, fun _ => ⟨by omega, fun _ _ => trivial⟩⟩
  · rw [ilf (by omega)]
    exact ⟨_, rfl, by omega, by omega, fun h => by omega⟩

theorem sz_loop {α : Type} {g : α → Prop} {a : List α} {szE : α → Int → Option Int} {f : Int × Int → Option ((Int × Int) ⊕ (Int ⊕ Unit))} {left : Int}
    (hE : ∀ x ∈ a, ∀ left, 0 ≤ left → left ≤ 1048576 → ∃ v, szE x left = some v ∧ szR v left (g x))
    (hf : ∀ x y, f (x, y) = cnd (ile (List.length a : Int) y) (some (.inr (.inl x))) (bnd (idx a y) fun v => bnd (szE v x) fun w => cnd (ile 0 w) (some (.inl (w, IntKind.i64.wrap (y + 1)))) (some (.inr (.inr ())))))
    (h0 : 0 ≤ left) (h1 : left ≤ 1048576) (ha : a.length ≤ 1048576) :
    ∃ v, szR v left (gdL g a) ∧ (loopI f (left, 0) = some (.inl v) ∧ 0 ≤ v ∨ loopI f (left, 0) = some (.inr ()) ∧ v = -1) := by
  have key : ∀ (d i : Nat) (s : Int), i + d = a.length → 0 ≤ s → s ≤ left → (∀ j x, j < i → a[j]? = some x → g x) →
      ∃ v, szR v left (gdL g a) ∧ (loopI f (s, (i : Int)) = some (.inl v) ∧ 0 ≤ v ∨ loopI f (s, (i : Int)) = some (.inr ()) ∧ v = -1) := by
    intro d
    induction d with
    | zero =>
      intro i s hi hs hl hg
      refine ⟨s, ⟨hl, by omega, fun _ => ⟨ha, fun x hx => ?_⟩⟩, .inl ⟨loopI_end ?_, hs⟩⟩
      · obtain ⟨j, hj, rfl⟩ := List.getElem_of_mem hx
        exact hg j _ (by omega) (List.getElem?_eq_getElem hj)
      · rw [hf, ilt (by omega)]; rfl
    | succ d ih =>
      intro i s hi hs hl hg
      have hlt : i < a.length := by omega
      obtain ⟨v, e, v1, v2, v3⟩ := hE a[i] (List.getElem_mem hlt) s hs (by omega)
      have hstep : f (s, (i : Int)) = cnd (ile 0 v) (some (.inl (v, (((i + 1 : Nat)) : Int)))) (some (.inr (.inr ()))) := by
        rw [hf, ilf (by omega), idx_nat hlt, cnd_false, bnd_some, e, bnd_some, wr_in (by omega)]; rfl
      by_cases hv : 0 ≤ v
      · rw [ilt hv, cnd_true] at hstep
        rw [loopI_go hstep]
        refine ih (i + 1) v (by omega) hv (by omega) fun j x hj hx => ?_
        by_cases hji : j = i
        · subst hji
          rw [List.getElem?_eq_getElem hlt] at hx
          cases hx
          exact v3 hv
        · exact hg j x (by omega) hx
      · rw [ilf (by omega), cnd_false] at hstep
        exact ⟨-1, ⟨by omega, by omega, fun h => by omega⟩, .inr ⟨loopI_end hstep, rfl⟩⟩
  exact key a.length 0 left (by omega) h0 (Int.le_refl _) (fun j x hj => by omega)

theorem to_loop {α : Type} {a : List α} {toE : α → Option α} {f : Int × List α → Option ((Int × List α) ⊕ List α)} (z : α)
    (hE : ∀ x ∈ a, toE x = some x)
    (hf : ∀ x y, f (x, y) = cnd (ile (List.length a : Int) x) (some (.inr y)) (bnd (idx a x) fun v => bnd (toE v) fun w => bnd (idx y x) fun _ => nam (List.set y (Int.toNat x) w) fun l => some (.inl (IntKind.i64.wrap (x + 1), l))))
    (ha : a.length ≤ 1048576) : loopI f (0, List.replicate (Int.toNat (a.length : Int)) z) = some a := by
  have key := loopI_n (f := f) (fun i => ((i : Int), a.take i ++ List.replicate (a.length - i) z)) a.length (r := a) (fun i hi => ?_) ?_
  · simpa using key
  · have hl : (a.take i ++ List.replicate (a.length - i) z).length = a.length := by simp; omega
    rw [hf, ilf (by omega), idx_nat hi, cnd_false, bnd_some, hE _ (List.getElem_mem hi), bnd_some, idx_nat (by omega), bnd_some, wr_in (by omega)]
    unfold nam
    congr 3
    have h1 : a.length - i = (a.length - (i + 1)) + 1 := by omega
    rw [Int.toNat_natCast, List.set_append_right _ _ (by simp; omega), h1, List.replicate_succ]
    have h2 : i - (List.take i a).length = 0 := by simp; omega
    have h3 : a.take (i + 1) = a.take i ++ [a[i]] := by rw [List.take_add_one, List.getElem?_eq_getElem hi]; rfl
    have h4 : List.take (i + 1) a ++ List.replicate (a.length - (i + 1)) z = List.take i a ++ (a[i] :: List.replicate (a.length - (i + 1)) z) := by rw [h3, List.append_assoc]; rfl
    rw [h2, List.set_cons_zero]
    exact h4.symm
  · rw [hf, ilt (by omega)]; simp

theorem eq_loop {α : Type} {a : List α} {eqE : α → α → Option Bool} {f : Int → Option (Int ⊕ (Unit ⊕ Unit))}
    (hE : ∀ x ∈ a, eqE x x = some true)
    (hf : ∀ x, f x = cnd (ile (List.length a : Int) x) (some (.inr (.inl ()))) (bnd (idx a x) fun v => bnd (idx a x) fun w => bnd (eqE v w) fun u => cnd u (some (.inl (IntKind.i64.wrap (x + 1)))) (some (.inr (.inr ())))))
    (ha : a.length ≤ 1048576) : loopI f 0 = some (.inl ()) := by
  have key := loopI_n (f := f) (fun i => (i : Int)) a.length (r := .inl ()) (fun i hi => ?_) ?_
  · simpa using key
  · rw [hf, ilf (by omega), idx_nat hi, cnd_false, bnd_some, bnd_some, hE _ (List.getElem_mem hi), bnd_some, cnd_true, wr_in (by omega)]; rfl
  · rw [hf, ilt (by omega)]; rfl

theorem ch_row {n : Nat} {b : Int} (h : n ≤ 1048576) (hb : 0 ≤ b ∧ b ≤ 16777216) : 0 ≤ (n : Int) ∧ (n : Int) ≤ (n : Int) ∧ (n : Int) ≤ 17592186044416 ∧ (n : Int) * b ≤ 17592186044416 := by
  refine ⟨by omega, by omega, by omega, ?_⟩
  have h1 : (n : Int) * b ≤ 1048576 * b := Int.mul_le_mul_of_nonneg_right (by omega) hb.1
  omega

theorem maxL {n : Nat} (h : n ≤ maxLen) : (n : Int) ≤ 9223372036854775807 := by unfold maxLen at h; omega
end Go.Proofs.YtapchldnmkfkoabDoor.Am
