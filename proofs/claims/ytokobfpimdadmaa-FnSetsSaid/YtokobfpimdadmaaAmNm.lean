import Derived.Test.YtokobfpimdadmaaAmNl
set_option linter.unusedVariables false
set_option linter.unusedSimpArgs false
set_option linter.unusedSectionVars false
namespace Go.Proofs.Ytokobfpimdadmaa.Am
open Go
@[simp] theorem ofVL_nil : ofVL [] = [] := by simp [ofVL]
@[simp] theorem ofVL_cons {v vs} : ofVL (v :: vs) = ofV v :: ofVL vs := by simp [ofVL]
@[simp] theorem ofV_agg {l : List Value} : ofV (.agg l.toArray) = if (ofVL l).all AV.one then .agg (ofVL l) else .any := by simp [ofV]
/-! Arrays of given parts -/
def bldR (ar : Option (Nat × TS)) (z : Option AV) (parts : List (Nat × AV)) : Option AV := match ar, z with
  | some (_, ts), some z => if z.cells.all AV.one then (filA (fun i => some (i * ts.size, ts.size)) z.cells parts).map .agg else none
  | _, _ => none
@[simp] theorem bldArr_eq {P : Program} {t parts} : bldArr P t parts = bldR (art P t) (zer P t) parts := rfl
@[simp] theorem bldR_some {n ts z parts} : bldR (some (n, ts)) (some z) parts = if z.cells.all AV.one then (filA (fun i => some (i * ts.size, ts.size)) z.cells parts).map .agg else none := rfl
@[simp high] theorem idxT_sc {st n cs k i} (h : cs.length = n) : idxT st (some (n, .sc)) (.agg cs) (.int k i) = idx cs i := by
  subst h
  rw [idxT_a]
  unfold idx
  by_cases h0 : 0 ≤ i
  · by_cases h1 : i < (cs.length : Int)
    · rw [if_pos ⟨h0, h1⟩, if_pos h0, ldc_sc]
      show cs[i.toNat * 1]? = _
      rw [Nat.mul_one]
    · rw [if_neg (by omega), if_pos h0, List.getElem?_eq_none (by omega)]
  · rw [if_neg (by omega), if_neg h0]
/-! Parts of own rows -/
theorem slc_map {α β : Type} {e : α → β} {l n : List α} {a b : Int} (h : slc l a b = some n) : List.take (b - a).toNat (List.drop a.toNat (List.map e l)) = List.map e n := by
  rw [(slc_spec h).2.2, List.map_take, List.map_drop]
theorem slc_fit {α : Type} {l n : List α} {a b : Int} (h : slc l a b = some n) : a.toNat + (b - a).toNat ≤ l.length := by
  obtain ⟨h1, _, _⟩ := slc_spec h
  omega
end Go.Proofs.Ytokobfpimdadmaa.Am
