import Derived.Test.YtapchldnmkfkoabAmDnMo
import Derived.Test.YtapchldnmkfkoabAmLw
import Derived.Test.YtapchldnmkfkoabAmRx
set_option linter.unusedVariables false
set_option linter.unusedSimpArgs false
set_option linter.unusedSectionVars false
namespace Go.Proofs.Ytapchldnmkfkoab.Am
namespace Na
open Go Go.Proofs
set_option linter.unusedSimpArgs false
set_option linter.unusedVariables false
set_option maxRecDepth 100000
def fst {α : Type} (q : α → Bool) (l : List α) : Int := match l.findIdx? q with | some i => (i : Int) | none => -1
theorem loopI_index {α ρ : Type} {l : List α} {f : Int → Option (Int ⊕ ρ)} (q : α → Bool) (a : ρ) (b : Int → ρ) (hn : l.length ≤ 9223372036854775807)
    (hs : ∀ (i : Nat) (h : i < l.length), f (i : Int) = cnd (q l[i]) (some (.inr (b (i : Int)))) (some (.inl (IntKind.i64.wrap ((i : Int) + 1))))) (he : f (l.length : Int) = some (.inr a)) :
    loopI f 0 = some (match l.findIdx? q with | some i => b (i : Int) | none => a) := by
  have h := loopI_find (f := f) (fun i : Nat => (i : Int)) l.length (fun i => match l[i]? with | some x => q x | none => false) (fun i => b (i : Int)) (r := a) (fun i hi => by
    rw [hs i hi, wr_in (by omega), List.getElem?_eq_getElem hi]
    cases h : q l[i] <;> simp [h]) he
  have e : loopI f 0 = loopI f ((0 : Nat) : Int) := rfl
  rw [e, h]
  have : (List.range l.length).find? (fun i => match l[i]? with | some x => q x | none => false) = l.findIdx? q := by
    cases hq : l.findIdx? q with
    | none =>
      rw [List.findIdx?_eq_none_iff] at hq
      rw [List.find?_eq_none]
      intro i hi
      have hi := List.mem_range.1 hi
      rw [List.getElem?_eq_getElem hi]
      simp [hq _ (List.getElem_mem hi)]
    | some i =>
      rw [List.findIdx?_eq_some_iff_getElem] at hq
      obtain ⟨h1, h2, h3⟩ := hq
      rw [List.find?_range_eq_some]
      refine ⟨by rw [List.getElem?_eq_getElem h1]; exact h2, by simpa using h1, fun j hj => ?_⟩
      have := h3 j hj
      rw [List.getElem?_eq_getElem (by omega)]
      simpa using this
  rw [this]
  cases l.findIdx? q <;> rfl
theorem loopI_tot {σ ρ : Type} {f : σ → Option (σ ⊕ ρ)} (I : σ → Prop) (Q : ρ → Prop) (rk : σ → Nat) (hs : ∀ x, I x → (∃ y, f x = some (.inl y) ∧ I y ∧ rk y < rk x) ∨ (∃ r, f x = some (.inr r) ∧ Q r)) {x : σ} (hx : I x) : ∃ r, loopI f x = some r ∧ Q r := by
  have key : ∀ (n : Nat) (x : σ), rk x < n → I x → ∃ r, loopI f x = some r ∧ Q r := by
    intro n
    induction n with
    | zero => intro x h; omega
    | succ n ih =>
      intro x h hI
      rcases hs x hI with ⟨y, h1, h2, h3⟩ | ⟨r, h1, h2⟩
      · rw [loopI_go h1]; exact ih y (by omega) h2
      · exact ⟨r, loopI_end h1, h2⟩
  exact key (rk x + 1) x (by omega) hx
theorem slc_front {α : Type} {l n : List α} (h : l.take n.length = n) : slc l 0 (n.length : Int) = some n := by
  have h1 : n.length ≤ l.length := by
    have := congrArg List.length h
    rw [List.length_take] at this; omega
  unfold slc
  rw [if_pos (by omega)]
  simp only [Int.sub_zero, Int.toNat_natCast, Int.toNat_zero, List.drop_zero]
  rw [h]
theorem slc_some {α : Type} {l : List α} {a b : Nat} (h1 : a ≤ b) (h2 : b ≤ l.length) : slc l (a : Int) (b : Int) = some ((l.drop a).take (b - a)) := by
  unfold slc
  rw [if_pos (by omega)]
  have : ((b : Int) - (a : Int)).toNat = b - a := by omega
  simp only [this, Int.toNat_natCast]
theorem clr_take {α : Type} {l : List α} {a k : Nat} {z : α} (h : a ≤ l.length) : (clrL l a k z).take a = l.take a := by
  unfold clrL
  rw [List.append_assoc, List.take_append_of_le_length (by rw [List.length_take]; omega), List.take_take, Nat.min_self]
theorem fst_cases {α : Type} (q : α → Bool) (l : List α) : (fst q l = -1 ∧ ∀ x ∈ l, q x = false) ∨ ∃ (i : Nat) (hi : i < l.length), fst q l = (i : Int) ∧ q l[i] = true ∧ ∀ (k : Nat) (hk : k < i), q l[k] = false := by
  unfold fst
  cases h : l.findIdx? q with
  | none => exact .inl ⟨rfl, List.findIdx?_eq_none_iff.1 h⟩
  | some i =>
    obtain ⟨hi, h1, h2⟩ := List.findIdx?_eq_some_iff_getElem.1 h
    exact .inr ⟨i, hi, rfl, h1, fun k hk => by simpa using h2 k hk⟩
theorem filter_take_succ {α : Type} {p : α → Bool} {l : List α} {j : Nat} (hj : j < l.length) : (l.take (j + 1)).filter p = (l.take j).filter p ++ (if p l[j] then [l[j]] else []) := by
  rw [List.take_add_one, List.getElem?_eq_getElem hj, List.filter_append]
  congr 1
  simp only [Option.toList, List.filter_cons, List.filter_nil]
theorem m_Index {l : List Int} {x : Int} (h : l.length ≤ 1048576) : slices_Index_int l x = some (fst (fun y => ieq x y) l) := by
  unfold slices_Index_int
  rw [loopI_index (l := l) (fun y => ieq x y) (.inl ()) .inr (by omega) (fun i hi => ?_) ?_]
  · unfold fst
    cases List.findIdx? (fun y => ieq x y) l <;> rfl
  · rw [slices_Index_int_l0, ilt (by omega), cnd_true]
  · rw [slices_Index_int_l0, ilf (by omega), cnd_false, idx_nat hi, bnd_some]
def isIn (x : Int) (l : List Int) : Bool := l.any fun y => ieq x y
theorem m_Contains {l : List Int} {x : Int} (h : l.length ≤ 1048576) : slices_Contains_int l x = some (isIn x l) := by
  unfold slices_Contains_int
  rw [m_Index h, bnd_some]
  congr 1
  unfold isIn
  rcases fst_cases (fun y => ieq x y) l with ⟨h1, h2⟩ | ⟨i, hi, h1, h2, _⟩
  · rw [h1, ilf (by omega)]
    symm
    rw [List.any_eq_false]
    intro y hy; simpa using h2 y hy
  · rw [h1, ilt (by omega)]
    symm
    rw [List.any_eq_true]
    exact ⟨_, List.getElem_mem hi, h2⟩
theorem idxf_DropNode {l : List TNodeR} {ids : List Int} (h : ids.length ≤ 1048576) (hn : l.length ≤ 1048576) : slices_IndexFunc_Node_DropNode_1R l ids = some (fst (fun k => isIn k.id ids) l) := by
  unfold slices_IndexFunc_Node_DropNode_1R
  rw [loopI_index (l := l) (fun k => isIn k.id ids) (.inl ()) .inr (by omega) (fun i hi => ?_) ?_]
  · unfold fst
    cases List.findIdx? (fun k : TNodeR => isIn k.id ids) l <;> rfl
  · rw [slices_IndexFunc_Node_DropNode_1R_l0, ilt (by omega), cnd_true]
  · rw [slices_IndexFunc_Node_DropNode_1R_l0, ilf (by omega), cnd_false, idx_nat hi, bnd_some, impl_DropNode_1R, m_Contains h, bnd_some, bnd_some]
theorem delf_DropNode {l : List TNodeR} {ids : List Int} (h : ids.length ≤ 1048576) (hn : l.length ≤ 1048576) :
    ∃ l', slices_DeleteFunc_Node_DropNode_1R l ids = some (l.filter (fun k => !isIn k.id ids), l') ∧ l'.take (l.filter (fun k => !isIn k.id ids)).length = l.filter (fun k => !isIn k.id ids) ∧ l'.length = l.length := by
  unfold slices_DeleteFunc_Node_DropNode_1R
  rw [idxf_DropNode h hn, bnd_some]
  rcases fst_cases (fun k : TNodeR => isIn k.id ids) l with ⟨h1, h2⟩ | ⟨i0, hi0, h1, h2, h3⟩
  · have e : l.filter (fun k => !isIn k.id ids) = l := List.filter_eq_self.2 fun a ha => by simp [h2 a ha]
    rw [h1, iqt, cnd_true, e]
    exact ⟨l, rfl, List.take_length, rfl⟩
  rw [h1, iqf (by omega), cnd_false, wr_in (by omega)]
  have st : (l.take (i0 + 1)).filter (fun k => !isIn k.id ids) = l.take i0 := by
    rw [filter_take_succ hi0, h2]
    simp only [Bool.not_true, Bool.false_eq_true, if_false, List.append_nil]
    refine List.filter_eq_self.2 fun a ha => ?_
    obtain ⟨k, hk, rfl⟩ := List.getElem_of_mem ha
    rw [List.length_take] at hk
    rw [List.getElem_take, h3 k (by omega)]; rfl
  obtain ⟨⟨y1, y2⟩, r1, i, q1, q2, q3, q4⟩ := loopI_tot (f := slices_DeleteFunc_Node_DropNode_1R_l0 ids)
    (fun s => ∃ j i : Nat, s.1 = (j : Int) ∧ s.2.1 = (i : Int) ∧ i < j ∧ j ≤ l.length ∧ s.2.2.length = l.length ∧ s.2.2.take i = (l.take j).filter (fun k => !isIn k.id ids) ∧ s.2.2.drop j = l.drop j)
    (fun r => ∃ i : Nat, r.2 = (i : Int) ∧ i ≤ l.length ∧ r.1.take i = l.filter (fun k => !isIn k.id ids) ∧ r.1.length = l.length) (fun s => (l.length - s.1).toNat)
    (by
      rintro ⟨x6, x7, x8⟩ ⟨j, i, rfl, rfl, hij, hj, hl, ht, hd⟩
      dsimp only at hl ht hd ⊢
      rw [slices_DeleteFunc_Node_DropNode_1R_l0]
      by_cases hj2 : l.length ≤ j
      · right
        have : j = l.length := by omega
        subst this
        rw [ilt (by omega), cnd_true]
        exact ⟨_, rfl, i, rfl, by omega, by rw [ht, List.take_length], hl⟩
      left
      have hj3 : j < l.length := by omega
      have hx : x8[j]'(by omega) = l[j] := by
        have h1 : (x8.drop j)[0]? = (l.drop j)[0]? := by rw [hd]
        rw [List.getElem?_drop, List.getElem?_drop, Nat.add_zero, List.getElem?_eq_getElem (by omega), List.getElem?_eq_getElem hj3] at h1
        exact Option.some.inj h1
      rw [ilf (by omega), cnd_false, idx_nat (by omega), bnd_some, hx, impl_DropNode_1R, m_Contains h, bnd_some, bnd_some]
      have hd1 : x8.drop (j + 1) = l.drop (j + 1) := by
        have := congrArg (List.drop 1) hd
        rwa [List.drop_drop, List.drop_drop] at this
      cases hg : isIn l[j].id ids with
      | true =>
        rw [cnd_true, wr_in (by omega)]
        refine ⟨_, rfl, ⟨j + 1, i, by simp, rfl, by omega, by omega, hl, ?_, hd1⟩, by (try dsimp only) <;> omega⟩
        try dsimp only
        rw [filter_take_succ hj3, hg, ht]; simp
      | false =>
        rw [cnd_false, idx_nat (by omega), bnd_some, nam_eq, wr_in (by omega), wr_in (by omega)]
        refine ⟨_, rfl, ⟨j + 1, i + 1, by simp, by simp, by omega, by omega, by (try dsimp only) <;> rw [List.length_set] <;> exact hl, ?_, ?_⟩, by (try dsimp only) <;> omega⟩
        · try dsimp only
          rw [filter_take_succ hj3, hg, ← ht, Int.toNat_natCast, List.take_add_one, List.getElem?_set_self (by omega), List.take_set_of_le (Nat.le_refl _)]; simp
        · try dsimp only
          rw [Int.toNat_natCast, List.drop_set_of_lt (by omega)]; exact hd1)
    (x := ((i0 : Int) + 1, (i0 : Int), l)) ⟨i0 + 1, i0, by simp, rfl, by omega, by omega, rfl, by (try dsimp only) <;> rw [st], rfl⟩
  dsimp only at q1 q3 q4
  subst q1
  rw [r1, bnd_some]
  try dsimp only
  rw [slc_some (by omega) (Nat.le_refl _), bnd_some, nam_eq, Int.toNat_natCast]
  have hlen : (l.filter (fun k => !isIn k.id ids)).length = i := by rw [← q3, List.length_take]; omega
  have hcl : ((clrL y1 i ((y1.drop i).take (y1.length - i)).length (⟨0, 0, false, ⟨0, 0, 0, 0, 0, 0⟩, ⟨none, none⟩, false, 0, none, ⟨0, ⟨0, 0, 0, 0⟩, ⟨0, 0, 0, 0⟩, ⟨0, 0⟩, ⟨0, 0⟩⟩, 0, 0, ⟨none, none⟩⟩ : TNodeR)).take i) = l.filter (fun k => !isIn k.id ids) := by
    rw [clr_take (by omega), q3]
  have hcn : (clrL y1 i ((y1.drop i).take (y1.length - i)).length (⟨0, 0, false, ⟨0, 0, 0, 0, 0, 0⟩, ⟨none, none⟩, false, 0, none, ⟨0, ⟨0, 0, 0, 0⟩, ⟨0, 0, 0, 0⟩, ⟨0, 0⟩, ⟨0, 0⟩⟩, 0, 0, ⟨none, none⟩⟩ : TNodeR)).length = l.length := by
    rw [clrL_len, q4]
    rw [List.length_take, List.length_drop]; omega
  have s5 := slc_front (l := clrL y1 i ((y1.drop i).take (y1.length - i)).length (⟨0, 0, false, ⟨0, 0, 0, 0, 0, 0⟩, ⟨none, none⟩, false, 0, none, ⟨0, ⟨0, 0, 0, 0⟩, ⟨0, 0, 0, 0⟩, ⟨0, 0⟩, ⟨0, 0⟩⟩, 0, 0, ⟨none, none⟩⟩ : TNodeR)) (n := l.filter (fun k => !isIn k.id ids)) (by rw [hlen]; exact hcl)
  rw [hlen] at s5
  rw [s5, bnd_some]
  exact ⟨_, rfl, by rw [hlen]; exact hcl, hcn⟩

end Na
end Go.Proofs.Ytapchldnmkfkoab.Am
