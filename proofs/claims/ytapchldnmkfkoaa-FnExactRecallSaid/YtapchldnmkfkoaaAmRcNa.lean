import Derived.Test.YtapchldnmkfkoaaAmRcMo
import Derived.Test.YtapchldnmkfkoaaAmLw
import Derived.Test.YtapchldnmkfkoaaAmRx
set_option linter.unusedVariables false
set_option linter.unusedSimpArgs false
set_option linter.unusedSectionVars false
namespace Go.Proofs.Ytapchldnmkfkoaa.Am
namespace Na
open Go Go.Proofs
set_option linter.unusedSimpArgs false
set_option linter.unusedVariables false
set_option maxRecDepth 100000
def fst {α : Type} (q : α → Bool) (l : List α) : Int := match l.findIdx? q with | some i => (i : Int) | none => -1
theorem loopI_index {α ρ : Type} {l : List α} {f : Int → Option (Int ⊕ ρ)} (q : α → Bool) (a : ρ) (b : Int → ρ) (hn : l.length ≤ 9223372036854775807)
    (hs : ∀ (i : Nat) (h : i < l.length), f (i : Int) = cnd (q l[i]) (some (.inr (b (i : Int)))) (some (.inl (IntKind.i64.wrap ((i : Int) + 1))))) (he : f (l.length : Int) = some (.inr a)) :
    loopI f 0 = some (match l.findIdx? q with | some i => b (i : Int) | none => a) := by
  have h := loopI_find (f := f) (fun i : Nat => (i : Int)) l.length (fun i => match l[i]? with | some x => q x | none => false) (fun i => b (i : Int)) (r := a) (fun i hi => by
    rw [hs i hi, wr_in (by omega), List.getElem?_eq_getElem hi]
    cases h : q l[i] <;> simp [h]) he
  have e : loopI f 0 = loopI f ((0 : Nat) : Int) := rfl
  rw [e, h]
  have : (List.range l.length).find? (fun i => match l[i]? with | some x => q x | none => false) = l.findIdx? q := by
    cases hq : l.findIdx? q with
    | none =>
      rw [List.findIdx?_eq_none_iff] at hq
      rw [List.find?_eq_none]
      intro i hi
      have hi := List.mem_range.1 hi
      rw [List.getElem?_eq_getElem hi]
      simp [hq _ (List.getElem_mem hi)]
    | some i =>
      rw [List.findIdx?_eq_some_iff_getElem] at hq
      obtain ⟨h1, h2, h3⟩ := hq
      rw [List.find?_range_eq_some]
      refine ⟨by rw [List.getElem?_eq_getElem h1]; exact h2, by simpa using h1, fun j hj => ?_⟩
      have := h3 j hj
      rw [List.getElem?_eq_getElem (by omega)]
      simpa using this
  rw [this]
  cases l.findIdx? q <;> rfl
def firstId (l : List TKeptR) (id : Int) : Int := fst (fun k => ieq k.id id) l
theorem m_keptAt {c : TCacheR} {id : Int} (h : c.list.length ≤ 9223372036854775807) : impl_Cache_keptAtR c id = some (firstId c.list id) := by
  unfold impl_Cache_keptAtR slices_IndexFunc_Kept_Cache_keptAt_1R
  rw [loopI_index (l := c.list) (fun k => ieq k.id id) (.inl ()) .inr h (fun i hi => ?_) ?_]
  · unfold firstId fst
    cases List.findIdx? (fun k : TKeptR => ieq k.id id) c.list <;> rfl
  · rw [slices_IndexFunc_Kept_Cache_keptAt_1R_l0, ilt (by omega), cnd_true]
  · rw [slices_IndexFunc_Kept_Cache_keptAt_1R_l0, ilf (by omega), cnd_false, idx_nat hi, bnd_some, impl_Cache_keptAt_1R, bnd_some]
theorem slc_front {α : Type} {l n : List α} (h : l.take n.length = n) : slc l 0 (n.length : Int) = some n := by
  have h1 : n.length ≤ l.length := by
    have := congrArg List.length h
    rw [List.length_take] at this; omega
  unfold slc
  rw [if_pos (by omega)]
  simp only [Int.sub_zero, Int.toNat_natCast, Int.toNat_zero, List.drop_zero]
  rw [h]
theorem slc_some {α : Type} {l : List α} {a b : Nat} (h1 : a ≤ b) (h2 : b ≤ l.length) : slc l (a : Int) (b : Int) = some ((l.drop a).take (b - a)) := by
  unfold slc
  rw [if_pos (by omega)]
  have : ((b : Int) - (a : Int)).toNat = b - a := by omega
  simp only [this, Int.toNat_natCast]
theorem ovr_take {α : Type} {l s : List α} {k : Nat} (h : k ≤ l.length) : (ovr l k s).take (k + s.length) = l.take k ++ s := by
  unfold ovr
  rw [List.take_append_of_le_length (by simp only [List.length_append, List.length_take]; omega), List.take_of_length_le (by simp only [List.length_append, List.length_take]; omega)]
theorem clr_take {α : Type} {l : List α} {a k : Nat} {z : α} (h : a ≤ l.length) : (clrL l a k z).take a = l.take a := by
  unfold clrL
  rw [List.append_assoc, List.take_append_of_le_length (by rw [List.length_take]; omega), List.take_take, Nat.min_self]
theorem del_Kept {k i j : Nat} {l : List TKeptR} (hk : k ≤ l.length) (h1 : i ≤ j) (h2 : j ≤ k) (hl : l.length ≤ 1048576) :
    ∃ l', slices_Delete_KeptR k (i : Int) (j : Int) l = some (l.take i ++ (l.take k).drop j, l') ∧ l'.take (l.take i ++ (l.take k).drop j).length = l.take i ++ (l.take k).drop j ∧ l'.length = l.length := by
  unfold slices_Delete_KeptR
  rw [chkP_pos hk, chkP_pos (by omega)]
  by_cases hij : i = j
  · subst hij
    have e : l.take i ++ (l.take k).drop i = l.take k := by
      have := List.take_append_drop i (l.take k)
      rwa [List.take_take, Nat.min_eq_left h2] at this
    rw [iqt, cnd_true, e]
    exact ⟨l, rfl, by rw [List.length_take, Nat.min_eq_left hk], rfl⟩
  rw [iqf (by omega), cnd_false]
  have s1 := slc_some (l := l) (a := 0) (b := i) (by omega) (by omega)
  rw [List.drop_zero, Nat.sub_zero] at s1
  have s2 := slc_some (l := l) (a := j) (b := k) h2 hk
  have e2 : (l.drop j).take (k - j) = (l.take k).drop j := by rw [List.drop_take]
  rw [e2] at s2
  have s1' : slc l 0 (i : Int) = some (l.take i) := s1
  have l1 : (l.take i).length = i := by rw [List.length_take]; omega
  have l2 : ((l.take k).drop j).length = k - j := by rw [List.length_drop, List.length_take]; omega
  rw [s1', bnd_some, s2, bnd_some, l1, l2, chkP_pos (by omega), chkP_pos (by omega), nam_eq]
  have hov : (ovr l i ((l.take k).drop j)).length = l.length := ovr_len (by rw [l2]; omega)
  have ht := ovr_take (l := l) (s := (l.take k).drop j) (k := i) (by omega)
  rw [l2] at ht
  have hvl : (l.take i ++ (l.take k).drop j).length = i + (k - j) := by rw [List.length_append, l1, l2]
  have s3 : slc (ovr l i ((l.take k).drop j)) 0 ((i : Int) + ((k - j : Nat) : Int)) = some (l.take i ++ (l.take k).drop j) := by
    have := slc_front (l := ovr l i ((l.take k).drop j)) (n := l.take i ++ (l.take k).drop j) (by rw [hvl]; exact ht)
    rw [hvl] at this
    rwa [Int.natCast_add] at this
  rw [s3, bnd_some, hvl]
  have s4 := slc_some (l := ovr l i ((l.take k).drop j)) (a := i + (k - j)) (b := k) (by omega) (by rw [hov]; exact hk)
  rw [s4, bnd_some, nam_eq, Int.toNat_natCast]
  refine ⟨_, rfl, ?_, ?_⟩
  · rw [clr_take (by rw [hov]; omega), ht]
  · rw [clrL_len, hov]
    rw [List.length_take, List.length_drop, hov]; omega
theorem fst_cases {α : Type} (q : α → Bool) (l : List α) : (fst q l = -1 ∧ ∀ x ∈ l, q x = false) ∨ ∃ (i : Nat) (hi : i < l.length), fst q l = (i : Int) ∧ q l[i] = true ∧ ∀ (k : Nat) (hk : k < i), q l[k] = false := by
  unfold fst
  cases h : l.findIdx? q with
  | none => exact .inl ⟨rfl, List.findIdx?_eq_none_iff.1 h⟩
  | some i =>
    obtain ⟨hi, h1, h2⟩ := List.findIdx?_eq_some_iff_getElem.1 h
    exact .inr ⟨i, hi, rfl, h1, fun k hk => by simpa using h2 k hk⟩
theorem ins_KeptM {k i : Nat} {l v : List TKeptR} (hk : k ≤ l.length) (h1 : i ≤ k) (hv : 0 < v.length) (hv2 : v.length ≤ 8) (he : k < l.length → k + v.length ≤ l.length ∨ i < k) (hl : l.length ≤ 1048576) :
    ∃ l', slices_Insert_KeptR k (i : Int) l v = some (l.take i ++ v ++ (l.take k).drop i, l') ∧ l'.take (l.take i ++ v ++ (l.take k).drop i).length = l.take i ++ v ++ (l.take k).drop i ∧ l'.length = l.length + (k + v.length - l.length) := by
  unfold slices_Insert_KeptR
  have hvl : (l.take i ++ v ++ (l.take k).drop i).length = k + v.length := by
    simp only [List.length_append, List.length_take, List.length_drop]; omega
  by_cases hi : i = k
  · subst hi
    rw [iqt, cnd_true, chkP_pos hk, slc_some (Nat.le_refl _) hk, bnd_some, iqf (by omega), cnd_false]
    have hd : (l.take i).drop i = [] := List.drop_eq_nil_of_le (by rw [List.length_take]; omega)
    rw [hd, List.append_nil]
    by_cases hw : i = l.length
    · subst hw
      rw [iqt, cnd_true, chkP_pos (by omega), nam_eq, List.take_length]
      exact ⟨_, rfl, by rw [List.take_length], by rw [List.length_append]; omega⟩
    · have hf : i + v.length ≤ l.length := by rcases he (by omega) with h | h <;> omega
      rw [iqf (by omega), cnd_false, chkP_pos hf, chkP_pos (by omega), nam_eq]
      have ht := ovr_take (l := l) (s := v) (k := i) (by omega)
      have hl2 : (l.take i ++ v).length = i + v.length := by rw [List.length_append, List.length_take]; omega
      have s3 : slc (ovr l i v) 0 ((i : Int) + (v.length : Int)) = some (l.take i ++ v) := by
        have := slc_front (l := ovr l i v) (n := l.take i ++ v) (by rw [hl2]; exact ht)
        rw [hl2] at this
        rwa [Int.natCast_add] at this
      rw [s3, bnd_some]
      exact ⟨_, rfl, by rw [hl2]; exact ht, by rw [ovr_len hf]; omega⟩
  · rw [iqf (by omega), cnd_false, chkP_pos (by omega)]
    refine ⟨_, rfl, ?_, ?_⟩
    · unfold insR insL
      simp only [Int.toNat_natCast]
      exact List.take_left
    · rw [insR_len (by simp; omega) hk]; omega
theorem eraseP_at {α : Type} {p : α → Bool} : ∀ {l : List α} {i : Nat} (hi : i < l.length), p l[i] = true → (∀ (k : Nat) (hk : k < i), p (l[k]'(by omega)) = false) → l.eraseP p = l.take i ++ l.drop (i + 1)
  | [], i, hi, _, _ => by simp at hi
  | x :: l, 0, _, h, _ => by simp only [List.getElem_cons_zero] at h; simp [List.eraseP_cons_of_pos h]
  | x :: l, i + 1, hi, h, hk => by
    have h0 := hk 0 (by omega)
    simp only [List.getElem_cons_zero] at h0
    rw [List.eraseP_cons_of_neg (by simp [h0])]
    simp only [List.getElem_cons_succ] at h
    rw [eraseP_at (l := l) (i := i) (by simpa using hi) h (fun k hk' => by
      have := hk (k + 1) (by omega)
      simpa using this)]
    simp
theorem toFrontG_ok {k : TKeptR} {m : Int} {g : Nat} {l : List TKeptR} (hm : 0 ≤ m) (hn : l.length ≤ 1000) : ∃ l', impl_Cache_toFrontR k m g l = some (m, (k :: l.eraseP (fun y => ieq y.id k.id)).take m.toNat, l') ∧ l'.take ((k :: l.eraseP (fun y => ieq y.id k.id)).take m.toNat).length = (k :: l.eraseP (fun y => ieq y.id k.id)).take m.toNat ∧ l'.length = (l.eraseP (fun y => ieq y.id k.id)).length + 1 := by
  unfold impl_Cache_toFrontR
  rw [m_keptAt (by (try dsimp only) <;> omega), bnd_some]
  have cut : ∀ (r : List TKeptR) (L : List TKeptR), r.take L.length = L → L.length ≤ r.length → r.length ≤ 100000 → ∃ l', (cnd (ile (L.length : Int) m) (some (m, L, r)) (bnd (slices_Delete_KeptR L.length m (L.length : Int) r) fun (w11, w12) => bnd (slc w12 0 (List.length w11 : Int)) fun v13 => some (m, v13, w12))) = some (m, L.take m.toNat, l') ∧ l'.take (L.take m.toNat).length = L.take m.toNat ∧ l'.length = r.length := by
    intro r L h1 h2 h3
    by_cases hc : (L.length : Int) ≤ m
    · rw [ilt hc, cnd_true, List.take_of_length_le (by omega)]
      exact ⟨r, rfl, h1, rfl⟩
    · rw [ilf (by omega), cnd_false]
      obtain ⟨l', d1, d2, d3⟩ := del_Kept (k := L.length) (i := m.toNat) (j := L.length) (l := r) h2 (by omega) (Nat.le_refl _) (by omega)
      have hd : (r.take L.length).drop L.length = [] := List.drop_eq_nil_of_le (by rw [List.length_take]; omega)
      have ht : r.take m.toNat = L.take m.toNat := by
        have := congrArg (List.take m.toNat) h1
        rwa [List.take_take, Nat.min_eq_left (by omega)] at this
      rw [hd, List.append_nil, ht] at d1 d2
      have hmm : (m.toNat : Int) = m := by omega
      rw [hmm] at d1
      rw [d1, bnd_some]
      try dsimp only
      rw [slc_front d2, bnd_some]
      exact ⟨l', rfl, d2, d3⟩
  rcases fst_cases (fun y : TKeptR => ieq y.id k.id) l with ⟨f1, f2⟩ | ⟨i, hlt, f1, f2, f3⟩
  · have f1' : firstId l k.id = -1 := f1
    have he : l.eraseP (fun y => ieq y.id k.id) = l := List.eraseP_of_forall_not fun a ha => by simp [f2 a ha]
    rw [he, f1', ilf (by omega), cnd_false]
    obtain ⟨l2, i1, i2, i3⟩ := ins_KeptM (k := l.length) (i := 0) (l := l) (v := [k]) (Nat.le_refl _) (by omega) (by simp) (by simp) (fun hx => absurd hx (by omega)) (by omega)
    simp only [List.take_zero, List.nil_append, List.drop_zero, List.singleton_append, List.take_length, List.length_singleton] at i1 i2 i3
    have i1' : slices_Insert_KeptR l.length 0 l [k] = some (k :: l, l2) := i1
    rw [i1', bnd_some]
    try dsimp only
    rw [slc_front i2, bnd_some]
    obtain ⟨l', c1, c2, c3⟩ := cut l2 _ i2 (by have := congrArg List.length i2; rw [List.length_take] at this; omega) (by omega)
    exact ⟨l', c1, c2, by rw [c3, i3]; omega⟩
  · have f1' : firstId l k.id = (i : Int) := f1
    have he := eraseP_at (p := fun y => ieq y.id k.id) hlt f2 f3
    rw [he, f1', ilt (by omega), cnd_true, wr_in (by omega)]
    obtain ⟨l1, d1, d2, d3⟩ := del_Kept (k := l.length) (i := i) (j := i + 1) (l := l) (Nat.le_refl _) (by omega) hlt (by omega)
    rw [List.take_length, Int.natCast_add] at d1
    rw [List.take_length] at d2
    have d1' : slices_Delete_KeptR l.length (i : Int) ((i : Int) + 1) l = some (l.take i ++ l.drop (i + 1), l1) := d1
    rw [d1', bnd_some]
    try dsimp only
    rw [slc_front d2, bnd_some]
    have e1 : (l.take i ++ l.drop (i + 1)).length = l.length - 1 := by simp only [List.length_append, List.length_take, List.length_drop]; omega
    obtain ⟨l2, i1, i2, i3⟩ := ins_KeptM (k := (l.take i ++ l.drop (i + 1)).length) (i := 0) (l := l1) (v := [k]) (by omega) (by omega) (by simp) (by simp) (fun hx => .inl (by simp only [List.length_singleton]; omega)) (by omega)
    rw [d2] at i1 i2
    simp only [List.take_zero, List.nil_append, List.drop_zero, List.singleton_append, List.length_singleton] at i1 i2 i3
    have i1' : slices_Insert_KeptR (l.take i ++ l.drop (i + 1)).length 0 l1 [k] = some (k :: (l.take i ++ l.drop (i + 1)), l2) := i1
    rw [i1', bnd_some]
    try dsimp only
    rw [slc_front i2, bnd_some]
    obtain ⟨l', c1, c2, c3⟩ := cut l2 _ i2 (by have := congrArg List.length i2; rw [List.length_take] at this; omega) (by omega)
    exact ⟨l', c1, c2, by rw [c3, i3]; omega⟩

end Na
end Go.Proofs.Ytapchldnmkfkoaa.Am
