import Derived.Test.YtfhglldoejeedaaAmW
namespace Go.Proofs.Ytfhglldoejeedaa.Am
open Go

variable {P : Program}

section
variable {φ : FM} {m : LM} {g gi : Nat → Option Ob} {w w' : World}

/-- Which locations the objects have that are handed over. -/
def subM (m : LM) (js : List Nat) : LM := fun k => match js[k]? with | some i => m i | none => none

theorem inv_sub (hi : Inv φ m g w) {js : List Nat} {obs : List Ob} (hn : js.Nodup) (hl : obs.length = js.length)
    (ho : ∀ (k i : Nat), js[k]? = some i → ∃ ob, obs[k]? = some ob ∧ g i = some ob) (hc : ∀ i ∈ js, ∀ ob, g i = some ob → ∀ j ∈ ob.ids, j ∈ js) :
    Inv φ (subM m js) (fun k => (obs.map (Ob.ren (ixOf js)))[k]?) w := by
  have hsub : ∀ i ∈ js, ∀ l, m i = some l → subM m js (ixOf js i) = some l := by
    intro i hi l h; unfold subM; rw [ixOf_get hi]; exact h
  have key : ∀ (k : Nat) (ob' : Ob), (obs.map (Ob.ren (ixOf js)))[k]? = some ob' → ∃ (i : Nat) (ob : Ob), js[k]? = some i ∧ g i = some ob ∧ ob' = ob.ren (ixOf js) := by
    intro k ob' h
    rw [List.getElem?_map, Option.map_eq_some_iff] at h
    obtain ⟨ob, h1, rfl⟩ := h
    have hk : k < js.length := by have := (List.getElem?_eq_some_iff.1 h1).1; omega
    obtain ⟨ob2, h2, h3⟩ := ho k js[k] (List.getElem?_eq_getElem hk)
    rw [h1] at h2; cases h2
    exact ⟨js[k], ob, List.getElem?_eq_getElem hk, h3, rfl⟩
  refine ⟨hi.fz, fun k ob' h => ?_, fun k k' ob1 ob2 l l' h1 h2 h3 h4 h5 h6 h7 => ?_⟩
  · obtain ⟨i, ob, h1, h2, rfl⟩ := key k ob' h
    obtain ⟨l, hm, hr⟩ := hi.own i ob h2
    refine ⟨l, by unfold subM; rw [h1]; exact hm, ObR_ren hr (fun j hj l' hl' => hsub j (hc i (List.mem_of_getElem? h1) ob h2 j hj) l' hl') (FM.le_refl _) (fun _ => rfl) (fun _ => rfl)⟩
  · obtain ⟨i, o1, a1, a2, rfl⟩ := key k ob1 h1
    obtain ⟨i', o2, b1, b2, rfl⟩ := key k' ob2 h2
    simp only [subM, a1] at h3
    simp only [subM, b1] at h4
    refine hi.sep i i' o1 o2 l l' a2 b2 h3 h4 ?_ h6 h7
    rintro rfl
    exact h5 (by rw [← get_ixOf hn a1, get_ixOf hn b1])

theorem merge (hi : Inv φ m g w) {js : List Nat} {obs obs' : List Ob} {φ' : FM} {mc : LM} {nx : Nat} {v : AV} {cv : Value} (hn : js.Nodup) (hl : obs.length = js.length)
    (ho : ∀ (k i : Nat), js[k]? = some i → ∃ ob, obs[k]? = some ob ∧ g i = some ob)
    (hfr : ∀ i, nx ≤ i → i < nx + (obs'.length - js.length) → g i = none ∧ m i = none)
    (hle : js.length ≤ obs'.length) (hmc : ∀ i, obs'.length ≤ i → mc i = none)
    (hi' : Inv φ' mc (fun k => obs'[k]?) w') (hF : Fr φ (subM m js) (fun k => (obs.map (Ob.ren (ixOf js)))[k]?) w φ' mc (fun k => obs'[k]?) w') (hv : VR φ' mc v cv) :
    let back := fun i => if i < js.length then js.getD i 0 else nx + (i - js.length)
    let obs'' := obs'.map (Ob.ren back)
    ∃ m', VR φ' m' (ren back v) cv ∧ Inv φ' m' (upd g (zipTo js obs'' ++ zipAt nx (obs''.drop js.length))) w' ∧ Fr φ m g w φ' m' (upd g (zipTo js obs'' ++ zipAt nx (obs''.drop js.length))) w' ∧
      ∀ i, (nx + (obs'.length - js.length) ≤ i ∨ lkp (zipTo js obs'' ++ zipAt nx (obs''.drop js.length)) i = none) → m i = none → m' i = none := by
  intro back obs''
  let m' : LM := fun i => if i ∈ js then mc (ixOf js i) else if nx ≤ i ∧ i < nx + (obs'.length - js.length) then mc (js.length + (i - nx)) else m i
  have hjs : ∀ i ∈ js, ∃ ob, g i = some ob := by
    intro i h
    obtain ⟨ob, _, h2⟩ := ho _ i (ixOf_get h)
    exact ⟨ob, h2⟩
  have hnew : ∀ i, nx ≤ i → i < nx + (obs'.length - js.length) → i ∉ js := by
    intro i h1 h2 h3
    obtain ⟨ob, h4⟩ := hjs i h3
    rw [(hfr i h1 h2).1] at h4; cases h4
  -- where the callee's number k is, seen from the caller
  have hback : ∀ k l, mc k = some l → m' (back k) = some l := by
    intro k l hk
    have hklt : k < obs'.length := by
      rcases Nat.lt_or_ge k obs'.length with h | h
      · exact h
      · rw [hmc k h] at hk; cases hk
    show (if back k ∈ js then _ else _) = _
    by_cases h1 : k < js.length
    · have hb : back k = js[k] := by
        show (if k < js.length then js.getD k 0 else _) = _
        rw [if_pos h1]; simp [h1]
      rw [hb, if_pos (List.getElem_mem h1), get_ixOf hn (List.getElem?_eq_getElem h1)]
      exact hk
    · have hb : back k = nx + (k - js.length) := by
        show (if k < js.length then js.getD k 0 else _) = _
        rw [if_neg h1]
      rw [hb, if_neg (hnew _ (by omega) (by omega)), if_pos (by omega)]
      rw [show js.length + (nx + (k - js.length) - nx) = k by omega]
      exact hk
  have hext : Ext m m' := by
    intro i l hl'
    show ∃ l', (if i ∈ js then _ else _) = some l' ∧ _
    by_cases h1 : i ∈ js
    · rw [if_pos h1]
      exact hF.ext (ixOf js i) l (by unfold subM; rw [ixOf_get h1]; exact hl')
    · rw [if_neg h1]
      by_cases h2 : nx ≤ i ∧ i < nx + (obs'.length - js.length)
      · rw [(hfr i h2.1 h2.2).2] at hl'; cases hl'
      · rw [if_neg h2]; exact ⟨l, hl', Nat.le_refl _, fun _ => rfl⟩
  have hownc : ∀ b, ownB (fun k => (obs.map (Ob.ren (ixOf js)))[k]?) (subM m js) b → ∃ i ∈ js, ∃ ob l, g i = some ob ∧ m i = some l ∧ 0 < l.cap ∧ l.blk = b := by
    rintro b ⟨k, ob', l, h1, h2, h3, h4⟩
    have hk : k < js.length := by have := (List.getElem?_eq_some_iff.1 h1).1; simp at this; omega
    obtain ⟨ob, _, h6⟩ := ho k js[k] (List.getElem?_eq_getElem hk)
    simp only [subM, List.getElem?_eq_getElem hk] at h2
    exact ⟨js[k], List.getElem_mem hk, ob, l, h6, h2, h3, h4⟩
  -- what the caller's heap has behind the call
  have hlen'' : obs''.length = obs'.length := by simp [obs'']
  have hget : ∀ i, upd g (zipTo js obs'' ++ zipAt nx (obs''.drop js.length)) i = if i ∈ js then obs''[ixOf js i]? else if nx ≤ i ∧ i < nx + (obs'.length - js.length) then obs''[js.length + (i - nx)]? else g i := by
    intro i
    rw [upd_get, lkp_append, lkp_zipTo hn (by omega), lkp_zipAt]
    by_cases h1 : i ∈ js
    · have : ixOf js i < obs''.length := by have := ixOf_lt h1; omega
      simp only [if_pos h1, List.getElem?_eq_getElem this]
    · simp only [if_neg h1]
      by_cases h2 : nx ≤ i
      · simp only [if_pos h2, List.getElem?_drop]
        by_cases h3 : i < nx + (obs'.length - js.length)
        · have : js.length + (i - nx) < obs''.length := by omega
          rw [if_pos ⟨h2, h3⟩, List.getElem?_eq_getElem this]
        · rw [if_neg (by omega), List.getElem?_eq_none (by omega)]
      · simp only [if_neg h2]
        rw [if_neg (by omega)]
  have hsz := hF.size
  -- an object that was not handed over
  have hoth : ∀ i ob l, i ∉ js → g i = some ob → m i = some l → 0 < l.cap → w'.heap[l.blk]? = w.heap[l.blk]? ∧ φ' l.blk = φ l.blk := by
    intro i ob l h1 h2 h3 h4
    have hlt := hi.lt ⟨i, ob, l, h2, h3, h4, rfl⟩
    have hno : ¬ ownB (fun k => (obs.map (Ob.ren (ixOf js)))[k]?) (subM m js) l.blk := by
      intro h
      obtain ⟨j, hj, ob2, l2, k1, k2, k3, k4⟩ := hownc _ h
      exact hi.sep i j ob ob2 l l2 h2 k1 h3 k2 (by rintro rfl; exact h1 hj) h4 k3 k4.symm
    refine ⟨hF.old _ hlt hno, ?_⟩
    cases hp : φ l.blk with
    | some o => exact hF.φle _ _ hp
    | none =>
      cases hq : φ' l.blk with
      | none => rfl
      | some o =>
        rcases hF.newφ _ _ hq with h | h | h
        · rw [hp] at h; cases h
        · omega
        · exact absurd h hno
  have hm'js : ∀ i ∈ js, m' i = mc (ixOf js i) := fun i h => if_pos h
  have hm'new : ∀ i, i ∉ js → nx ≤ i ∧ i < nx + (obs'.length - js.length) → m' i = mc (js.length + (i - nx)) := fun i h1 h2 => by
    show (if i ∈ js then _ else _) = _; rw [if_neg h1, if_pos h2]
  have hm'old : ∀ i, i ∉ js → ¬ (nx ≤ i ∧ i < nx + (obs'.length - js.length)) → m' i = m i := fun i h1 h2 => by
    show (if i ∈ js then _ else _) = _; rw [if_neg h1, if_neg h2]
  -- each object behind the call: the callee's, or one that was not handed over
  have hcase : ∀ i ob, upd g (zipTo js obs'' ++ zipAt nx (obs''.drop js.length)) i = some ob →
      (∃ (k : Nat) (ob0 : Ob), obs'[k]? = some ob0 ∧ ob = ob0.ren back ∧ m' i = mc k ∧ ∀ i' , (i' ∈ js ∧ ixOf js i' = k) ∨ (i' ∉ js ∧ nx ≤ i' ∧ js.length + (i' - nx) = k) → i' = i) ∨ (i ∉ js ∧ g i = some ob ∧ m' i = m i) := by
    intro i ob h
    rw [hget] at h
    by_cases h1 : i ∈ js
    · rw [if_pos h1, List.getElem?_map, Option.map_eq_some_iff] at h
      obtain ⟨ob0, h2, rfl⟩ := h
      refine .inl ⟨ixOf js i, ob0, h2, rfl, hm'js i h1, fun i' hi' => ?_⟩
      rcases hi' with ⟨a1, a2⟩ | ⟨a1, a2, a3⟩
      · have e1 := ixOf_get a1
        have e2 := ixOf_get h1
        rw [a2, e2] at e1
        exact (Option.some.inj e1).symm
      · have := ixOf_lt h1; omega
    · rw [if_neg h1] at h
      by_cases h2 : nx ≤ i ∧ i < nx + (obs'.length - js.length)
      · rw [if_pos h2, List.getElem?_map, Option.map_eq_some_iff] at h
        obtain ⟨ob0, h3, rfl⟩ := h
        refine .inl ⟨_, ob0, h3, rfl, hm'new i h1 h2, fun i' hi' => ?_⟩
        rcases hi' with ⟨a1, a2⟩ | ⟨a1, a2, a3⟩
        · have := ixOf_lt a1; omega
        · omega
      · rw [if_neg h2] at h
        exact .inr ⟨h1, h, hm'old i h1 h2⟩
  have hcblk : ∀ (k : Nat) (ob : Ob) (l : Loc), obs'[k]? = some ob → mc k = some l → 0 < l.cap → w.heap.size ≤ l.blk ∨ ∃ i ∈ js, ∃ ob l', g i = some ob ∧ m i = some l' ∧ 0 < l'.cap ∧ l'.blk = l.blk := by
    intro k ob l h1 h2 h3
    rcases hF.newm l.blk ⟨k, ob, l, h1, h2, h3, rfl⟩ with h | h
    · exact .inl h
    · exact .inr (hownc _ h)
  have hold : ∀ i ob l, i ∉ js → g i = some ob → m i = some l → 0 < l.cap → ∀ (k : Nat) (ob' : Ob) (l' : Loc), obs'[k]? = some ob' → mc k = some l' → 0 < l'.cap → l.blk ≠ l'.blk := by
    intro i ob l h1 h2 h3 h4 k ob' l' k1 k2 k3 e
    rcases hcblk k ob' l' k1 k2 k3 with h | ⟨j, hj, ob2, l2, q1, q2, q3, q4⟩
    · have := hi.lt ⟨i, ob, l, h2, h3, h4, rfl⟩; omega
    · exact hi.sep i j ob ob2 l l2 h2 q1 h3 q2 (by rintro rfl; exact h1 hj) h4 q3 (by rw [q4]; exact e)
  refine ⟨m', ren_VR v (fun i _ l h => hback i l h) hv, ⟨hi'.fz, fun i ob h => ?_, fun i i' ob ob' l l' h1 h2 h3 h4 h5 h6 h7 => ?_⟩, ⟨hF.φle, hext, hF.os, hF.tape, hF.output, hF.size, fun b hb hno => ?_, fun b o hb => ?_, ?_⟩, fun i hge hm => ?_⟩
  · rcases hcase i ob h with ⟨k, ob0, h1, rfl, h2, _⟩ | ⟨h1, h2, h3⟩
    · obtain ⟨l, k1, k2⟩ := hi'.own k ob0 h1
      exact ⟨l, by rw [h2]; exact k1, ObR_ren k2 (fun j _ l' hl' => hback j l' hl') (FM.le_refl _) (fun _ => rfl) (fun _ => rfl)⟩
    · obtain ⟨l, k1, k2⟩ := hi.own i ob h2
      refine ⟨l, by rw [h3]; exact k1, k2.top, fun cs e => ?_, fun esz es ro e => ?_⟩
      · obtain ⟨a1, a2, a3, a4, a, t, a5, a6⟩ := k2.box cs e
        obtain ⟨b1, b2⟩ := hoth i ob l h1 h2 k1 a2.2
        exact ⟨a1, a2, by rw [b2]; exact a3, a4, a, t, by rw [b1]; exact a5, VRL.mono hF.φle _ hext a6⟩
      · obtain ⟨a1, a2, a3, a4, a5⟩ := k2.arr esz es ro e
        refine ⟨a1, a2, a3, a4, ?_⟩
        rcases a5 with h0 | ⟨a, t, a5, a6, a7, a8⟩
        · exact .inl h0
        · by_cases hz : l.cap = 0
          · exact .inl hz
          · obtain ⟨b1, b2⟩ := hoth i ob l h1 h2 k1 (by omega)
            exact .inr ⟨a, t, by rw [b1]; exact a5, a6, by rw [b2]; exact a7, VRL.mono hF.φle _ (Ext.refl _) a8⟩
  · rcases hcase i ob h1 with ⟨k, ob0, p1, rfl, p2, p3⟩ | ⟨p1, p2, p3⟩ <;> rcases hcase i' ob' h2 with ⟨k', ob0', q1, rfl, q2, q3⟩ | ⟨q1, q2, q3⟩
    · rw [p2] at h3; rw [q2] at h4
      refine hi'.sep k k' ob0 ob0' l l' p1 q1 h3 h4 ?_ h6 h7
      rintro rfl
      apply h5
      -- the same number of the callee's: the same of the caller's
      by_cases hk : k < js.length
      · have e1 := p3 js[k] (.inl ⟨List.getElem_mem hk, get_ixOf hn (List.getElem?_eq_getElem hk)⟩)
        have e2 := q3 js[k] (.inl ⟨List.getElem_mem hk, get_ixOf hn (List.getElem?_eq_getElem hk)⟩)
        rw [← e1, ← e2]
      · have hk2 : k < obs'.length := (List.getElem?_eq_some_iff.1 p1).1
        have hni : nx + (k - js.length) ∉ js := hnew _ (by omega) (by omega)
        have e1 := p3 (nx + (k - js.length)) (.inr ⟨hni, by omega, by omega⟩)
        have e2 := q3 (nx + (k - js.length)) (.inr ⟨hni, by omega, by omega⟩)
        rw [← e1, ← e2]
    · rw [p2] at h3; rw [q3] at h4
      exact fun e => hold i' ob' l' q1 q2 h4 h7 k ob0 l p1 h3 h6 e.symm
    · rw [p3] at h3; rw [q2] at h4
      exact hold i ob l p1 p2 h3 h6 k' ob0' l' q1 h4 h7
    · rw [p3] at h3; rw [q3] at h4
      exact hi.sep i i' ob ob' l l' p2 q2 h3 h4 h5 h6 h7
  · refine hF.old b hb fun h => hno ?_
    obtain ⟨i, _, ob, l, h1, h2, h3, h4⟩ := hownc b h
    exact ⟨i, ob, l, h1, h2, h3, h4⟩
  · rcases hF.newφ b o hb with h | h | h
    · exact .inl h
    · exact .inr (.inl h)
    · obtain ⟨i, _, ob, l, h1, h2, h3, h4⟩ := hownc b h
      exact .inr (.inr ⟨i, ob, l, h1, h2, h3, h4⟩)
  · rintro b ⟨i, ob, l, h1, h2, h3, rfl⟩
    rcases hcase i ob h1 with ⟨k, ob0, p1, _, p2, _⟩ | ⟨p1, p2, p3⟩
    · rw [p2] at h2
      rcases hcblk k ob0 l p1 h2 h3 with h | ⟨j, _, ob2, l2, q1, q2, q3, q4⟩
      · exact .inl h
      · exact .inr ⟨j, ob2, l2, q1, q2, q3, q4⟩
    · rw [p3] at h2
      exact .inr ⟨i, ob, l, p2, h2, h3, rfl⟩
  · by_cases h1 : i ∈ js
    · rw [hm'js i h1]
      cases hq : mc (ixOf js i) with
      | none => rfl
      | some l =>
        obtain ⟨ob, h2⟩ := hjs i h1
        obtain ⟨l', h3, _⟩ := hi.own i ob h2
        rw [hm] at h3; cases h3
    · rw [hm'old i h1 ?_]
      · exact hm
      · intro h2
        rcases hge with h | h
        · omega
        · rw [lkp_append, lkp_zipTo hn (by omega), if_neg h1, lkp_zipAt, if_pos h2.1] at h
          simp only [List.getElem?_drop] at h
          rw [List.getElem?_eq_none_iff] at h
          omega
end
end Go.Proofs.Ytfhglldoejeedaa.Am
