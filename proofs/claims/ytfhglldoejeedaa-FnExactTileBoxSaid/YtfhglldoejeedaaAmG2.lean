import Derived.Test.YtfhglldoejeedaaAmFn
namespace Go.Proofs.Ytfhglldoejeedaa.Am
open Go

variable {P : Program}

section
variable {φ φ' : FM} {m : LM} {g gi : Nat → Option Ob} {w w' : World}

theorem inv_sub2 (hi : Inv φ m g w) {js : List Nat} {obs : List Ob} (hn : js.Nodup) (hl : obs.length = js.length)
    (ho : ∀ (k i : Nat), js[k]? = some i → ∃ ob, obs[k]? = some ob ∧ g i = some ob) (hc : ∀ i ∈ js, ∀ ob, g i = some ob → ∀ j ∈ ob.ids, j ∈ js)
    (hle : φ.le φ') (hfz : ∀ b o, φ' b = some o → w.heap[b]? = some o) (hφ : ∀ i ∈ js, ∀ ob l, g i = some ob → m i = some l → 0 < l.cap → φ' l.blk = φ l.blk) :
    Inv φ' (subM m js) (fun k => (obs.map (Ob.ren (ixOf js)))[k]?) w := by
  have h := inv_sub hi hn hl ho hc
  refine ⟨hfz, fun k ob' hk => ?_, h.sep⟩
  obtain ⟨l, h1, h2⟩ := h.own k ob' hk
  refine ⟨l, h1, ?_⟩
  have hkl : k < js.length := by have := (List.getElem?_eq_some_iff.1 hk).1; simp at this; omega
  obtain ⟨ob, _, h4⟩ := ho k js[k] (List.getElem?_eq_getElem hkl)
  simp only [subM, List.getElem?_eq_getElem hkl] at h1
  have hb := hφ js[k] (List.getElem_mem hkl) ob l h4 h1
  refine ⟨h2.top, fun cs e => ?_, fun esz es ro e => ?_⟩
  · obtain ⟨a1, a2, a3, a4, a, t, a5, a6⟩ := h2.box cs e
    exact ⟨a1, a2, by rw [hb a2.2]; exact a3, a4, a, t, a5, VRL.mono hle _ (Ext.refl _) a6⟩
  · obtain ⟨a1, a2, a3, a4, a5⟩ := h2.arr esz es ro e
    refine ⟨a1, a2, a3, a4, ?_⟩
    rcases a5 with h0 | ⟨a, t, a5, a6, a7, a8⟩
    · exact .inl h0
    · by_cases hz : l.cap = 0
      · exact .inl hz
      · exact .inr ⟨a, t, a5, a6, by rw [hb (by omega)]; exact a7, VRL.mono hle _ (Ext.refl _) a8⟩

theorem addTo_pre : ∀ (xs l : List Nat) (i : Nat), i < l.length → (addTo l xs)[i]? = l[i]?
  | [], l, i, h => rfl
  | x :: xs, l, i, h => by
    simp only [addTo]
    split
    · exact addTo_pre xs l i h
    · rw [addTo_pre xs _ i (by simp; omega), List.getElem?_append_left h]

theorem addTo_len : ∀ (xs l : List Nat), l.length ≤ (addTo l xs).length
  | [], l => Nat.le_refl _
  | x :: xs, l => by
    simp only [addTo]
    split
    · exact addTo_len xs l
    · exact Nat.le_trans (by simp) (addTo_len xs _)

theorem clo_pre (g : Nat → Option Ob) : ∀ (d : Nat) (l : List Nat) (i : Nat), i < l.length → (clo g d l)[i]? = l[i]?
  | 0, _, _, _ => rfl
  | d + 1, l, i, h => by
    simp only [clo]
    rw [clo_pre g d _ i (Nat.lt_of_lt_of_le h (addTo_len _ _)), addTo_pre _ _ _ h]

theorem clo_len (g : Nat → Option Ob) : ∀ (d : Nat) (l : List Nat), l.length ≤ (clo g d l).length
  | 0, _ => Nat.le_refl _
  | d + 1, l => Nat.le_trans (addTo_len _ _) (clo_len g d _)

theorem done_sound {md : Md} {k : Nat} {v v' : AV} {obs' : List Ob} {cv : Value} {φ0 : FM} {m0 : LM} {g0 : Nat → Option Ob} {w0 : World} (h : doneV md k g v = some (v', obs')) (hi : Inv φ m g w) (hv : VR φ m v cv)
    (hm0 : ∀ i, k ≤ i → m0 i = none) (hF : Fr φ0 m0 g0 w0 φ m g w) :
    ∃ φ' m', VR φ' m' v' cv ∧ Inv φ' m' (fun i => obs'[i]?) w ∧ Fr φ0 m0 g0 w0 φ' m' (fun i => obs'[i]?) w ∧ (∀ i, obs'.length ≤ i → m' i = none) ∧ k ≤ obs'.length := by
  have ext : ∀ {js : List Nat}, (∀ i, i < k → js[i]? = some i) → Ext m0 (subM m js) := by
    intro js hjs i l hl
    have hik : i < k := by
      rcases Nat.lt_or_ge i k with h | h
      · exact h
      · rw [hm0 i h] at hl; cases hl
    obtain ⟨l', h1, h2⟩ := hF.ext i l hl
    exact ⟨l', by unfold subM; rw [hjs i hik]; exact h1, h2⟩
  have newm : ∀ {js : List Nat} {obs : List Ob}, obs.length = js.length → (∀ (k i : Nat), js[k]? = some i → ∃ ob, obs[k]? = some ob ∧ g i = some ob) → ∀ b, ownB (fun i => (obs.map (Ob.ren (ixOf js)))[i]?) (subM m js) b → ownB g m b := by
    rintro js obs hl ho b ⟨k, ob', l, h1, h2, h3, h4⟩
    have hk : k < js.length := by have := (List.getElem?_eq_some_iff.1 h1).1; simp at this; omega
    obtain ⟨ob, _, h6⟩ := ho k js[k] (List.getElem?_eq_getElem hk)
    simp only [subM, List.getElem?_eq_getElem hk] at h2
    exact ⟨js[k], ob, l, h6, h2, h3, h4⟩
  unfold doneV at h
  simp only at h
  generalize hreach : clo g 3 (List.range k) = reach at h
  have hrn : reach.Nodup := by rw [← hreach]; exact nodup_clo _ _ _ List.nodup_range
  have hrk : ∀ i, i < k → reach[i]? = some i := fun i hik => by rw [← hreach, clo_pre g 3 _ i (by simpa using hik)]; simp [hik]
  have hrl : k ≤ reach.length := by rw [← hreach]; have := clo_len g 3 (List.range k); simpa using this
  split at h
  · generalize hall : clo g 3 (addTo reach (ids v)) = all at h
    have han : all.Nodup := by rw [← hall]; exact nodup_clo _ _ _ (nodup_addTo _ _ hrn)
    have hak : ∀ i, i < k → all[i]? = some i := fun i hik => by
      rw [← hall, clo_pre g 3 _ i (by have := addTo_len (ids v) reach; omega), addTo_pre _ _ _ (by omega)]; exact hrk i hik
    have hal : k ≤ all.length := by rw [← hall]; have := clo_len g 3 (addTo reach (ids v)); have := addTo_len (ids v) reach; omega
    have hav : ∀ i ∈ ids v, i ∈ all := fun i hi => by rw [← hall]; exact mem_clo _ _ _ _ ((mem_addTo _ _ _).2 (.inr hi))
    split at h
    · cases h
    rename_i hcd
    simp only [Bool.not_eq_true, Bool.not_eq_false'] at hcd
    split at h
    · cases h
    rename_i obs hout
    simp only [Option.some.injEq, Prod.mk.injEq] at h
    obtain ⟨rfl, rfl⟩ := h
    obtain ⟨s1, s2⟩ := outOf_get hout
    refine ⟨φ, subM m all, ren_VR v (fun i hi l hl => by unfold subM; rw [ixOf_get (hav i hi)]; exact hl) hv, inv_sub hi han s1 s2 (fun i hi ob h1 j hj => closed_mem hcd hi h1 hj),
      ⟨hF.φle, ext hak, hF.os, hF.tape, hF.output, hF.size, hF.old, hF.newφ, fun b hb => hF.newm b (newm s1 s2 b hb)⟩, fun i hi => ?_, by simpa [s1] using hal⟩
    unfold subM
    rw [List.getElem?_eq_none (by simpa [s1] using hi)]
  · generalize hown : clo g 3 (addTo [] (ids v)) = own at h
    have hov : ∀ i ∈ ids v, i ∈ own := fun i hi => by rw [← hown]; exact mem_clo _ _ _ _ (ids_mem.2 hi)
    split at h
    · cases h
    rename_i hcd
    simp only [Bool.or_eq_true, Bool.not_eq_true', not_or, Bool.not_eq_false] at hcd
    obtain ⟨⟨hc1, hc2⟩, hc3⟩ := hcd
    split at h
    · rename_i v2 obs hfz hout
      simp only [Option.some.injEq, Prod.mk.injEq] at h
      obtain ⟨rfl, rfl⟩ := h
      obtain ⟨s1, s2⟩ := outOf_get hout
      have hdis : ∀ i ∈ own, i ∉ reach := by
        intro i h1 h2
        apply hc3
        rw [List.any_eq_true]
        exact ⟨i, h1, by simpa using h2⟩
      have hfv : VR (lend φ m g w own) LM.none v2 cv := frzW_sound hi (lend_le hi own) (bxD g 3) (lend_box (gi := g) hi (fun _ _ => rfl) (fun i hi ob h1 j hj => closed_mem hc2 hi h1 hj) 3) v hfz (fun _ _ => rfl)
        (fun i hi' => lend_cov own i (hov i hi')) hv
      refine ⟨lend φ m g w own, subM m reach, VR.mono (FM.le_refl _) _ (Ext.none _) hfv, inv_sub2 hi hrn s1 s2 (fun i hi ob h1 j hj => closed_mem hc1 hi h1 hj) (lend_le hi own) (lend_fz hi own) ?_,
        ⟨hF.φle.trans (lend_le hi own), ext hrk, hF.os, hF.tape, hF.output, hF.size, hF.old, fun b o hb => ?_, fun b hb => hF.newm b (newm s1 s2 b hb)⟩, fun i hi => ?_, by simpa [s1] using hrl⟩
      · intro i hir ob l h1 h2 h3
        unfold lend
        rw [if_neg]
        rintro ⟨j, hj, ob2, l2, k1, k2, k3, k4⟩
        exact hi.sep j i ob2 ob l2 l k1 h1 k2 h2 (by rintro rfl; exact hdis _ hj hir) k3 h3 k4
      · unfold lend at hb
        split at hb
        · rename_i hq
          obtain ⟨j, _, ob2, l2, k1, k2, k3, k4⟩ := hq
          rcases hF.newm b ⟨j, ob2, l2, k1, k2, k3, k4⟩ with h | h
          · exact .inr (.inl h)
          · exact .inr (.inr h)
        · exact hF.newφ b o hb
      · unfold subM
        rw [List.getElem?_eq_none (by simpa [s1] using hi)]
    · cases h
end
end Go.Proofs.Ytfhglldoejeedaa.Am
