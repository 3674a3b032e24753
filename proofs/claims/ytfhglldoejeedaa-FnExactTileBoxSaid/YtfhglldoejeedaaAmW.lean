import Derived.Test.YtfhglldoejeedaaAmV
namespace Go.Proofs.Ytfhglldoejeedaa.Am
open Go

variable {P : Program}

mutual
theorem ren_VR {φ : FM} {m m' : LM} {f : Nat → Nat} : ∀ (a : AV) {v : Value}, (∀ i ∈ ids a, ∀ l, m i = some l → m' (f i) = some l) → VR φ m a v → VR φ m' (ren f a) v
  | .any, _, _, _ => by simp [ren, VR]
  | .bool _, _, _, h => by simpa [ren, VR] using h
  | .int _ _, _, _, h => by simpa [ren, VR] using h
  | .str _, _, _, h => by simpa [ren, VR] using h
  | .agg cs, v, hf, h => by
    simp only [ren, VR] at h ⊢
    obtain ⟨h1, a, rfl, h2⟩ := h
    exact ⟨renL_one cs h1, a, rfl, renL_VRL cs (by simpa [ids] using hf) h2⟩
  | .tup cs, v, hf, h => by
    simp only [ren, VR] at h ⊢
    obtain ⟨a, rfl, h2⟩ := h
    exact ⟨a, rfl, renL_VRL cs (by simpa [ids] using hf) h2⟩
  | .fsl _, _, _, h => by simpa [ren, VR] using h
  | .fptr _ _, _, _, h => by simpa [ren, VR] using h
  | .osl id off len tot, v, hf, h => by
    simp only [ren, VR] at h ⊢
    obtain ⟨h0, l, h1, h2⟩ := h
    exact ⟨h0, l, hf id (by simp [ids]) l h1, h2⟩
  | .optr id off tot, v, hf, h => by
    simp only [ren, VR] at h ⊢
    obtain ⟨h0, l, h1, h2⟩ := h
    exact ⟨h0, l, hf id (by simp [ids]) l h1, h2⟩
  | .eptr id ix off tot, v, hf, h => by
    simp only [ren, VR] at h ⊢
    obtain ⟨h0, l, h1, h2⟩ := h
    exact ⟨h0, l, hf id (by simp [ids]) l h1, h2⟩
  | .func fn a c, v, hf, h => by
    simp only [ren, VR] at h ⊢
    obtain ⟨f', c', rfl, h1, h2⟩ := h
    exact ⟨f', c', rfl, renL_VRL a (fun i hi => hf i (by simp [ids, hi])) h1, renL_VRL c (fun i hi => hf i (by simp [ids, hi])) h2⟩
  | .nilf, _, _, h => by simpa [ren, VR] using h
  | .nilp, _, _, h => by simpa [ren, VR] using h
  | .nilsl, _, _, h => by simpa [ren, VR] using h
  | .nili, _, _, h => by simpa [ren, VR] using h
theorem renL_VRL {φ : FM} {m m' : LM} {f : Nat → Nat} : ∀ (a : List AV) {v : List Value}, (∀ i ∈ idsL a, ∀ l, m i = some l → m' (f i) = some l) → VRL φ m a v → VRL φ m' (renL f a) v
  | [], _, _, h => by simpa [renL, VRL] using h
  | c :: cs, v, hf, h => by
    simp only [renL, VRL] at h ⊢
    obtain ⟨v, vs, rfl, h1, h2⟩ := h
    exact ⟨v, vs, rfl, ren_VR c (fun i hi => hf i (by simp [idsL, hi])) h1, renL_VRL cs (fun i hi => hf i (by simp [idsL, hi])) h2⟩
theorem ren_one {f : Nat → Nat} : ∀ (a : AV), a.one = true → (ren f a).one = true
  | .any, h => by simp [AV.one] at h
  | .bool _, _ | .int _ _, _ | .str _, _ | .fsl _, _ | .fptr _ _, _ | .osl .., _ | .optr .., _ | .eptr .., _ | .func .., _ | .nilf, _ | .nilp, _ | .nilsl, _ | .nili, _ => by simp [ren, AV.one]
  | .agg _, h => by simp [AV.one] at h
  | .tup _, h => by simp [AV.one] at h
theorem renL_one {f : Nat → Nat} : ∀ (a : List AV), a.all AV.one = true → (renL f a).all AV.one = true
  | [], _ => by simp [renL]
  | c :: cs, h => by
    simp only [List.all_cons, Bool.and_eq_true, renL] at h ⊢
    exact ⟨ren_one c h.1, renL_one cs h.2⟩
end

theorem renL_len {f : Nat → Nat} : ∀ (a : List AV), (renL f a).length = a.length
  | [] => rfl
  | c :: cs => by simp [renL, renL_len cs]

theorem ren_len {f : Nat → Nat} (o : Ob) : (o.ren f).len = o.len := by
  cases o <;> simp [Ob.ren, Ob.len, renL_len]

theorem ObR_ren {φ φ' : FM} {m m' : LM} {w w' : World} {l : Loc} {ob : Ob} {f : Nat → Nat} (h : ObR φ m w l ob) (hf : ∀ i ∈ ob.ids, ∀ l, m i = some l → m' (f i) = some l)
    (hle : φ.le φ') (hb : 0 < l.cap → w'.heap[l.blk]? = w.heap[l.blk]?) (hφ : 0 < l.cap → φ' l.blk = φ l.blk) : ObR φ' m' w' l (ob.ren f) := by
  refine ⟨by rw [h.top, ren_len], fun cs e => ?_, fun esz es ro e => ?_⟩
  · cases ob with
    | arr _ _ _ => simp [Ob.ren] at e
    | box cs0 =>
      simp only [Ob.ren, Ob.box.injEq] at e
      subst e
      obtain ⟨a1, a2, a3, a4, a, t, a5, a6⟩ := h.box cs0 rfl
      exact ⟨a1, ⟨by rw [renL_len]; exact a2.1, a2.2⟩, by rw [hφ a2.2]; exact a3, renL_one _ a4, a, t, by rw [hb a2.2]; exact a5, VRL.mono hle _ (Ext.refl _) (renL_VRL cs0 hf a6)⟩
  · cases ob with
    | box _ => simp [Ob.ren] at e
    | arr esz0 es0 ro0 =>
      simp only [Ob.ren] at e
      cases e
      obtain ⟨a1, a2, a3, a4, a5⟩ := h.arr _ _ _ rfl
      refine ⟨a1, a2, a3, a4, ?_⟩
      rcases a5 with h0 | ⟨a, t, a5, a6, a7, a8⟩
      · exact .inl h0
      · by_cases hz : l.cap = 0
        · exact .inl hz
        · exact .inr ⟨a, t, by rw [hb (by omega)]; exact a5, a6, by rw [hφ (by omega)]; exact a7, VRL.mono hle _ (Ext.refl _) a8⟩

theorem Ob.ren_id (o : Ob) : True := trivial

theorem nodup_clo (g : Nat → Option Ob) : ∀ (d : Nat) (l : List Nat), l.Nodup → (clo g d l).Nodup
  | 0, _, h => h
  | d + 1, l, h => nodup_clo g d _ (nodup_addTo _ _ h)

theorem mem_clo (g : Nat → Option Ob) : ∀ (d : Nat) (l : List Nat) (i : Nat), i ∈ l → i ∈ clo g d l
  | 0, _, _, h => h
  | d + 1, l, i, h => mem_clo g d _ i ((mem_addTo _ _ _).2 (.inl h))

theorem closed_mem {g : Nat → Option Ob} {l : List Nat} (h : closed g l = true) {i j : Nat} {ob : Ob} (hi : i ∈ l) (hg : g i = some ob) (hj : j ∈ ob.ids) : j ∈ l := by
  unfold closed at h
  have := (List.all_eq_true.1 h) i hi
  rw [hg] at this
  have := (List.all_eq_true.1 this) j hj
  simpa using this

theorem outOf_get {g : Nat → Option Ob} : ∀ {is : List Nat} {obs : List Ob}, outOf g is = some obs → obs.length = is.length ∧ ∀ (k i : Nat), is[k]? = some i → ∃ ob, obs[k]? = some ob ∧ g i = some ob
  | [], obs, h => by simp only [outOf, Option.some.injEq] at h; subst h; simp
  | i :: is, obs, h => by
    simp only [outOf] at h
    split at h
    · rename_i o os h1 h2
      cases h
      obtain ⟨k1, k2⟩ := outOf_get h2
      refine ⟨by simp [k1], fun k j hk => ?_⟩
      cases k with
      | zero => simp at hk; subst hk; exact ⟨o, by simp, h1⟩
      | succ k => simpa using k2 k j (by simpa using hk)
    · cases h

theorem ixOf_get : ∀ {is : List Nat} {i : Nat}, i ∈ is → is[ixOf is i]? = some i
  | [], i, h => by simp at h
  | x :: xs, i, h => by
    unfold ixOf
    split
    · rename_i e; simp [e]
    · rename_i e
      have : i ∈ xs := by rcases List.mem_cons.1 h with h | h; exact absurd h.symm e; exact h
      simpa using ixOf_get this

theorem ixOf_lt {is : List Nat} {i : Nat} (h : i ∈ is) : ixOf is i < is.length := (List.getElem?_eq_some_iff.1 (ixOf_get h)).1

theorem ixOf_out : ∀ {is : List Nat} {i : Nat}, i ∉ is → ixOf is i = is.length
  | [], i, _ => rfl
  | x :: xs, i, h => by
    simp only [List.mem_cons, not_or] at h
    unfold ixOf
    rw [if_neg (fun e => h.1 e.symm), ixOf_out h.2]; rfl

theorem get_ixOf : ∀ {is : List Nat}, is.Nodup → ∀ {k i : Nat}, is[k]? = some i → ixOf is i = k
  | [], _, k, i, h => by simp at h
  | x :: xs, hn, 0, i, h => by simp at h; subst h; simp [ixOf]
  | x :: xs, hn, k + 1, i, h => by
    simp only [List.nodup_cons] at hn
    have h' : xs[k]? = some i := by simpa using h
    unfold ixOf
    rw [if_neg (by rintro rfl; exact hn.1 (List.mem_of_getElem? h')), get_ixOf hn.2 h']

theorem lkp_zipTo {is : List Nat} : ∀ {obs : List Ob} {i : Nat}, is.Nodup → is.length ≤ obs.length → lkp (zipTo is obs) i = if i ∈ is then obs[ixOf is i]? else none := by
  induction is with
  | nil => intro obs i _ _; cases obs <;> simp [zipTo, lkp]
  | cons x xs ih =>
    intro obs i hn hl
    cases obs with
    | nil => simp at hl
    | cons o os =>
      simp only [List.nodup_cons] at hn
      simp only [zipTo, lkp]
      by_cases e : x = i
      · subst e
        simp [ixOf]
      · rw [if_neg e, ih hn.2 (by simpa using hl)]
        have e' : ¬ (i = x) := fun h => e h.symm
        simp only [List.mem_cons, e', false_or]
        by_cases hm : i ∈ xs
        · simp only [if_pos hm, ixOf, if_neg e]
          simp
        · simp only [if_neg hm]

theorem lkp_zipAt : ∀ {obs : List Ob} {nx i : Nat}, lkp (zipAt nx obs) i = if nx ≤ i then obs[i - nx]? else none
  | [], nx, i => by simp [zipAt, lkp]
  | o :: os, nx, i => by
    simp only [zipAt, lkp]
    rw [lkp_zipAt]
    by_cases e : nx = i
    · subst e; simp
    · rw [if_neg e]
      by_cases h : nx ≤ i
      · rw [if_pos h, if_pos (by omega)]
        have : i - nx = (i - (nx + 1)) + 1 := by omega
        rw [this]; simp
      · rw [if_neg h, if_neg (by omega)]
end Go.Proofs.Ytfhglldoejeedaa.Am
