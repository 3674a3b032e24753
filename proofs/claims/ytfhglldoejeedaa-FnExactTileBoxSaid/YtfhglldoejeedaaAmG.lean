import Derived.Test.YtfhglldoejeedaaAmF
namespace Go.Proofs.Ytfhglldoejeedaa.Am
open Go

variable {P : Program}

theorem frzW_one {g : Nat → Option Ob} {bx : List AV → Option (List AV)} {a a' : AV} (h : frzW g bx a = some a') (h1 : a.one = true) : a'.one = true := by
  cases a with
  | any => simp [AV.one] at h1
  | agg => simp [AV.one] at h1
  | tup => simp [AV.one] at h1
  | func fn f c =>
    simp only [frzW] at h
    split at h
    · cases h; rfl
    · cases h
  | osl => simp only [frzW] at h; (repeat' split at h) <;> first | (cases h; rfl) | cases h
  | optr =>
    simp only [frzW] at h; (repeat' split at h) <;> first | cases h | skip
    simp only [Option.map_eq_some_iff] at h
    obtain ⟨_, _, rfl⟩ := h; rfl
  | eptr => simp only [frzW] at h; (repeat' split at h) <;> first | (cases h; rfl) | cases h
  | _ => simp only [frzW] at h; cases h; rfl

theorem frzWL_one {g : Nat → Option Ob} {bx : List AV → Option (List AV)} : ∀ {a a' : List AV}, frzWL g bx a = some a' → a.all AV.one = true → a'.all AV.one = true
  | [], a', h, _ => by simp only [frzWL, Option.some.injEq] at h; subst h; rfl
  | c :: cs, a', h, h1 => by
    simp only [frzWL] at h
    split at h
    · rename_i c' cs' e1 e2
      cases h
      simp only [List.all_cons, Bool.and_eq_true] at h1 ⊢
      exact ⟨frzW_one e1 h1.1, frzWL_one e2 h1.2⟩
    · cases h

section
variable {φ φ2 : FM} {m : LM} {g gi : Nat → Option Ob} {w : World}

/-- What is read of an own array, frozen. -/
theorem arr_VRE (hi : Inv φ m g w) (hle : φ.le φ2) {id : Nat} {esz : Nat} {es : List AV} {ro : Bool} {l : Loc} (hg : g id = some (.arr esz es ro)) (hm : m id = some l)
    (hcv : 0 < l.cap → φ2 l.blk = w.heap[l.blk]?) (hc : 0 < l.cap) : VRE φ2 es l.blk 0 := by
  obtain ⟨l', hm', hr⟩ := hi.own id _ hg
  rw [hm] at hm'; cases hm'
  obtain ⟨h1, h2, h3, h4, h5⟩ := hr.arr esz es ro rfl
  obtain ⟨a, t, k1, k2, _, k4⟩ := h5.resolve_left (by omega)
  refine VRE_of (VRL.mono hle _ (Ext.refl _) k4) (fun e he => (h3 e he).2) fun j v hj => ?_
  unfold FM.cell
  rw [hcv hc, k1]
  simp only [Nat.zero_add]
  rw [List.getElem?_take] at hj
  split at hj
  · simpa using hj
  · simp at hj

mutual
theorem frzW_sound (hi : Inv φ m g w) (hle : φ.le φ2) (bx : List AV → Option (List AV))
    (hbx : ∀ id cs cs' l, g id = some (.box cs) → m id = some l → φ2 l.blk = w.heap[l.blk]? → bx cs = some cs' → VRC φ2 cs' l.blk 0) :
    ∀ (a : AV) {a' : AV} {cv : Value}, frzW gi bx a = some a' → (∀ id ∈ ids a, g id = gi id) → Cov φ2 m g w (ids a) → VR φ m a cv → VR φ2 LM.none a' cv
  | .any, _, _, h, _, _, _ => by simp [frzW] at h
  | .bool _, _, _, h, _, _, hv => by simp only [frzW] at h; cases h; simpa [VR] using hv
  | .int _ _, _, _, h, _, _, hv => by simp only [frzW] at h; cases h; simpa [VR] using hv
  | .str _, _, _, h, _, _, hv => by simp only [frzW] at h; cases h; simpa [VR] using hv
  | .nilf, _, _, h, _, _, hv => by simp only [frzW] at h; cases h; simpa [VR] using hv
  | .nilp, _, _, h, _, _, hv => by simp only [frzW] at h; cases h; simpa [VR] using hv
  | .nili, _, _, h, _, _, hv => by simp only [frzW] at h; cases h; simpa [VR] using hv
  | .fsl es, _, _, h, _, _, hv => by
    simp only [frzW] at h; cases h
    have := VR.mono hle (.fsl es) (m' := m) (Ext.refl _) hv
    simpa [VR] using this
  | .fptr cs o, _, _, h, _, _, hv => by
    simp only [frzW] at h; cases h
    have := VR.mono hle (.fptr cs o) (m' := m) (Ext.refl _) hv
    simpa [VR] using this
  | .nilsl, _, _, h, _, _, hv => by
    simp only [frzW] at h; cases h
    simp only [VR] at hv ⊢
    obtain ⟨ad, rfl⟩ := hv
    exact ⟨ad, 0, rfl, Nat.le_refl _, .inl rfl⟩
  | .agg cs, a', cv, h, hg, hc, hv => by
    simp only [frzW, Option.map_eq_some_iff] at h
    obtain ⟨cs', h, rfl⟩ := h
    simp only [VR] at hv ⊢
    obtain ⟨h1, a, rfl, h2⟩ := hv
    exact ⟨frzWL_one h h1, a, rfl, frzWL_sound hi hle bx hbx cs h (by simpa [ids] using hg) (by simpa [ids] using hc) h2⟩
  | .tup cs, a', cv, h, hg, hc, hv => by
    simp only [frzW, Option.map_eq_some_iff] at h
    obtain ⟨cs', h, rfl⟩ := h
    simp only [VR] at hv ⊢
    obtain ⟨a, rfl, h2⟩ := hv
    exact ⟨a, rfl, frzWL_sound hi hle bx hbx cs h (by simpa [ids] using hg) (by simpa [ids] using hc) h2⟩
  | .func fn f c, a', cv, h, hg, hc, hv => by
    simp only [frzW] at h
    split at h
    · rename_i f' c' e1 e2
      cases h
      simp only [VR] at hv ⊢
      obtain ⟨fv, cw, rfl, h1, h2⟩ := hv
      exact ⟨fv, cw, rfl, frzWL_sound hi hle bx hbx f e1 (fun i hi => hg i (by simp [ids, hi])) (fun i hi => hc i (by simp [ids, hi])) h1,
        frzWL_sound hi hle bx hbx c e2 (fun i hi => hg i (by simp [ids, hi])) (fun i hi => hc i (by simp [ids, hi])) h2⟩
    · cases h
  | .osl id off len tot, a', cv, h, hg, hc, hv => by
    simp only [frzW] at h
    split at h
    · rename_i esz es ro hgi
      split at h
      · rename_i hb
        cases h
        have hgid := (hg id (by simp [ids])).trans hgi
        simp only [VR] at hv ⊢
        obtain ⟨_, l, hm, _, hv⟩ := hv
        obtain ⟨l', hm', hr⟩ := hi.own id _ hgid
        rw [hm] at hm'; cases hm'
        obtain ⟨ad, rfl, had⟩ := hv (by rw [hr.top]; exact hb.1)
        obtain ⟨h1, h2, h3, h4, _⟩ := hr.arr esz es ro rfl
        have hlen : ((es.drop off).take len).length = len := by simp; omega
        rw [hlen]
        refine ⟨ad, l.cap - off, rfl, by omega, ?_⟩
        by_cases h0 : len = 0
        · exact .inl h0
        · refine .inr ⟨l.blk, off * l.esz, had (by omega), ?_⟩
          have hcap : 0 < l.cap := by omega
          have := arr_VRE hi hle hgid hm (fun hh => hc id (by simp [ids]) _ l hgid hm hh) hcap
          have := VRE_take (VRE_drop this (fun e he => (h3 e he).1) off) len
          rw [h1]; simpa using this
      · cases h
    · cases h
  | .optr id off tot, a', cv, h, hg, hc, hv => by
    simp only [frzW] at h
    split at h
    · rename_i cs hgi
      split at h
      · rename_i hb
        simp only [Option.map_eq_some_iff] at h
        obtain ⟨cs', h, rfl⟩ := h
        have hgid := (hg id (by simp [ids])).trans hgi
        simp only [VR] at hv ⊢
        obtain ⟨_, l, hm, _, hv⟩ := hv
        obtain ⟨l', hm', hr⟩ := hi.own id _ hgid
        rw [hm] at hm'; cases hm'
        obtain rfl := hv (by rw [hr.top]; exact hb)
        obtain ⟨_, h2, _⟩ := hr.box cs rfl
        exact ⟨l.blk, 0, by simp, hbx id cs cs' l hgid hm (hc id (by simp [ids]) _ l hgid hm h2.2) h⟩
      · cases h
    · cases h
  | .eptr id ix off tot, a', cv, h, hg, hc, hv => by
    simp only [frzW] at h
    split at h
    · rename_i esz es ro hgi
      split at h
      · rename_i hb
        split at h
        · rename_i e he
          cases h
          have hgid := (hg id (by simp [ids])).trans hgi
          simp only [VR] at hv ⊢
          obtain ⟨_, l, hm, _, hv⟩ := hv
          obtain ⟨l', hm', hr⟩ := hi.own id _ hgid
          rw [hm] at hm'; cases hm'
          obtain rfl := hv (by rw [hr.top]; exact hb)
          obtain ⟨h1, h2, h3, h4, _⟩ := hr.arr esz es ro rfl
          have hlt : ix < es.length := (List.getElem?_eq_some_iff.1 he).1
          have := arr_VRE hi hle hgid hm (fun hh => hc id (by simp [ids]) _ l hgid hm hh) (by omega)
          refine ⟨l.blk, ix * l.esz, rfl, ?_⟩
          have := VRE_get this (fun e he => (h3 e he).1) he
          rw [h1]; simpa using this
        · cases h
      · cases h
    · cases h
theorem frzWL_sound (hi : Inv φ m g w) (hle : φ.le φ2) (bx : List AV → Option (List AV))
    (hbx : ∀ id cs cs' l, g id = some (.box cs) → m id = some l → φ2 l.blk = w.heap[l.blk]? → bx cs = some cs' → VRC φ2 cs' l.blk 0) :
    ∀ (a : List AV) {a' : List AV} {cv : List Value}, frzWL gi bx a = some a' → (∀ id ∈ idsL a, g id = gi id) → Cov φ2 m g w (idsL a) → VRL φ m a cv → VRL φ2 LM.none a' cv
  | [], _, _, h, _, _, hv => by simp only [frzWL] at h; cases h; simpa [VRL] using hv
  | c :: cs, a', cv, h, hg, hc, hv => by
    simp only [frzWL] at h
    split at h
    · rename_i c' cs' e1 e2
      cases h
      simp only [VRL] at hv ⊢
      obtain ⟨v, vs, rfl, h1, h2⟩ := hv
      exact ⟨v, vs, rfl, frzW_sound hi hle bx hbx c e1 (fun i hi => hg i (by simp [idsL, hi])) (fun i hi => hc i (by simp [idsL, hi])) h1,
        frzWL_sound hi hle bx hbx cs e2 (fun i hi => hg i (by simp [idsL, hi])) (fun i hi => hc i (by simp [idsL, hi])) h2⟩
    · cases h
end

end
end Go.Proofs.Ytfhglldoejeedaa.Am
