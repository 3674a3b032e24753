import Derived.Test.YtfhglldoejeedaaAmD
namespace Go.Proofs.Ytfhglldoejeedaa.Am
open Go

variable {P : Program}

theorem Inv.cell {φ : FM} {m : LM} {g : Nat → Option Ob} {w : World} (h : Inv φ m g w) {b o : Nat} {u : Value} (hc : φ.cell b o = some u) :
    w.cell? ⟨b, o, none⟩ = some u := by
  unfold FM.cell at hc
  cases hb : φ b with
  | none => simp [hb] at hc
  | some x =>
    have := h.fz b x hb
    rw [hb] at hc
    cases x <;> simp_all [World.cell?]

theorem cell_at {w : World} {b : Nat} {a : Array Value} {t : TypeId} {fr : Nat × Nat} (h : w.heap[b]? = some (.cells a t fr)) (o : Nat) :
    w.cell? ⟨b, o, none⟩ = a[o]? := by simp [World.cell?, h]

theorem flat_get {n : Nat} : ∀ {es : List AV}, (∀ e ∈ es, e.cells.length = n) → ∀ {i : Nat} {e : AV}, es[i]? = some e → ((es.flatMap AV.cells).drop (i * n)).take n = e.cells
  | [], _, i, e, h => by simp at h
  | x :: xs, hw, 0, e, h => by
    simp at h; subst h
    have := hw x (by simp)
    simp [← this]
  | x :: xs, hw, i + 1, e, h => by
    have hx := hw x (by simp)
    have := flat_get (es := xs) (fun e he => hw e (by simp [he])) (i := i) (e := e) (by simpa using h)
    rw [List.flatMap_cons, Nat.add_mul, Nat.one_mul, List.drop_append, ← this]
    rw [List.drop_eq_nil_of_le (by omega)]
    simp [hx]

theorem flat_len {n : Nat} : ∀ {es : List AV}, (∀ e ∈ es, e.cells.length = n) → (es.flatMap AV.cells).length = es.length * n
  | [], _ => by simp
  | x :: xs, hw => by
    have := flat_len (es := xs) (fun e he => hw e (by simp [he]))
    simp only [List.flatMap_cons, List.length_append, this, hw x (by simp), List.length_cons, Nat.add_mul]
    omega

theorem VRL_elem {φ : FM} {m : LM} {n : Nat} {es : List AV} {vs : List Value} (h : VRL φ m (es.flatMap AV.cells) vs) (hw : ∀ e ∈ es, e.cells.length = n) {i : Nat} {e : AV}
    (he : es[i]? = some e) : VRL φ m e.cells ((vs.drop (i * n)).take n) := by
  rw [← flat_get hw he]
  exact VRL_take (VRL_drop h _) _

theorem VRC_of {φ : FM} : ∀ {cs : List AV} {vs : List Value} {b o : Nat}, VRL φ LM.none cs vs → cs.all AV.one = true →
    (∀ (j : Nat) (v : Value), vs[j]? = some v → φ.cell b (o + j) = some v) → VRC φ cs b o
  | [], _, _, _, _, _, _ => by simp [VRC]
  | c :: cs, vs, b, o, h, h1, hc => by
    simp only [VRL] at h
    obtain ⟨v, vs, rfl, k1, k2⟩ := h
    simp only [List.all_cons, Bool.and_eq_true] at h1
    simp only [VRC]
    refine ⟨⟨h1.1, v, by simpa using hc 0 v (by simp), k1⟩, VRC_of k2 h1.2 fun j u hj => ?_⟩
    have := hc (j + 1) u (by simpa using hj)
    rwa [show o + (j + 1) = o + 1 + j by omega] at this

theorem VRE_of {φ : FM} : ∀ {es : List AV} {vs : List Value} {b o : Nat}, VRL φ LM.none (es.flatMap AV.cells) vs → (∀ e ∈ es, e.cells.all AV.one = true) →
    (∀ (j : Nat) (v : Value), vs[j]? = some v → φ.cell b (o + j) = some v) → VRE φ es b o
  | [], _, _, _, _, _, _ => by simp [VRE]
  | e :: es, vs, b, o, h, h1, hc => by
    rw [List.flatMap_cons] at h
    obtain ⟨v1, v2, rfl, k1, k2⟩ := VRL_split h
    rw [VRE_cons]
    have hl := VRL_len k1
    refine ⟨VRC_of k1 (h1 e (by simp)) fun j v hj => hc j v ?_, VRE_of k2 (fun e he => h1 e (by simp [he])) fun j v hj => ?_⟩
    · rw [List.getElem?_append_left (by have := (List.getElem?_eq_some_iff.1 hj).1; omega)]; exact hj
    · have := hc (e.cells.length + j) v (by rw [← hl, List.getElem?_append_right (by omega)]; simpa using hj)
      rwa [← Nat.add_assoc] at this

/-- Loads. -/
theorem ld_sound {φ : FM} {m : LM} {g gi : Nat → Option Ob} {w : World} {t : TypeId} {a : AV} {cv0 : Value} {nx : Nat} {e : Eff}
    (h : ldA P t a gi nx = some e) (hg : ∀ x ∈ e.rd, g x = gi x) (hi : Inv φ m g w) (hv : VR φ m a cv0) :
    ∃ cv, (Instr.loadAt t cv0).run P w = .ok cv w ∧ VR φ m e.v cv ∧ e.wr = [] ∧ e.nx = nx := by
  unfold ldA at h
  split at h
  · simp at h
  rename_i ts hts
  cases a with
  | fptr cs off =>
    simp only [VR] at hv
    obtain ⟨b, o, rfl, hc⟩ := hv
    simp only [Option.bind_eq_some_iff] at h
    obtain ⟨v, hl, he⟩ := h
    simp only [Eff.pure, Option.some.injEq] at he; subst he
    obtain ⟨vs, k1, k2⟩ := VRC_vals hc
    have hone : cs.all AV.one = true := by
      rw [List.all_eq_true]; intro x hx
      obtain ⟨i, hi⟩ := List.mem_iff_getElem?.1 hx
      exact ((VRC_iff.1 hc) i x hi).1
    obtain ⟨cv, r1, r2⟩ := load_sound (P := P) (w := w) (b := b) (o := o) hts hone (VRL.mono (FM.le_refl φ) cs (Ext.none m) k1) (fun j v hj => hi.cell (k2 j v hj)) hl
    exact ⟨cv, r1, r2, rfl, rfl⟩
  | optr id off tot =>
    cases hgi : gi id with
    | none => simp [hgi] at h
    | some ob =>
      cases ob with
      | arr _ _ _ => simp [hgi] at h
      | box cs =>
        simp only [hgi] at h
        split at h
        · rename_i htot
          simp only [Option.map_eq_some_iff] at h
          obtain ⟨v, hl, rfl⟩ := h
          have hgid : g id = some (.box cs) := by rw [hg id (by simp), hgi]
          obtain ⟨l, hm, hr⟩ := hi.own id _ hgid
          obtain ⟨_, hcap, _, hone, a, ty, hh, hvr⟩ := hr.box cs rfl
          simp only [VR] at hv
          obtain ⟨_, l', hm', _, hv⟩ := hv
          rw [hm] at hm'; cases hm'
          have hv := hv (by rw [hr.top, htot]; rfl)
          subst hv
          obtain ⟨cv, r1, r2⟩ := load_sound (P := P) (w := w) (b := l.blk) (o := 0) hts hone hvr (fun j v hj => by rw [cell_at hh]; simpa using hj) hl
          exact ⟨cv, by simpa using r1, r2, rfl, rfl⟩
        · simp at h
  | eptr id ix off tot =>
    cases hgi : gi id with
    | none => simp [hgi] at h
    | some ob =>
      cases ob with
      | box _ => simp [hgi] at h
      | arr esz es ro =>
        simp only [hgi] at h
        split at h
        · rename_i htot
          cases hix : es[ix]? with
          | none => simp [hix] at h
          | some e0 =>
            simp only [hix, Option.map_eq_some_iff] at h
            obtain ⟨v, hl, rfl⟩ := h
            have hgid : g id = some (.arr esz es ro) := by rw [hg id (by simp), hgi]
            obtain ⟨l, hm, hr⟩ := hi.own id _ hgid
            obtain ⟨hesz, hpos, hwd, hcap, hb⟩ := hr.arr esz es ro rfl
            have hlt : ix < es.length := (List.getElem?_eq_some_iff.1 hix).1
            obtain ⟨a, ty, hh, hsz, _, hvr⟩ := hb.resolve_left (by omega)
            simp only [VR] at hv
            obtain ⟨_, l', hm', _, hv⟩ := hv
            rw [hm] at hm'; cases hm'
            have hv := hv (by rw [hr.top, htot]; rfl)
            subst hv
            have hel := VRL_elem hvr (fun e he => (hwd e he).1) hix
            have hone := (hwd e0 (List.mem_of_getElem? hix)).2
            obtain ⟨cv, r1, r2⟩ := load_sound (P := P) (w := w) (b := l.blk) (o := ix * esz) hts hone (VRL.mono (FM.le_refl φ) _ (Ext.none m) hel)
              (fun j v hj => by
                rw [cell_at hh]
                rw [List.getElem?_take] at hj
                split at hj
                · rw [List.getElem?_drop, List.getElem?_take] at hj
                  split at hj
                  · simpa using hj
                  · simp at hj
                · simp at hj) hl
            refine ⟨cv, ?_, r2, rfl, rfl⟩
            rw [hesz]; exact r1
        · simp at h
  | _ => simp at h
end Go.Proofs.Ytfhglldoejeedaa.Am
