import Derived.Test.YtfhglldoejeedaaAmT
namespace Go.Proofs.Ytfhglldoejeedaa.Am
open Go

variable {P : Program}

section
variable {φ : FM} {m : LM} {g gi : Nat → Option Ob} {w w' : World}

theorem plc_run : ∀ {fs : List Field} {pl : List (Nat × Nat)}, (fs.mapM fun f => (P.info? f.type).map fun i => (f.offset, i.size)) = some pl → ∀ w : World,
    (fs.mapM fun f => (do pure (f.offset, ← sizeOf f.type) : Sem (Nat × Nat))).run P w = .ok pl w
  | [], pl, h, w => by simp at h; subst h; simp
  | f :: fs, pl, h, w => by
    simp only [List.mapM_cons, Option.bind_eq_bind, Option.bind_eq_some_iff, Option.map_eq_some_iff, Option.pure_def, Option.some.injEq] at h
    obtain ⟨a, ⟨i, hi, rfl⟩, l, hl, rfl⟩ := h
    have := plc_run hl w
    simp only [List.mapM_cons, Sem.run_bind, run_sizeOf hi, Result.andThen_ok, Sem.run_pure, this]

theorem bld_sound {t : TypeId} {ps : List (Nat × AV)} {qs : Array (Nat × Value)} {v : AV} (h : bldA P t ps = some v) (ha : isArr P t = false)
    (he : ps.map (·.1) = qs.toList.map (·.1)) (hr : ∀ (j : Nat) (p : Nat × AV) (q : Nat × Value), ps[j]? = some p → qs.toList[j]? = some q → VR φ m p.2 q.2) (w : World) :
    ∃ cv, (Instr.build t qs).run P w = .ok cv w ∧ VR φ m v cv := by
  unfold bldA at h
  split at h
  · rename_i pl z hp hz
    split at h
    · rename_i h1
      simp only [Option.map_eq_some_iff] at h
      obtain ⟨cs, hf, rfl⟩ := h
      obtain ⟨i, zv, hinf, hzv, rfl, hzrun⟩ := zer_run hz w
      unfold plc at hp
      split at hp
      · rename_i fs hu
        have hpl := plc_run hp w
        obtain ⟨cells', k1, k2, k3⟩ := fil_sound (qs := qs.toList) hf (ofV_cells (φ := φ) (m := m) h1) he hr h1
        refine ⟨.agg cells', ?_, by simp only [VR]; exact ⟨k3, _, rfl, k2⟩⟩
        have hm : (fs.mapM fun f => (do pure (f.offset, ← sizeOf f.type) : Sem (Nat × Nat))).run P w = .ok pl.toArray w := by
          rw [Array.mapM_eq_mapM_toList]
          simp only [Sem.run_map, hpl, Result.andThen_ok]
        have k1' : Instr.fill (fun i => pl.toArray[i]?) zv.cells qs.toList = some cells' := by simpa using k1
        simp only [Instr.build, Sem.run_bind, hzrun, Result.andThen_ok, run_underlying hu, hm, k1', Sem.run_pure]
      · cases hp
    · cases h
  · cases h

theorem bldArr_sound {t : TypeId} {ps : List (Nat × AV)} {qs : Array (Nat × Value)} {v : AV} (h : bldArr P t ps = some v)
    (he : ps.map (·.1) = qs.toList.map (·.1)) (hr : ∀ (j : Nat) (p : Nat × AV) (q : Nat × Value), ps[j]? = some p → qs.toList[j]? = some q → VR φ m p.2 q.2) (w : World) :
    ∃ cv, (Instr.build t qs).run P w = .ok cv w ∧ VR φ m v cv := by
  unfold bldArr at h
  split at h
  · rename_i n ts z ha hz
    split at h
    · rename_i h1
      simp only [Option.map_eq_some_iff] at h
      obtain ⟨cs, hf, rfl⟩ := h
      obtain ⟨i, zv, hinf, hzv, rfl, hzrun⟩ := zer_run hz w
      obtain ⟨e, hu, ht, i', hinf', hs, h0⟩ := art_some ha
      obtain ⟨cells', k1, k2, k3⟩ := fil_sound (qs := qs.toList) hf (ofV_cells (φ := φ) (m := m) h1) he hr h1
      refine ⟨.agg cells', ?_, by simp only [VR]; exact ⟨k3, _, rfl, k2⟩⟩
      rw [← hs] at k1
      simp only [Instr.build, Sem.run_bind, hzrun, Result.andThen_ok, run_underlying hu, run_sizeOf hinf', k1, Sem.run_pure]
    · cases h
  · cases h

theorem isArr_of {t : TypeId} {n : Nat} {e : TypeId} (h : P.underlying t = some (.array n e)) : isArr P t = true := by simp [isArr, h]

theorem fold_max {cs : List Value} : ∀ {xs : List AV} {a v : AV} {ca : Value}, foldA max2A a xs = some v → VR φ m a ca → VRL φ m xs cs → ∃ cv, (cs.foldlM Builtin.max2 ca).run P w = .ok cv w ∧ VR φ m v cv := by
  induction cs with
  | nil =>
    intro xs a v ca h ha hx
    cases xs with
    | nil => simp only [foldA, Option.some.injEq] at h; subst h; exact ⟨ca, by simp, ha⟩
    | cons x xs => simp [VRL] at hx
  | cons c cs ih =>
    intro xs a v ca h ha hx
    cases xs with
    | nil => simp [VRL] at hx
    | cons x xs =>
      simp only [VRL] at hx
      obtain ⟨c', cs', e, h1, h2⟩ := hx
      cases e
      simp only [foldA] at h
      split at h
      · rename_i b hb
        unfold max2A at hb
        split at hb
        · rename_i k p k' q
          split at hb
          · rename_i hk; subst hk; cases hb
            simp only [VR] at ha h1; subst ha; subst h1
            obtain ⟨cv, r1, r2⟩ := ih (ca := .int k (if q > p then q else p)) h (by simp [VR]) h2
            exact ⟨cv, by simp only [List.foldlM_cons, Sem.run_bind, Builtin.max2, Sem.run_pure, Result.andThen_ok, r1], r2⟩
          · cases hb
        · cases hb
      · cases h

theorem fold_min {cs : List Value} : ∀ {xs : List AV} {a v : AV} {ca : Value}, foldA min2A a xs = some v → VR φ m a ca → VRL φ m xs cs → ∃ cv, (cs.foldlM Builtin.min2 ca).run P w = .ok cv w ∧ VR φ m v cv := by
  induction cs with
  | nil =>
    intro xs a v ca h ha hx
    cases xs with
    | nil => simp only [foldA, Option.some.injEq] at h; subst h; exact ⟨ca, by simp, ha⟩
    | cons x xs => simp [VRL] at hx
  | cons c cs ih =>
    intro xs a v ca h ha hx
    cases xs with
    | nil => simp [VRL] at hx
    | cons x xs =>
      simp only [VRL] at hx
      obtain ⟨c', cs', e, h1, h2⟩ := hx
      cases e
      simp only [foldA] at h
      split at h
      · rename_i b hb
        unfold min2A at hb
        split at hb
        · rename_i k p k' q
          split at hb
          · rename_i hk; subst hk; cases hb
            simp only [VR] at ha h1; subst ha; subst h1
            obtain ⟨cv, r1, r2⟩ := ih (ca := .int k (if q < p then q else p)) h (by simp [VR]) h2
            exact ⟨cv, by simp only [List.foldlM_cons, Sem.run_bind, Builtin.min2, Sem.run_pure, Result.andThen_ok, r1], r2⟩
          · cases hb
        · cases hb
      · cases h

theorem len_sound {t ty : TypeId} {x : AV} {cx : Value} {nx : Nat} {e : Eff} (h : lnA P t x gi nx = some e) (hg : ∀ j ∈ e.rd, g j = gi j) (hinv : Inv φ m g w) (hx : VR φ m x cx) :
    ∃ cv, (Builtin.len_ #[t] ty #[cx]).run P w = .ok cv w ∧ VR φ m e.v cv ∧ e.wr = [] := by
  unfold lnA at h
  split at h
  · rename_i n el hu
    simp only [Eff.pure, Option.some.injEq] at h; subst h
    exact ⟨goInt n, by simp [Builtin.len_, run_underlying hu], by simp [VR, goInt], rfl⟩
  · rename_i hu
    split at h
    · rename_i s
      simp only [Eff.pure, Option.some.injEq] at h; subst h
      simp only [VR] at hx; subst hx
      exact ⟨goInt s.size, by simp [Builtin.len_, run_underlying hu], by simp [VR, goInt], rfl⟩
    · cases h
  · rename_i el hu
    split at h
    · rename_i es
      simp only [Eff.pure, Option.some.injEq] at h; subst h
      simp only [VR] at hx; obtain ⟨ad, cap, rfl, _⟩ := hx
      exact ⟨goInt es.length, by simp [Builtin.len_, run_underlying hu], by simp [VR, goInt], rfl⟩
    · simp only [Eff.pure, Option.some.injEq] at h; subst h
      simp only [VR] at hx; obtain ⟨ad, rfl⟩ := hx
      exact ⟨goInt 0, by simp [Builtin.len_, run_underlying hu], by simp [VR, goInt], rfl⟩
    · rename_i id off len tot
      split at h
      · rename_i hl
        simp only [Option.some.injEq] at h; subst h
        have : ∃ ad c, cx = .slice ad len c := by
          unfold liveA at hl
          split at hl
          · rename_i ob hgi
            obtain ⟨l, hm, hr⟩ := hinv.own id ob ((hg id (by simp)).trans hgi)
            simp only [VR] at hx
            obtain ⟨_, l', hm', htop, hv⟩ := hx
            rw [hm] at hm'; cases hm'
            obtain ⟨ad, rfl, _⟩ := hv (by rw [hr.top]; simpa using hl)
            exact ⟨_, _, rfl⟩
          · cases hl
        obtain ⟨ad, c, rfl⟩ := this
        exact ⟨goInt len, by simp [Builtin.len_, run_underlying hu], by simp [VR, goInt], rfl⟩
      · cases h
    · cases h
  · cases h
end
end Go.Proofs.Ytfhglldoejeedaa.Am
