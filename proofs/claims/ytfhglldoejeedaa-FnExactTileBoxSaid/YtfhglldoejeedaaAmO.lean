import Derived.Test.YtfhglldoejeedaaAmN
namespace Go.Proofs.Ytfhglldoejeedaa.Am
open Go

variable {P : Program}

section
variable {φ : FM} {m : LM} {g gi : Nat → Option Ob} {w w' : World}

theorem cpy_sound {t t2 ty : TypeId} {s x : AV} {cs cx : Value} {nx : Nat} {e : Eff}
    (h : cpyA P t t2 s x gi nx = some e) (hg : ∀ i ∈ e.rd, g i = gi i) (hi : Inv φ m g w)
    (hs : VR φ m s cs) (hx : VR φ m x cx) :
    ∃ cv w', (Builtin.copy_ #[t, t2] ty #[cs, cx]).run P w = .ok cv w' ∧ Post φ m g w e cv w' := by
  unfold cpyA at h
  split at h
  · cases h
  rename_i el ts bytes hel
  split at h
  · cases h
  rename_i hk
  simp only [Bool.not_eq_true, Bool.not_eq_false'] at hk
  split at h
  · cases h
  rename_i src is hsrc
  split at h
  · cases h
  rename_i hwd
  simp only [Bool.not_eq_true, Bool.not_eq_false'] at hwd
  obtain ⟨hu, hts, i, hinf, hisz, hib, hipos⟩ := elt_some hel
  have hw := widths_iff hwd
  cases s with
  | osl id off len tot =>
    simp only at h
    split at h
    · rename_i esz es hgi
      split at h
      · rename_i hb
        obtain ⟨hesz, htot, hoff, hle⟩ := hb
        simp only [Option.some.injEq] at h; subst h
        obtain ⟨news, hS, hnv⟩ := src_any hi hk hsrc (fun i hi => hg i (by simp [hi])) hx hw
        rw [← hisz] at hS
        simp only [VR] at hs
        obtain ⟨_, l, hm, _, hv⟩ := hs
        have hgid := (hg id (by simp)).trans hgi
        obtain ⟨l', hm', hr⟩ := hi.own id _ hgid
        rw [hm] at hm'; cases hm'
        obtain ⟨ad, rfl, had⟩ := hv (by rw [hr.top]; exact htot)
        obtain ⟨b1, b2, b3, b4, b5⟩ := hr.arr esz es false rfl
        have hnl := hS.newsLen
        have hesi : esz = i.size := by omega
        have hnl' : news.length = src.length * esz := by rw [hnl, hesi]
        have hmin : Nat.min src.length len = src.length := Nat.min_eq_left hle
        by_cases h0 : src.length = 0
        · have : src = [] := List.eq_nil_of_length_eq_zero h0
          subst this
          have hn0 : news = [] := by simp [VRL] at hnv; exact hnv
          subst hn0
          refine ⟨goInt 0, w, ?_, φ, m, by simp [VR, goInt], ?_, ?_, fun _ _ h => h⟩
          · have hc := hS.cells
            simp only [List.length_nil] at hc hmin
            cases ad <;> simp [Builtin.copy_, run_underlying hu, run_sizeOf hinf, hS.len, hmin, hc, storeCells]
          · simp only [List.append_nil, List.length_nil, Nat.add_zero, List.take_append_drop]; rw [upd_self hgid]; exact hi
          · simp only [List.append_nil, List.length_nil, Nat.add_zero, List.take_append_drop]; rw [upd_self hgid]; exact Fr.refl ..
        · have hcap : 0 < l.cap := by omega
          obtain ⟨a, te, c1, c2, c3, c4⟩ := b5.resolve_left (by omega)
          have had' := had (by omega)
          subst had'
          have hal : a.toList.length = l.cap * esz := by simpa using c2
          have hmul : (off + src.length) * esz ≤ es.length * esz := Nat.mul_le_mul_right _ (by omega)
          have hmul2 : es.length * esz ≤ l.cap * esz := Nat.mul_le_mul_right _ b4
          rw [Nat.add_mul] at hmul
          have hst := run_storeCells_at P l.blk (off * l.esz) te news 0 a w c1 (by rw [b1, hnl', c2]; omega) hS.one
          simp only [Nat.add_zero] at hst
          have hput := put_arr hi hgid hm hcap (es' := es.take off ++ src ++ es.drop (off + src.length)) (by simp; omega) (fun e he => by
              rcases List.mem_append.1 he with h1 | h1
              · rcases List.mem_append.1 h1 with h2 | h2
                · exact b3 e (List.mem_of_mem_take h2)
                · rw [hesz]; exact hw e h2
              · exact b3 e (List.mem_of_mem_drop h1)) c1 hnv (k := off * esz) (by rw [flat_len (fun e he => (hw e he).1), ← hesz]; omega)
            (flat_seg (fun e he => (b3 e he).1) (fun e he => by rw [hesz]; exact (hw e he).1) (by omega))
          refine ⟨goInt src.length, w.setRow l.blk (a.toList.take (off * l.esz) ++ news ++ a.toList.drop (off * l.esz + news.length)).toArray, ?_, φ, m, by simp [VR, goInt], (and_assoc.1 ⟨?_, fun _ _ h => h⟩)⟩
          · simp [Builtin.copy_, run_underlying hu, run_sizeOf hinf, hS.len, hmin, hS.cells, hst]
          · rw [b1]; exact hput
      · cases h
    · cases h
  | _ => cases h

theorem clr_sound {t ty : TypeId} {x : AV} {cx : Value} {nx : Nat} {e : Eff}
    (h : clrA P t x gi nx = some e) (hg : ∀ i ∈ e.rd, g i = gi i) (hi : Inv φ m g w) (hx : VR φ m x cx) :
    ∃ cv w', (Builtin.clear_ #[t] ty #[cx]).run P w = .ok cv w' ∧ Post φ m g w e cv w' := by
  unfold clrA at h
  split at h
  · cases h
  rename_i el ts bytes hel
  obtain ⟨hu, hts, i, hinf, hisz, hib, hipos⟩ := elt_some hel
  split at h
  · simp only [Eff.pure, Option.some.injEq] at h; subst h
    simp only [VR] at hx
    obtain ⟨ad, rfl⟩ := hx
    refine ⟨.tuple #[], w, ?_, post_pure hi (by simp [VR, VRL])⟩
    cases ad <;> simp [Builtin.clear_, run_underlying hu]
  · rename_i z id off len tot hz
    split at h
    · rename_i esz es hgi
      split at h
      · rename_i hb
        obtain ⟨hesz, htot, hoff, hzl, hz1⟩ := hb
        simp only [Option.some.injEq] at h; subst h
        obtain ⟨i', zv, hinf', hzv, rfl, hzrun⟩ := zer_run hz w
        rw [hinf] at hinf'; cases hinf'
        have hzvl := ofV_cells (φ := φ) (m := LM.none) hz1
        have hzc : zv.cells.size = i.size := by have := VRL_len hzvl; simp only [Array.length_toList] at this; omega
        simp only [VR] at hx
        obtain ⟨_, l, hm, _, hv⟩ := hx
        have hgid := (hg id (by simp)).trans hgi
        obtain ⟨l', hm', hr⟩ := hi.own id _ hgid
        rw [hm] at hm'; cases hm'
        obtain ⟨ad, rfl, had⟩ := hv (by rw [hr.top]; exact htot)
        obtain ⟨b1, b2, b3, b4, b5⟩ := hr.arr esz es false rfl
        by_cases h0 : len = 0
        · subst h0
          refine ⟨.tuple #[], w, ?_, φ, m, by simp [VR, VRL], ?_, ?_, fun _ _ h => h⟩
          · cases ad <;> simp [Builtin.clear_, run_underlying hu]
          · simp only [List.replicate_zero, List.append_nil, Nat.add_zero, List.take_append_drop]; rw [upd_self hgid]; exact hi
          · simp only [List.replicate_zero, List.append_nil, Nat.add_zero, List.take_append_drop]; rw [upd_self hgid]; exact Fr.refl ..
        · have hcap : 0 < l.cap := by omega
          obtain ⟨a, te, c1, c2, c3, c4⟩ := b5.resolve_left (by omega)
          have had' := had (by omega)
          subst had'
          have hesi : esz = i.size := by omega
          have hzs : (Builtin.zeroCells zv.cells len).toList = (List.replicate len zv.cells.toList).flatten := range_mod zv.cells (by omega) len
          have hnv : VRL φ LM.none ((List.replicate len (ofV zv)).flatMap AV.cells) (Builtin.zeroCells zv.cells len).toList := by
            rw [hzs, rep_flat]; exact VRL_rep hzvl _
          have hnl' : (Builtin.zeroCells zv.cells len).toList.length = len * esz := by rw [hzs]; simp [hzc, hesi]
          have hone : ∀ v ∈ (Builtin.zeroCells zv.cells len).toList, v.oneCell' = true := VRL_one hnv (by
            rw [List.all_eq_true]; intro y hy
            obtain ⟨e, he, hye⟩ := List.mem_flatMap.1 hy
            rw [List.eq_of_mem_replicate he] at hye
            exact (List.all_eq_true.1 hz1) y hye)
          have hal : a.toList.length = l.cap * esz := by simpa using c2
          have hmul : (off + len) * esz ≤ es.length * esz := Nat.mul_le_mul_right _ (by omega)
          have hmul2 : es.length * esz ≤ l.cap * esz := Nat.mul_le_mul_right _ b4
          rw [Nat.add_mul] at hmul
          have hst := run_storeCells_at P l.blk (off * l.esz) te (Builtin.zeroCells zv.cells len).toList 0 a w c1 (by rw [b1, hnl', c2]; omega) hone
          simp only [Nat.add_zero] at hst
          have hlr : (List.replicate len (ofV zv)).length = len := by simp
          have hput := put_arr hi hgid hm hcap (es' := es.take off ++ List.replicate len (ofV zv) ++ es.drop (off + len)) (by simp; omega) (fun e he => by
              rcases List.mem_append.1 he with h1 | h1
              · rcases List.mem_append.1 h1 with h2 | h2
                · exact b3 e (List.mem_of_mem_take h2)
                · rw [List.eq_of_mem_replicate h2]; exact ⟨by omega, hz1⟩
              · exact b3 e (List.mem_of_mem_drop h1)) c1 hnv (k := off * esz) (by rw [flat_len (n := esz) (fun e he => by rw [List.eq_of_mem_replicate he]; omega), hlr]; omega)
            (by have := flat_seg (es := es) (src := List.replicate len (ofV zv)) (k := off) (n := esz) (fun e he => (b3 e he).1) (fun e he => by rw [List.eq_of_mem_replicate he]; omega) (by rw [hlr]; omega)
                rw [hlr] at this; exact this)
          refine ⟨.tuple #[], w.setRow l.blk (a.toList.take (off * l.esz) ++ (Builtin.zeroCells zv.cells len).toList ++ a.toList.drop (off * l.esz + (Builtin.zeroCells zv.cells len).toList.length)).toArray, ?_, φ, m, by simp [VR, VRL], (and_assoc.1 ⟨?_, fun _ _ h => h⟩)⟩
          · obtain ⟨len, rfl⟩ : ∃ k, len = k + 1 := ⟨len - 1, by omega⟩
            simp [Builtin.clear_, run_underlying hu, hzrun, hst]
          · rw [b1]; exact hput
      · cases h
    · cases h
  · cases h
end
end Go.Proofs.Ytfhglldoejeedaa.Am
