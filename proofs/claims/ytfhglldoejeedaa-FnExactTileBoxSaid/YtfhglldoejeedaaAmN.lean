import Derived.Test.YtfhglldoejeedaaAmM
import Derived.Laws.MakeOwn
namespace Go.Proofs.Ytfhglldoejeedaa.Am
open Go

variable {P : Program}

section
variable {φ : FM} {m : LM} {g gi : Nat → Option Ob} {w w' : World}

theorem mk_sound {t : TypeId} {l c : AV} {cl cc : Value} {nx : Nat} {e : Eff}
    (h : mkA P t l c nx = some e) (hi : Inv φ m g w) (hgn : g nx = none) (hmn : m nx = none) (hl : VR φ m l cl) (hc : VR φ m c cc) :
    ∃ cv w', (Instr.makeSlice t cl cc).run P w = .ok cv w' ∧ Post φ m g w e cv w' := by
  unfold mkA at h
  split at h
  · rename_i el ts bytes l c hel
    split at h
    · rename_i z hz
      split at h
      · rename_i hb
        obtain ⟨h0, hlc, hcr, hcb, hzl, hz1⟩ := hb
        simp only [Option.some.injEq] at h; subst h
        obtain ⟨hu, hts, i, hinf, hisz, hib, hipos⟩ := elt_some hel
        obtain ⟨i', zv, hinf', hzv, rfl, hzrun⟩ := zer_run hz w
        rw [hinf] at hinf'; cases hinf'
        simp only [VR] at hl hc
        subst hl; subst hc
        have hzvl := ofV_cells (φ := φ) (m := LM.none) hz1
        have hzc : zv.cells.size = i.size := by have := VRL_len hzvl; simp only [Array.length_toList] at this; omega
        have hrun := run_make (P := P) w t el i zv hu hinf hzv .i64 .i64 l c h0 hlc (by rw [hib, Int.mul_comm]; unfold room at hcb; omega) (by unfold room at hcr; omega)
        have hlr : (List.replicate l.toNat (ofV zv)).length = l.toNat := by simp
        obtain ⟨p1, p2, p3⟩ := new_arr (w' := w.alloc (.cells (madeCells zv.cells (c.toNat * i.size)) el)) (cap := c.toNat) (t := el) (a := madeCells zv.cells (c.toNat * i.size)) (esz := ts.size) (es := List.replicate l.toNat (ofV zv)) hi hmn hgn (by omega)
          (fun e he => by rw [List.eq_of_mem_replicate he]; exact ⟨hzl, hz1⟩) (by rw [hlr]; omega) (by simp [madeCells, hisz]) (by
            rw [hlr, rep_flat]
            have e1 : (madeCells zv.cells (c.toNat * i.size)).toList = (List.replicate c.toNat zv.cells.toList).flatten := by
              unfold madeCells
              rw [← hzc]; exact range_mod zv.cells (by omega) _
            rw [e1]
            have e2 : (List.replicate c.toNat zv.cells.toList).flatten.take (l.toNat * ts.size) = (List.replicate l.toNat zv.cells.toList).flatten := by
              obtain ⟨d, hd⟩ : ∃ d, c.toNat = l.toNat + d := ⟨c.toNat - l.toNat, by omega⟩
              rw [hd, ← List.replicate_append_replicate, List.flatten_append]
              have : (List.replicate l.toNat zv.cells.toList).flatten.length = l.toNat * ts.size := by simp [hzc, hisz]
              rw [← this, List.take_left]
            rw [e2]
            exact VRL_rep hzvl _) rfl rfl rfl rfl
        rw [hlr] at p1 p2 p3
        exact ⟨_, _, hrun, _, _, p1, p2, p3, put_new (by simp) (by simp [lkp])⟩
      · cases h
    · cases h
  · cases h

theorem setP_sound {n : Nat} {bx : List AV → Option (List AV)} : ∀ {ps : List (Nat × AV)} {es es' : List AV}, setParts gi n es ps = some es' → (∀ e ∈ es, e.cells.length = n ∧ e.cells.all AV.one = true) →
    ∀ {qs : List (Nat × Value)} {cells : Array Value} {φ1 : FM}, VRL φ1 LM.none (es.flatMap AV.cells) cells.toList → ps.map (·.1) = qs.map (·.1) →
    (∀ (j : Nat) (p : Nat × AV) (q : Nat × Value) (v : AV), ps[j]? = some p → qs[j]? = some q → frz gi p.2 = some v → VR φ1 LM.none v q.2) →
    ∃ cells', Instr.fill (fun i => some (i * n, n)) cells qs = some cells' ∧ VRL φ1 LM.none (es'.flatMap AV.cells) cells'.toList ∧ es'.length = es.length ∧ (∀ e ∈ es', e.cells.length = n ∧ e.cells.all AV.one = true)
  | [], es, es', h, hw, qs, cells, φ1, hv, he, _ => by
    simp only [setParts, Option.some.injEq] at h; subst h
    cases qs with
    | nil => exact ⟨cells, rfl, hv, rfl, hw⟩
    | cons _ _ => simp at he
  | (i, v) :: ps, es, es', h, hw, [], cells, φ1, hv, he, _ => by simp at he
  | (i, v) :: ps, es, es', h, hw, (i', cv) :: qs, cells, φ1, hv, he, hr => by
    simp only [List.map_cons, List.cons.injEq] at he
    obtain ⟨rfl, he⟩ := he
    simp only [setParts] at h
    split at h
    · rename_i v' hf
      split at h
      · rename_i hb
        have hvr := hr 0 (i, v) (i, cv) v' (by simp) (by simp) hf
        have hvc := VR_cells hvr hb.2.2
        have hcl : cv.cells.size = v'.cells.length := by simpa using VRL_len hvc
        have hl : cells.size = es.length * n := by have := VRL_len hv; rw [flat_len (fun e he => (hw e he).1)] at this; simpa using this
        have hle : i * n + n ≤ es.length * n := by rw [← Nat.succ_mul]; exact Nat.mul_le_mul_right _ hb.2.1
        have hstep := fill_step hv hvc (off := i * n) (by rw [flat_len (fun e he => (hw e he).1)]; omega)
        have hset := set_flat (fun e he => (hw e he).1) hb.2.1 hb.1
        rw [← hset] at hstep
        obtain ⟨cells', k1, k2, k3, k4⟩ := setP_sound (bx := bx) h (fun e he => by
          rcases List.mem_or_eq_of_mem_set he with h1 | h1
          · exact hw e h1
          · subst h1; exact ⟨hb.1, hb.2.2⟩) hstep he (fun j p q v hp hq hv => hr (j + 1) p q v (by simpa using hp) (by simpa using hq) hv)
        refine ⟨cells', ?_, k2, by simpa using k3, k4⟩
        unfold Instr.fill
        simp only
        rw [if_neg (by simp; omega)]
        exact k1
      · cases h
    · cases h

theorem idsL_mem {l : List AV} {a : AV} {i : Nat} (ha : a ∈ l) (hi : i ∈ ids a) : i ∈ idsL l := by
  induction l with
  | nil => simp at ha
  | cons x xs ih =>
    simp only [idsL, List.mem_append]
    rcases List.mem_cons.1 ha with rfl | h
    · exact .inl hi
    · exact .inr (ih h)

theorem bsl_sound {t : TypeId} {len : Nat} {ps : List (Nat × AV)} {qs : Array (Nat × Value)} {nx : Nat} {e : Eff}
    (h : bslA P t len ps gi nx = some e) (hg : ∀ i ∈ e.rd, g i = gi i) (hi : Inv φ m g w) (hgn : g nx = none) (hmn : m nx = none)
    (he : ps.map (·.1) = qs.toList.map (·.1)) (hr : ∀ (j : Nat) (p : Nat × AV) (q : Nat × Value), ps[j]? = some p → qs.toList[j]? = some q → VR φ m p.2 q.2) :
    ∃ cv w', (Instr.buildSlice t len qs).run P w = .ok cv w' ∧ Post φ m g w e cv w' := by
  unfold bslA at h
  split at h
  · cases h
  rename_i el ts bytes hel
  split at h
  · cases h
  rename_i z hz
  split at h
  · rename_i hb
    obtain ⟨hmax, hzl, hz1⟩ := hb
    split at h
    · rename_i es ro hsp hro
      simp only [Option.some.injEq] at h; subst h
      obtain ⟨hu, hts, i, hinf, hisz, hib, hipos⟩ := elt_some hel
      obtain ⟨i', zv, hinf', hzv, rfl, hzrun⟩ := zer_run hz w
      rw [hinf] at hinf'; cases hinf'
      obtain ⟨φ1, i1, f1, c1, n1, s1, t1⟩ := ro_sound hro (fun i hi => hg i (by simpa using hi)) hi (nodup_addTo _ _ (by simp))
      have hzvl := ofV_cells (φ := φ1) (m := LM.none) hz1
      have hzc : zv.cells.size = i.size := by have := VRL_len hzvl; simp only [Array.length_toList] at this; omega
      have hrep : VRL φ1 LM.none ((List.replicate len (ofV zv)).flatMap AV.cells) ((Array.range (len * i.size)).map fun k => (if len * i.size = 0 then #[] else zv.cells)[k % (if len * i.size = 0 then #[] else zv.cells).size]!).toList := by
        by_cases h0 : len = 0
        · subst h0; simp [VRL]
        · have : len * i.size ≠ 0 := Nat.mul_ne_zero h0 (by omega)
          simp only [if_neg this]
          rw [rep_flat, ← hzc, range_mod zv.cells (by omega)]
          exact VRL_rep hzvl _
      obtain ⟨cells', k1, k2, k3, k4⟩ := setP_sound (bx := bxD gi 3) hsp (fun e he => by rw [List.eq_of_mem_replicate he]; exact ⟨hzl, hz1⟩) hrep he
        (fun j p q v hp hq hf => frz_ro_sound hi f1.φle i1 c1 t1 hf (fun i hi => hg i (by rw [ids_mem]; exact idsL_mem (List.mem_map.2 ⟨p, List.mem_of_getElem? hp, rfl⟩) hi))
          (fun i hi => idsL_mem (List.mem_map.2 ⟨p, List.mem_of_getElem? hp, rfl⟩) hi) (hr j p q hp hq))
      have hlen : es.length = len := by simpa using k3
      have hgn1 : upd g ro nx = none := by
        cases hq : upd g ro nx with
        | none => rfl
        | some ob => obtain ⟨ob', h1, _⟩ := s1 nx ob hq; rw [hgn] at h1; cases h1
      have hcs : cells'.size = len * i.size := by
        have := VRL_len k2
        rw [flat_len (fun e he => (k4 e he).1), hlen, ← hisz] at this
        simpa using this
      obtain ⟨p1, p2, p3⟩ := new_arr (w' := w.alloc (.cells cells' el)) (cap := len) (t := el) (a := cells') (esz := ts.size) (es := es) i1 hmn hgn1 (by omega) k4 (by omega) (by rw [hcs, hisz])
        (by rw [List.take_of_length_le (by simp [hcs, hlen, hisz])]; exact k2) rfl rfl rfl rfl
      rw [hlen] at p1 p2 p3
      refine ⟨_, _, ?_, φ1, _, p1, by rw [upd_cons]; exact p2, by rw [upd_cons]; exact f1.trans p3, put_new (by simp) (by simp [lkp])⟩
      have hsz' : ¬ (len * i.size > 2 ^ 24) := by rw [hisz]; omega
      have k1' : Instr.fill (fun k => some (k * i.size, i.size)) ((Array.range (len * i.size)).map fun k => (if len * i.size = 0 then #[] else zv.cells)[k % (if len * i.size = 0 then #[] else zv.cells).size]!) qs.toList = some cells' := by
        rw [hisz] at k1 ⊢; exact k1
      by_cases h0 : len * i.size = 0
      · simp only [if_pos h0] at k1'
        simp only [Instr.buildSlice, Sem.run_bind, run_underlying hu, Result.andThen_ok, run_sizeOf hinf, Sem.run_ite, Sem.run_pure, if_neg hsz', if_pos h0, k1', newRow, run_newObj]
        rfl
      · simp only [if_neg h0] at k1'
        simp only [Instr.buildSlice, Sem.run_bind, run_underlying hu, Result.andThen_ok, run_sizeOf hinf, Sem.run_ite, Sem.run_pure, if_neg hsz', if_neg h0, hzrun, k1', newRow, run_newObj]
        rfl
    · cases h
  · cases h
end
end Go.Proofs.Ytfhglldoejeedaa.Am
