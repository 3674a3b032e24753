import Derived.Test.YtapchldnmkfkoabDoorAmCa
import Derived.Laws.MakeOwn
import Derived.Laws.StructEq
import Derived.Laws.BytesString
set_option linter.unusedVariables false
set_option linter.unusedSimpArgs false
set_option linter.unusedSectionVars false
namespace Go.Proofs.YtapchldnmkfkoabDoor.Am
open Go

variable {P : Program}

section
variable {φ : FM} {m : LM} {g gi : Nat → Option Ob} {w w' : World}

theorem fzc_VR {m : LM} {v : AV} {c : Value} (h : VR φ m v c) : VR φ m (fzc v) c := by
  unfold fzc
  split
  · simp only [VR] at h ⊢
    obtain ⟨ad, rfl⟩ := h
    exact ⟨ad, 0, rfl, Nat.le_refl _, .inl rfl⟩
  · exact h
theorem fzc_VRL {m : LM} : ∀ {vs : List AV} {cs : List Value}, VRL φ m vs cs → VRL φ m (vs.map fzc) cs
  | [], cs, h => by simpa [VRL] using h
  | v :: vs, cs, h => by
    simp only [VRL, List.map_cons] at h ⊢
    obtain ⟨c, cs, rfl, h1, h2⟩ := h
    exact ⟨c, cs, rfl, fzc_VR h1, fzc_VRL h2⟩
theorem fz_cells (z : AV) : (fz z).cells = z.cells.map fzc := by
  cases z <;> simp [fz, AV.cells, fzc]
theorem fzc_one {v : AV} (h : v.one = true) : (fzc v).one = true := by
  unfold fzc; split <;> simp_all [AV.one]
theorem fz_one {z : AV} (h : z.cells.all AV.one = true) : (fz z).cells.all AV.one = true := by
  rw [fz_cells]
  simp only [List.all_map, List.all_eq_true, Function.comp] at h ⊢
  exact fun x hx => fzc_one (h x hx)

/-- A new row in whose elements rows may lie. -/
theorem new_nar (hi : Inv φ m g w) {id esz cap : Nat} {es : List AV} {zs : List Nat} {a : Array Value} {t : TypeId} (hm : m id = none) (hg : g id = none) (hpos : 0 < esz)
    (hw : ∀ e ∈ es, e.cells.length = esz ∧ e.cells.all AV.one = true) (hcap : es.length ≤ cap) (ha : a.size = cap * esz)
    (hv : NR φ m w esz zs (es.flatMap AV.cells) (a.toList.take (es.length * esz)) (fun _ => none))
    (hos : w'.os = w.os) (htape : w'.tape = w.tape) (hout : w'.output = w.output) (hh : w'.heap = w.heap.push (.cells a t (0, 0))) :
    let l : Loc := ⟨w.heap.size, esz, cap, es.length, []⟩
    VR φ (putM m id l) (.osl id 0 es.length es.length) (.slice (some ⟨w.heap.size, 0, none⟩) es.length cap) ∧
    Inv φ (putM m id l) (upd g [(id, .nar esz es zs)]) w' ∧ Fr φ m g w φ (putM m id l) (upd g [(id, .nar esz es zs)]) w' := by
  intro l
  refine ⟨?_, inv_new hi hm hg hos htape hout hh (fun b h => ?_) ⟨rfl, fun cs' e => (by cases e), fun _ _ _ e => (by cases e), ?_⟩⟩
  · simp only [VR]
    exact ⟨rfl, l, by simp [putM], Nat.le_refl _, fun _ => ⟨_, rfl, fun _ => by simp [l]⟩⟩
  · rcases h with h | h
    · exact h.2.symm
    · simp [l] at h
  · refine ⟨rfl, hpos, hw, hcap, fun b hb => by simp [l] at hb, _, _, hv.mono (FM.le_refl _) (Ext.put hm) (fun i b h => by cases h), (fun i b h => by cases h), ?_⟩
    by_cases h0 : cap = 0
    · exact .inl h0
    · refine .inr ⟨a, t, ?_, ha, ?_, rfl⟩
      · show w'.heap[w.heap.size]? = _
        rw [hh]; simp
      · cases hp : φ l.blk with
        | none => rfl
        | some o => have := (Array.getElem?_eq_some_iff.1 (hi.fz _ _ hp)).1; simp [l] at this
/-- Cells that are plain, or empty rows without room. -/
theorem NR_of {esz : Nat} {zs : List Nat} {cs : List AV} {vs : List Value} (hl : vs.length = cs.length) (h : ∀ (i : Nat) (c : AV) (v : Value), cs[i]? = some c → vs[i]? = some v → (plain c = true ∧ VR φ m c v) ∨ (c = .fsl [] ∧ ∃ ad, v = .slice ad 0 0)) :
    NR φ m w esz zs cs vs (fun _ => none) := by
  refine ⟨hl, fun i c v hc hv => ?_, (fun i j b h => by cases h), fun _ _ => rfl⟩
  rcases h i c v hc hv with ⟨h1, h2⟩ | ⟨rfl, ad, rfl⟩
  · exact .inl ⟨h1, h2, rfl⟩
  · exact .inr ⟨[], ad, 0, rfl, rfl, Nat.le_refl _, fun _ e he => by simp at he, rfl, .inl ⟨rfl, rfl⟩⟩

theorem mk_sound {t : TypeId} {l c : AV} {cl cc : Value} {nx : Nat} {e : Eff}
    (h : mkA P t l c nx = some e) (hi : Inv φ m g w) (hgn : g nx = none) (hmn : m nx = none) (hl : VR φ m l cl) (hc : VR φ m c cc) :
    ∃ cv w', (Instr.makeSlice t cl cc).run P w = .ok cv w' ∧ Post φ m g w e cv w' := by
  unfold mkA at h
  split at h
  · rename_i el ts bytes l c hel
    split at h
    · rename_i z hz
      split at h
      · rename_i hb
        obtain ⟨h0, hlc, hcr, hcb, hzl, hz1⟩ := hb
        simp only [Option.some.injEq] at h; subst h
        obtain ⟨hu, hts, i, hinf, hisz, hib, hipos⟩ := elt_some hel
        obtain ⟨i', zv, hinf', hzv, rfl, hzrun⟩ := zer_run hz w
        rw [hinf] at hinf'; cases hinf'
        simp only [VR] at hl hc
        subst hl; subst hc
        have hzvl0 := ofV_cells (φ := φ) (m := LM.none) hz1
        have hzvl := fzc_VRL hzvl0
        rw [← fz_cells] at hzvl
        have hzl2 : (fz (ofV zv)).cells.length = ts.size := by rw [fz_cells]; simpa using hzl
        have hz2 := fz_one hz1
        have hzc : zv.cells.size = i.size := by have := VRL_len hzvl0; simp only [Array.length_toList] at this; omega
        have hrun := run_make (P := P) w t el i zv hu hinf hzv .i64 .i64 l c h0 hlc (by rw [hib, Int.mul_comm]; unfold room at hcb; omega) (by unfold room at hcr; omega)
        have hlr : (List.replicate l.toNat (fz (ofV zv))).length = l.toNat := by simp
        have hmade : (madeCells zv.cells (c.toNat * i.size)).toList.take (l.toNat * ts.size) = (List.replicate l.toNat zv.cells.toList).flatten := by
          have e1 : (madeCells zv.cells (c.toNat * i.size)).toList = (List.replicate c.toNat zv.cells.toList).flatten := by
            unfold madeCells
            rw [← hzc]; exact range_mod zv.cells (by omega) _
          rw [e1]
          obtain ⟨d, hd⟩ : ∃ d, c.toNat = l.toNat + d := ⟨c.toNat - l.toNat, by omega⟩
          rw [hd, ← List.replicate_append_replicate, List.flatten_append]
          have : (List.replicate l.toNat zv.cells.toList).flatten.length = l.toNat * ts.size := by simp [hzc, hisz]
          rw [← this, List.take_left]
        have hwd : ∀ e ∈ List.replicate l.toNat (fz (ofV zv)), e.cells.length = ts.size ∧ e.cells.all AV.one = true := fun e he => by rw [List.eq_of_mem_replicate he]; exact ⟨hzl2, hz2⟩
        by_cases hdp : (deepP P el && plainL (ofV zv).cells) = true
        · rw [if_pos hdp]
          simp only [Bool.and_eq_true] at hdp
          have hv1 := VRL_rep (ofV_cells (φ := φ) (m := m) hz1) l.toNat
          have hfm : (List.replicate l.toNat (fz (ofV zv))).flatMap AV.cells = ((List.replicate l.toNat (ofV zv)).flatMap AV.cells).map fzc := by
            rw [rep_flat, rep_flat, fz_cells, List.map_flatten, List.map_replicate]
          rw [← rep_flat] at hv1
          obtain ⟨p1, p2, p3⟩ := new_nar (w' := w.alloc (.cells (madeCells zv.cells (c.toNat * i.size)) el)) (cap := c.toNat) (t := el) (a := madeCells zv.cells (c.toNat * i.size)) (esz := ts.size) (es := List.replicate l.toNat (fz (ofV zv))) (zs := zsP P 6 el) hi hmn hgn (by omega)
            hwd (by rw [hlr]; omega) (by simp [madeCells, hisz]) (by
              rw [hlr, hmade, hfm]
              refine NR_of (by rw [List.length_map]; exact VRL_len hv1) fun k c v hc hv => ?_
              rw [List.getElem?_map, Option.map_eq_some_iff] at hc
              obtain ⟨c0, hc0, rfl⟩ := hc
              obtain ⟨v', g1, g2⟩ := VRL_get hv1 hc0
              rw [hv] at g1; cases g1
              have hp0 : plain c0 = true := by
                obtain ⟨e, he, hce⟩ := List.mem_flatMap.1 (List.mem_of_getElem? hc0)
                rw [List.eq_of_mem_replicate he] at hce
                exact plainL_iff.1 hdp.2 c0 hce
              unfold fzc
              split
              · simp only [VR] at g2
                obtain ⟨ad, rfl⟩ := g2
                exact .inr ⟨rfl, ad, rfl⟩
              · exact .inl ⟨hp0, g2⟩) rfl rfl rfl rfl
          rw [hlr] at p1 p2 p3
          exact ⟨_, _, hrun, _, _, p1, p2, p3, put_new (by simp) (by simp [lkp])⟩
        · rw [if_neg hdp]
          obtain ⟨p1, p2, p3⟩ := new_arr (w' := w.alloc (.cells (madeCells zv.cells (c.toNat * i.size)) el)) (cap := c.toNat) (t := el) (a := madeCells zv.cells (c.toNat * i.size)) (esz := ts.size) (es := List.replicate l.toNat (fz (ofV zv))) hi hmn hgn (by omega)
            hwd (by rw [hlr]; omega) (by simp [madeCells, hisz]) (by
              rw [hlr, rep_flat, hmade]
              exact VRL_rep hzvl _) rfl rfl rfl rfl
          rw [hlr] at p1 p2 p3
          exact ⟨_, _, hrun, _, _, p1, p2, p3, put_new (by simp) (by simp [lkp])⟩
      · cases h
    · cases h
  · cases h

theorem setP_sound {n : Nat} {bx : List AV → Option (List AV)} : ∀ {ps : List (Nat × AV)} {es es' : List AV}, setParts gi n es ps = some es' → (∀ e ∈ es, e.cells.length = n ∧ e.cells.all AV.one = true) →
    ∀ {qs : List (Nat × Value)} {cells : Array Value} {φ1 : FM}, VRL φ1 LM.none (es.flatMap AV.cells) cells.toList → ps.map (·.1) = qs.map (·.1) →
    (∀ (j : Nat) (p : Nat × AV) (q : Nat × Value) (v : AV), ps[j]? = some p → qs[j]? = some q → frz gi p.2 = some v → VR φ1 LM.none v q.2) →
    ∃ cells', Instr.fill (fun i => some (i * n, n)) cells qs = some cells' ∧ VRL φ1 LM.none (es'.flatMap AV.cells) cells'.toList ∧ es'.length = es.length ∧ (∀ e ∈ es', e.cells.length = n ∧ e.cells.all AV.one = true)
  | [], es, es', h, hw, qs, cells, φ1, hv, he, _ => by
    simp only [setParts, Option.some.injEq] at h; subst h
    cases qs with
    | nil => exact ⟨cells, rfl, hv, rfl, hw⟩
    | cons _ _ => simp at he
  | (i, v) :: ps, es, es', h, hw, [], cells, φ1, hv, he, _ => by simp at he
  | (i, v) :: ps, es, es', h, hw, (i', cv) :: qs, cells, φ1, hv, he, hr => by
    simp only [List.map_cons, List.cons.injEq] at he
    obtain ⟨rfl, he⟩ := he
    simp only [setParts] at h
    split at h
    · rename_i v' hf
      split at h
      · rename_i hb
        have hvr := hr 0 (i, v) (i, cv) v' (by simp) (by simp) hf
        have hvc := VR_cells hvr hb.2.2
        have hcl : cv.cells.size = v'.cells.length := by simpa using VRL_len hvc
        have hl : cells.size = es.length * n := by have := VRL_len hv; rw [flat_len (fun e he => (hw e he).1)] at this; simpa using this
        have hle : i * n + n ≤ es.length * n := by rw [← Nat.succ_mul]; exact Nat.mul_le_mul_right _ hb.2.1
        have hstep := fill_step hv hvc (off := i * n) (by rw [flat_len (fun e he => (hw e he).1)]; omega)
        have hset := set_flat (fun e he => (hw e he).1) hb.2.1 hb.1
        rw [← hset] at hstep
        obtain ⟨cells', k1, k2, k3, k4⟩ := setP_sound (bx := bx) h (fun e he => by
          rcases List.mem_or_eq_of_mem_set he with h1 | h1
          · exact hw e h1
          · subst h1; exact ⟨hb.1, hb.2.2⟩) hstep he (fun j p q v hp hq hv => hr (j + 1) p q v (by simpa using hp) (by simpa using hq) hv)
        refine ⟨cells', ?_, k2, by simpa using k3, k4⟩
        unfold Instr.fill
        simp only
        rw [if_neg (by simp; omega)]
        exact k1
      · cases h
    · cases h

theorem idsL_mem {l : List AV} {a : AV} {i : Nat} (ha : a ∈ l) (hi : i ∈ ids a) : i ∈ idsL l := by
  induction l with
  | nil => simp at ha
  | cons x xs ih =>
    simp only [idsL, List.mem_append]
    rcases List.mem_cons.1 ha with rfl | h
    · exact .inl hi
    · exact .inr (ih h)

theorem bsl_sound {t : TypeId} {len : Nat} {ps : List (Nat × AV)} {qs : Array (Nat × Value)} {nx : Nat} {e : Eff}
    (h : bslA P t len ps gi nx = some e) (hg : ∀ i ∈ e.rd, g i = gi i) (hi : Inv φ m g w) (hgn : g nx = none) (hmn : m nx = none)
    (he : ps.map (·.1) = qs.toList.map (·.1)) (hr : ∀ (j : Nat) (p : Nat × AV) (q : Nat × Value), ps[j]? = some p → qs.toList[j]? = some q → VR φ m p.2 q.2) :
    ∃ cv w', (Instr.buildSlice t len qs).run P w = .ok cv w' ∧ Post φ m g w e cv w' := by
  unfold bslA at h
  split at h
  · cases h
  rename_i el ts bytes hel
  split at h
  · cases h
  rename_i z hz
  split at h
  · rename_i hb
    obtain ⟨hmax, hzl, hz1⟩ := hb
    split at h
    · rename_i es ro hsp hro
      simp only [Option.some.injEq] at h; subst h
      obtain ⟨hu, hts, i, hinf, hisz, hib, hipos⟩ := elt_some hel
      obtain ⟨i', zv, hinf', hzv, rfl, hzrun⟩ := zer_run hz w
      rw [hinf] at hinf'; cases hinf'
      obtain ⟨φ1, i1, f1, c1, n1, s1, t1⟩ := ro_sound hro (fun i hi => hg i (by simpa using hi)) hi (nodup_addTo _ _ (by simp))
      have hzvl := ofV_cells (φ := φ1) (m := LM.none) hz1
      have hzc : zv.cells.size = i.size := by have := VRL_len hzvl; simp only [Array.length_toList] at this; omega
      have hrep : VRL φ1 LM.none ((List.replicate len (ofV zv)).flatMap AV.cells) ((Array.range (len * i.size)).map fun k => (if len * i.size = 0 then #[] else zv.cells)[k % (if len * i.size = 0 then #[] else zv.cells).size]!).toList := by
        by_cases h0 : len = 0
        · subst h0; simp [VRL]
        · have : len * i.size ≠ 0 := Nat.mul_ne_zero h0 (by omega)
          simp only [if_neg this]
          rw [rep_flat, ← hzc, range_mod zv.cells (by omega)]
          exact VRL_rep hzvl _
      obtain ⟨cells', k1, k2, k3, k4⟩ := setP_sound (bx := bxD gi 3) hsp (fun e he => by rw [List.eq_of_mem_replicate he]; exact ⟨hzl, hz1⟩) hrep he
        (fun j p q v hp hq hf => frz_ro_sound hi f1.φle i1 c1 t1 hf (fun i hi => hg i (by rw [ids_mem]; exact idsL_mem (List.mem_map.2 ⟨p, List.mem_of_getElem? hp, rfl⟩) hi))
          (fun i hi => idsL_mem (List.mem_map.2 ⟨p, List.mem_of_getElem? hp, rfl⟩) hi) (hr j p q hp hq))
      have hlen : es.length = len := by simpa using k3
      have hgn1 : upd g ro nx = none := by
        cases hq : upd g ro nx with
        | none => rfl
        | some ob => obtain ⟨ob', h1, _⟩ := s1 nx ob hq; rw [hgn] at h1; cases h1
      have hcs : cells'.size = len * i.size := by
        have := VRL_len k2
        rw [flat_len (fun e he => (k4 e he).1), hlen, ← hisz] at this
        simpa using this
      obtain ⟨p1, p2, p3⟩ := new_arr (w' := w.alloc (.cells cells' el)) (cap := len) (t := el) (a := cells') (esz := ts.size) (es := es) i1 hmn hgn1 (by omega) k4 (by omega) (by rw [hcs, hisz])
        (by rw [List.take_of_length_le (by simp [hcs, hlen, hisz])]; exact k2) rfl rfl rfl rfl
      rw [hlen] at p1 p2 p3
      refine ⟨_, _, ?_, φ1, _, p1, by rw [upd_cons]; exact p2, by rw [upd_cons]; exact f1.trans p3, put_new (by simp) (by simp [lkp])⟩
      have hsz' : ¬ (len * i.size > 2 ^ 24) := by rw [hisz]; omega
      have k1' : Instr.fill (fun k => some (k * i.size, i.size)) ((Array.range (len * i.size)).map fun k => (if len * i.size = 0 then #[] else zv.cells)[k % (if len * i.size = 0 then #[] else zv.cells).size]!) qs.toList = some cells' := by
        rw [hisz] at k1 ⊢; exact k1
      by_cases h0 : len * i.size = 0
      · simp only [if_pos h0] at k1'
        simp only [Instr.buildSlice, Sem.run_bind, run_underlying hu, Result.andThen_ok, run_sizeOf hinf, Sem.run_ite, Sem.run_pure, if_neg hsz', if_pos h0, k1', newRow, run_newObj]
        rfl
      · simp only [if_neg h0] at k1'
        simp only [Instr.buildSlice, Sem.run_bind, run_underlying hu, Result.andThen_ok, run_sizeOf hinf, Sem.run_ite, Sem.run_pure, if_neg hsz', if_neg h0, hzrun, k1', newRow, run_newObj]
        rfl
    · cases h
  · cases h
end
end Go.Proofs.YtapchldnmkfkoabDoor.Am
namespace Go.Proofs.YtapchldnmkfkoabDoor.Am
open Go
section
variable {P : Program} {φ : FM} {m : LM} {g gi : Nat → Option Ob} {w w' : World}
theorem setH_sound {n : Nat} : ∀ {ps : List (Nat × AV)} {es es' : List AV}, setPartsH n es ps = some es' → (∀ e ∈ es, e.cells.length = n ∧ e.cells.all AV.one = true) →
    ∀ {qs : List (Nat × Value)} {cells : Array Value} {φ1 : FM} {m1 : LM}, VRL φ1 m1 (es.flatMap AV.cells) cells.toList → ps.map (·.1) = qs.map (·.1) →
    (∀ (j : Nat) (p : Nat × AV) (q : Nat × Value), ps[j]? = some p → qs[j]? = some q → VR φ1 m1 p.2 q.2) →
    ∃ cells', Instr.fill (fun i => some (i * n, n)) cells qs = some cells' ∧ VRL φ1 m1 (es'.flatMap AV.cells) cells'.toList ∧ es'.length = es.length ∧ (∀ e ∈ es', e.cells.length = n ∧ e.cells.all AV.one = true)
  | [], es, es', h, hw, qs, cells, φ1, m1, hv, he, _ => by
    simp only [setPartsH, Option.some.injEq] at h; subst h
    cases qs with
    | nil => exact ⟨cells, rfl, hv, rfl, hw⟩
    | cons _ _ => simp at he
  | (i, v) :: ps, es, es', h, hw, [], cells, φ1, m1, hv, he, _ => by simp at he
  | (i, v) :: ps, es, es', h, hw, (i', cv) :: qs, cells, φ1, m1, hv, he, hr => by
    simp only [List.map_cons, List.cons.injEq] at he
    obtain ⟨rfl, he⟩ := he
    simp only [setPartsH] at h
    split at h
    · rename_i hb
      have hvr : VR φ1 m1 v cv := hr 0 (i, v) (i, cv) (by simp) (by simp)
      have hvc := VR_cells hvr hb.2.2
      have hcl : cv.cells.size = v.cells.length := by simpa using VRL_len hvc
      have hl : cells.size = es.length * n := by have := VRL_len hv; rw [flat_len (fun e he => (hw e he).1)] at this; simpa using this
      have hle : i * n + n ≤ es.length * n := by rw [← Nat.succ_mul]; exact Nat.mul_le_mul_right _ hb.2.1
      have hstep := fill_step hv hvc (off := i * n) (by rw [flat_len (fun e he => (hw e he).1)]; omega)
      have hset := set_flat (fun e he => (hw e he).1) hb.2.1 hb.1
      rw [← hset] at hstep
      obtain ⟨cells', k1, k2, k3, k4⟩ := setH_sound h (fun e he => by
        rcases List.mem_or_eq_of_mem_set he with h1 | h1
        · exact hw e h1
        · subst h1; exact ⟨hb.1, hb.2.2⟩) hstep he (fun j p q hp hq => hr (j + 1) p q (by simpa using hp) (by simpa using hq))
      refine ⟨cells', ?_, k2, by simpa using k3, k4⟩
      unfold Instr.fill
      simp only
      rw [if_neg (by simp; omega)]
      exact k1
    · cases h

theorem nbs_sound {t : TypeId} {len : Nat} {ps : List (Nat × AV)} {qs : Array (Nat × Value)} {nx : Nat} {e : Eff}
    (h : nbsA P t len ps nx = some e) (hi : Inv φ m g w) (hgn : g nx = none) (hmn : m nx = none)
    (he : ps.map (·.1) = qs.toList.map (·.1)) (hr : ∀ (j : Nat) (p : Nat × AV) (q : Nat × Value), ps[j]? = some p → qs.toList[j]? = some q → VR φ m p.2 q.2) :
    ∃ cv w', (Instr.buildSlice t len qs).run P w = .ok cv w' ∧ Post φ m g w e cv w' := by
  unfold nbsA at h
  split at h
  · cases h
  rename_i el ts bytes hel
  split at h
  · cases h
  rename_i z hz
  split at h
  · rename_i hb
    obtain ⟨hmax, hzl, hz1⟩ := hb
    split at h
    · rename_i es hsp
      split at h
      case isFalse => cases h
      rename_i hrf
      simp only [Option.some.injEq] at h; subst h
      obtain ⟨hu, hts, i, hinf, hisz, hib, hipos⟩ := elt_some hel
      obtain ⟨i', zv, hinf', hzv, rfl, hzrun⟩ := zer_run hz w
      rw [hinf] at hinf'; cases hinf'
      have hzvl := ofV_cells (φ := φ) (m := m) hz1
      have hzc : zv.cells.size = i.size := by have := VRL_len hzvl; simp only [Array.length_toList] at this; omega
      have hrep : VRL φ m ((List.replicate len (ofV zv)).flatMap AV.cells) ((Array.range (len * i.size)).map fun k => (if len * i.size = 0 then #[] else zv.cells)[k % (if len * i.size = 0 then #[] else zv.cells).size]!).toList := by
        by_cases h0 : len = 0
        · subst h0; simp [VRL]
        · have : len * i.size ≠ 0 := Nat.mul_ne_zero h0 (by omega)
          simp only [if_neg this]
          rw [rep_flat, ← hzc, range_mod zv.cells (by omega)]
          exact VRL_rep hzvl _
      obtain ⟨cells', k1, k2, k3, k4⟩ := setH_sound hsp (fun e he => by rw [List.eq_of_mem_replicate he]; exact ⟨hzl, hz1⟩) hrep he hr
      have hlen : es.length = len := by simpa using k3
      have hcs : cells'.size = len * i.size := by
        have := VRL_len k2
        rw [flat_len (fun e he => (k4 e he).1), hlen, ← hisz] at this
        simpa using this
      obtain ⟨p1, p2, p3⟩ := new_nar (w' := w.alloc (.cells cells' el)) (cap := len) (t := el) (a := cells') (esz := ts.size) (es := es) (zs := zsP P 6 el) hi hmn hgn (by omega) k4 (by omega) (by rw [hcs, hisz])
        (by
          rw [List.take_of_length_le (by simp [hcs, hlen, hisz])]
          refine NR_of (VRL_len k2) fun k c v hc hv => ?_
          obtain ⟨v', g1, g2⟩ := VRL_get k2 hc
          rw [hv] at g1; cases g1
          refine .inl ⟨?_, g2⟩
          obtain ⟨e, he, hce⟩ := List.mem_flatMap.1 (List.mem_of_getElem? hc)
          exact plainL_iff.1 (plain_ofcells (plainL_iff.1 hrf e he)) c hce) rfl rfl rfl rfl
      rw [hlen] at p1 p2 p3
      refine ⟨_, _, ?_, φ, _, p1, p2, p3, put_new (by simp) (by simp [lkp])⟩
      have hsz' : ¬ (len * i.size > 2 ^ 24) := by rw [hisz]; omega
      have k1' : Instr.fill (fun k => some (k * i.size, i.size)) ((Array.range (len * i.size)).map fun k => (if len * i.size = 0 then #[] else zv.cells)[k % (if len * i.size = 0 then #[] else zv.cells).size]!) qs.toList = some cells' := by
        rw [hisz] at k1 ⊢; exact k1
      by_cases h0 : len * i.size = 0
      · simp only [if_pos h0] at k1'
        simp only [Instr.buildSlice, Sem.run_bind, run_underlying hu, Result.andThen_ok, run_sizeOf hinf, Sem.run_ite, Sem.run_pure, if_neg hsz', if_pos h0, k1', newRow, run_newObj]
        rfl
      · simp only [if_neg h0] at k1'
        simp only [Instr.buildSlice, Sem.run_bind, run_underlying hu, Result.andThen_ok, run_sizeOf hinf, Sem.run_ite, Sem.run_pure, if_neg hsz', if_neg h0, hzrun, k1', newRow, run_newObj]
        rfl
    · cases h
  · cases h
end
end Go.Proofs.YtapchldnmkfkoabDoor.Am
namespace Go.Proofs.YtapchldnmkfkoabDoor.Am
open Go

variable {P : Program}

section
variable {φ : FM} {m : LM} {g gi : Nat → Option Ob} {w w' : World}

theorem trm_ok (hi : Inv φ m g w) {x : AV} {cx : Value} {src : List AV} {is : List Nat} {ts : TS} {len : Nat} (h : srcOf ts gi (trmA len x) = some (src, is)) (hg : ∀ i ∈ is, g i = gi i) (hx : VR φ m x cx) :
    ∃ cx', VR φ m (trmA len x) cx' ∧ (∀ (n0 : Nat) (w' : World), (Builtin.lenOf cx').run P w' = .ok n0 w' → ∃ n1, (Builtin.lenOf cx).run P w' = .ok n1 w' ∧ Nat.min n1 len = Nat.min n0 len) ∧
      ∀ (size n : Nat) (w' : World), (Builtin.firstCells size n cx).run P w' = (Builtin.firstCells size n cx').run P w' := by
  cases x with
  | osl id off l tot =>
    simp only [trmA, srcOf, elsOf] at h
    split at h
    · rename_i esz es ro hgi
      split at h
      · rename_i hb
        simp only [Option.some.injEq, Prod.mk.injEq] at h
        obtain ⟨_, rfl⟩ := h
        simp only [VR] at hx
        obtain ⟨q0, lc, hm, htop, hv⟩ := hx
        have hgid := (hg id (by simp)).trans hgi
        obtain ⟨l', hm', hr⟩ := hi.own id _ hgid
        rw [hm] at hm'; cases hm'
        obtain ⟨ad, rfl, had⟩ := hv (by rw [hr.top]; exact hb.1)
        refine ⟨.slice ad (min l len) (lc.cap - off), ?_, ?_, ?_⟩
        · simp only [trmA, VR]
          exact ⟨rfl, lc, hm, htop, fun _ => ⟨ad, rfl, had⟩⟩
        · intro n0 w' hn
          simp only [Builtin.lenOf, Sem.run_pure, Result.ok.injEq] at hn
          refine ⟨l, rfl, ?_⟩
          obtain ⟨rfl, _⟩ := hn
          simp only [Nat.min_def]
          repeat' split
          all_goals omega
        · intro size n w'
          cases ad <;> rfl
      · cases h
    · cases h
  | _ => exact ⟨cx, hx, fun n0 w' h => ⟨n0, h, rfl⟩, fun _ _ _ => rfl⟩

theorem cpy_sound {t t2 ty : TypeId} {s x : AV} {cs cx : Value} {nx : Nat} {e : Eff}
    (h : cpyA P t t2 s x gi nx = some e) (hg : ∀ i ∈ e.rd, g i = gi i) (hi : Inv φ m g w)
    (hs : VR φ m s cs) (hx : VR φ m x cx) :
    ∃ cv w', (Builtin.copy_ #[t, t2] ty #[cs, cx]).run P w = .ok cv w' ∧ Post φ m g w e cv w' := by
  unfold cpyA at h
  split at h
  · cases h
  rename_i el ts bytes hel
  split at h
  · cases h
  rename_i hk
  simp only [Bool.not_eq_true, Bool.not_eq_false'] at hk
  split at h
  · cases h
  rename_i src is hsrc
  split at h
  · cases h
  rename_i hwd
  simp only [Bool.not_eq_true, Bool.not_eq_false'] at hwd
  obtain ⟨hu, hts, i, hinf, hisz, hib, hipos⟩ := elt_some hel
  have hw := widths_iff hwd
  cases s with
  | osl id off len tot =>
    simp only at h
    split at h
    · rename_i esz es hgi
      split at h
      · rename_i hb
        obtain ⟨hesz, htot, hoff, hle⟩ := hb
        simp only [Option.some.injEq] at h; subst h
        obtain ⟨cx', hx', hlen, hfc⟩ := trm_ok (P := P) hi hsrc (fun i hi => hg i (by simp [hi])) hx
        obtain ⟨news, hS, hnv⟩ := src_any hi hk hsrc (fun i hi => hg i (by simp [hi])) hx' hw
        obtain ⟨n1, hn1, hmn1⟩ := hlen src.length w (hS.len w)
        rw [← hisz] at hS
        simp only [VR] at hs
        obtain ⟨_, l, hm, _, hv⟩ := hs
        have hgid := (hg id (by simp)).trans hgi
        obtain ⟨l', hm', hr⟩ := hi.own id _ hgid
        rw [hm] at hm'; cases hm'
        obtain ⟨ad, rfl, had⟩ := hv (by rw [hr.top]; exact htot)
        obtain ⟨b1, b2, b3, b4, b5⟩ := hr.arr esz es false rfl
        have hnl := hS.newsLen
        have hesi : esz = i.size := by omega
        have hnl' : news.length = src.length * esz := by rw [hnl, hesi]
        have hmin : Nat.min src.length len = src.length := Nat.min_eq_left hle
        by_cases h0 : src.length = 0
        · have : src = [] := List.eq_nil_of_length_eq_zero h0
          subst this
          have hn0 : news = [] := by simp [VRL] at hnv; exact hnv
          subst hn0
          refine ⟨goInt 0, w, ?_, φ, m, by simp [VR, goInt], ?_, ?_, fun _ _ h => h⟩
          · have hc := hS.cells
            simp only [List.length_nil] at hc hmin
            cases ad <;> simp [Builtin.copy_, run_underlying hu, run_sizeOf hinf, hn1, hmn1, hmin, hfc, hc, storeCells]
          · simp only [List.append_nil, List.length_nil, Nat.add_zero, List.take_append_drop]; rw [upd_self hgid]; exact hi
          · simp only [List.append_nil, List.length_nil, Nat.add_zero, List.take_append_drop]; rw [upd_self hgid]; exact Fr.refl ..
        · have hcap : 0 < l.cap := by omega
          obtain ⟨a, te, c1, c2, c3, c4⟩ := b5.resolve_left (by omega)
          have had' := had (by omega)
          subst had'
          have hal : a.toList.length = l.cap * esz := by simpa using c2
          have hmul : (off + src.length) * esz ≤ es.length * esz := Nat.mul_le_mul_right _ (by omega)
          have hmul2 : es.length * esz ≤ l.cap * esz := Nat.mul_le_mul_right _ b4
          rw [Nat.add_mul] at hmul
          have hst := run_storeCells_at P l.blk (off * l.esz) te news 0 a w c1 (by rw [b1, hnl', c2]; omega) hS.one
          simp only [Nat.add_zero] at hst
          have hput := put_arr hi hgid hm hcap (es' := es.take off ++ src ++ es.drop (off + src.length)) (by simp; omega) (fun e he => by
              rcases List.mem_append.1 he with h1 | h1
              · rcases List.mem_append.1 h1 with h2 | h2
                · exact b3 e (List.mem_of_mem_take h2)
                · rw [hesz]; exact hw e h2
              · exact b3 e (List.mem_of_mem_drop h1)) c1 hnv (k := off * esz) (by rw [flat_len (fun e he => (hw e he).1), ← hesz]; omega)
            (flat_seg (fun e he => (b3 e he).1) (fun e he => by rw [hesz]; exact (hw e he).1) (by omega))
          refine ⟨goInt src.length, w.setRow l.blk (a.toList.take (off * l.esz) ++ news ++ a.toList.drop (off * l.esz + news.length)).toArray, ?_, φ, m, by simp [VR, goInt], (and_assoc.1 ⟨?_, fun _ _ h => h⟩)⟩
          · simp [Builtin.copy_, run_underlying hu, run_sizeOf hinf, hn1, hmn1, hmin, hfc, hS.cells, hst]
          · rw [b1]; exact hput
      · cases h
    · cases h
  | _ => cases h

theorem clr_sound {t ty : TypeId} {x : AV} {cx : Value} {nx : Nat} {e : Eff}
    (h : clrA P t x gi nx = some e) (hg : ∀ i ∈ e.rd, g i = gi i) (hi : Inv φ m g w) (hx : VR φ m x cx) :
    ∃ cv w', (Builtin.clear_ #[t] ty #[cx]).run P w = .ok cv w' ∧ Post φ m g w e cv w' := by
  unfold clrA at h
  split at h
  · cases h
  rename_i el ts bytes hel
  obtain ⟨hu, hts, i, hinf, hisz, hib, hipos⟩ := elt_some hel
  split at h
  · simp only [Eff.pure, Option.some.injEq] at h; subst h
    simp only [VR] at hx
    obtain ⟨ad, rfl⟩ := hx
    refine ⟨.tuple #[], w, ?_, post_pure hi (by simp [VR, VRL])⟩
    cases ad <;> simp [Builtin.clear_, run_underlying hu]
  · rename_i z id off len tot hz
    split at h
    · rename_i esz es hgi
      split at h
      · rename_i hb
        obtain ⟨hesz, htot, hoff, hzl, hz1⟩ := hb
        simp only [Option.some.injEq] at h; subst h
        obtain ⟨i', zv, hinf', hzv, rfl, hzrun⟩ := zer_run hz w
        rw [hinf] at hinf'; cases hinf'
        have hzvl0 := ofV_cells (φ := φ) (m := LM.none) hz1
        have hzvl := fzc_VRL hzvl0
        rw [← fz_cells] at hzvl
        have hzl2 : (fz (ofV zv)).cells.length = ts.size := by rw [fz_cells]; simpa using hzl
        have hz2 := fz_one hz1
        have hzc : zv.cells.size = i.size := by have := VRL_len hzvl0; simp only [Array.length_toList] at this; omega
        simp only [VR] at hx
        obtain ⟨_, l, hm, _, hv⟩ := hx
        have hgid := (hg id (by simp)).trans hgi
        obtain ⟨l', hm', hr⟩ := hi.own id _ hgid
        rw [hm] at hm'; cases hm'
        obtain ⟨ad, rfl, had⟩ := hv (by rw [hr.top]; exact htot)
        obtain ⟨b1, b2, b3, b4, b5⟩ := hr.arr esz es false rfl
        by_cases h0 : len = 0
        · subst h0
          refine ⟨.tuple #[], w, ?_, φ, m, by simp [VR, VRL], ?_, ?_, fun _ _ h => h⟩
          · cases ad <;> simp [Builtin.clear_, run_underlying hu]
          · simp only [List.replicate_zero, List.append_nil, Nat.add_zero, List.take_append_drop]; rw [upd_self hgid]; exact hi
          · simp only [List.replicate_zero, List.append_nil, Nat.add_zero, List.take_append_drop]; rw [upd_self hgid]; exact Fr.refl ..
        · have hcap : 0 < l.cap := by omega
          obtain ⟨a, te, c1, c2, c3, c4⟩ := b5.resolve_left (by omega)
          have had' := had (by omega)
          subst had'
          have hesi : esz = i.size := by omega
          have hzs : (Builtin.zeroCells zv.cells len).toList = (List.replicate len zv.cells.toList).flatten := range_mod zv.cells (by omega) len
          have hnv : VRL φ LM.none ((List.replicate len (fz (ofV zv))).flatMap AV.cells) (Builtin.zeroCells zv.cells len).toList := by
            rw [hzs, rep_flat]; exact VRL_rep hzvl _
          have hnl' : (Builtin.zeroCells zv.cells len).toList.length = len * esz := by rw [hzs]; simp [hzc, hesi]
          have hone : ∀ v ∈ (Builtin.zeroCells zv.cells len).toList, v.oneCell' = true := VRL_one hnv (by
            rw [List.all_eq_true]; intro y hy
            obtain ⟨e, he, hye⟩ := List.mem_flatMap.1 hy
            rw [List.eq_of_mem_replicate he] at hye
            exact (List.all_eq_true.1 hz2) y hye)
          have hal : a.toList.length = l.cap * esz := by simpa using c2
          have hmul : (off + len) * esz ≤ es.length * esz := Nat.mul_le_mul_right _ (by omega)
          have hmul2 : es.length * esz ≤ l.cap * esz := Nat.mul_le_mul_right _ b4
          rw [Nat.add_mul] at hmul
          have hst := run_storeCells_at P l.blk (off * l.esz) te (Builtin.zeroCells zv.cells len).toList 0 a w c1 (by rw [b1, hnl', c2]; omega) hone
          simp only [Nat.add_zero] at hst
          have hlr : (List.replicate len (fz (ofV zv))).length = len := by simp
          have hput := put_arr hi hgid hm hcap (es' := es.take off ++ List.replicate len (fz (ofV zv)) ++ es.drop (off + len)) (by simp; omega) (fun e he => by
              rcases List.mem_append.1 he with h1 | h1
              · rcases List.mem_append.1 h1 with h2 | h2
                · exact b3 e (List.mem_of_mem_take h2)
                · rw [List.eq_of_mem_replicate h2]; exact ⟨by omega, hz2⟩
              · exact b3 e (List.mem_of_mem_drop h1)) c1 hnv (k := off * esz) (by rw [flat_len (n := esz) (fun e he => by rw [List.eq_of_mem_replicate he]; omega), hlr]; omega)
            (by have := flat_seg (es := es) (src := List.replicate len (fz (ofV zv))) (k := off) (n := esz) (fun e he => (b3 e he).1) (fun e he => by rw [List.eq_of_mem_replicate he]; omega) (by rw [hlr]; omega)
                rw [hlr] at this; exact this)
          refine ⟨.tuple #[], w.setRow l.blk (a.toList.take (off * l.esz) ++ (Builtin.zeroCells zv.cells len).toList ++ a.toList.drop (off * l.esz + (Builtin.zeroCells zv.cells len).toList.length)).toArray, ?_, φ, m, by simp [VR, VRL], (and_assoc.1 ⟨?_, fun _ _ h => h⟩)⟩
          · obtain ⟨len, rfl⟩ : ∃ k, len = k + 1 := ⟨len - 1, by omega⟩
            simp [Builtin.clear_, run_underlying hu, hzrun, hst]
          · rw [b1]; exact hput
      · cases h
    · cases h
  · cases h
end
end Go.Proofs.YtapchldnmkfkoabDoor.Am
namespace Go.Proofs.YtapchldnmkfkoabDoor.Am
open Go

variable {P : Program}

section
variable {φ : FM} {m : LM} {g gi : Nat → Option Ob} {w w' : World}

theorem run_bound {n : Int} {k : IntKind} {c : BoundsCode} {y' : Nat} (h0 : 0 ≤ n) (h1 : n ≤ y') (w : World) : (Instr.sliceBound (.int k n) y' c).run P w = .ok n.toNat w := by
  simp [Instr.sliceBound, asIntOf, h0, h1]

theorem numA_none {o : Option AV} (h : numA o = some none) : o = none := by
  cases o with
  | none => rfl
  | some a => cases a <;> simp [numA] at h

theorem numA_some {o : Option AV} {n : Int} (h : numA o = some (some n)) : ∃ k, o = some (.int k n) := by
  cases o with
  | none => simp [numA] at h
  | some a => cases a <;> simp [numA] at h; subst h; exact ⟨_, rfl⟩

/-- A bound that is typed, or is not. -/
def OV (φ : FM) (m : LM) (o : Option AV) (c : Option Value) : Prop := match o, c with
  | none, none => True
  | some a, some v => VR φ m a v
  | _, _ => False

theorem bounds_run {lo hi mx : Option AV} {cl ch cm : Option Value} {nl nh nm : Option Int} (h1 : numA lo = some nl) (h2 : numA hi = some nh) (h3 : numA mx = some nm)
    (v1 : OV φ m lo cl) (v2 : OV φ m hi ch) (v3 : OV φ m mx cm) {sl : Bool} {len cap : Nat} {l h m' : Nat}
    (hm : (nm.getD cap) = m') (hh : nh.getD len = h) (hl : nl.getD 0 = l) (a1 : l ≤ h) (a2 : h ≤ m') (a3 : m' ≤ cap) (hmh : nm.isSome = true → nh.isSome = true) (w : World) :
    (Instr.sliceBounds sl len cap cl ch cm).run P w = .ok (l, h, m') w := by
  have e1 : ∀ {o : Option AV} {c : Option Value} {n : Option Int}, numA o = some n → OV φ m o c → (n = none ∧ c = none) ∨ ∃ k q, n = some q ∧ c = some (.int k q) := by
    intro o c n hn hv
    cases n with
    | none => have := numA_none hn; subst this; cases c with
      | none => exact .inl ⟨rfl, rfl⟩
      | some _ => exact absurd hv (by simp [OV])
    | some q =>
      obtain ⟨k, rfl⟩ := numA_some hn
      cases c with
      | none => exact absurd hv (by simp [OV])
      | some v => simp only [OV, VR] at hv; subst hv; exact .inr ⟨k, q, rfl, rfl⟩
  have c1 : (cl = none ∧ l = 0) ∨ ∃ k, cl = some (.int k l) := by
    rcases e1 h1 v1 with ⟨rfl, rfl⟩ | ⟨k, q, rfl, rfl⟩
    · exact .inl ⟨rfl, by simp at hl; omega⟩
    · simp at hl; subst hl; exact .inr ⟨k, rfl⟩
  have c2 : (nh = none ∧ ch = none ∧ h = len) ∨ ∃ k, ch = some (.int k h) := by
    rcases e1 h2 v2 with ⟨rfl, rfl⟩ | ⟨k, q, rfl, rfl⟩
    · exact .inl ⟨rfl, rfl, by simp at hh; omega⟩
    · simp at hh; subst hh; exact .inr ⟨k, rfl⟩
  have c3 : (cm = none ∧ m' = cap) ∨ ∃ k, nm.isSome = true ∧ cm = some (.int k m') := by
    rcases e1 h3 v3 with ⟨rfl, rfl⟩ | ⟨k, q, rfl, rfl⟩
    · exact .inl ⟨rfl, by simp at hm; omega⟩
    · simp at hm; subst hm; exact .inr ⟨k, rfl, rfl⟩
  have i1 : (l : Int) ≤ h := by omega
  have i2 : (h : Int) ≤ m' := by omega
  have i3 : (m' : Int) ≤ cap := by omega
  clear e1 h1 h2 h3 v1 v2 v3 hm hh hl
  rcases c3 with ⟨rfl, e3⟩ | ⟨k3, s3, rfl⟩
  · rcases c2 with ⟨_, rfl, e2⟩ | ⟨k2, rfl⟩
    · rcases c1 with ⟨rfl, e1⟩ | ⟨k1, rfl⟩
      · simp [Instr.sliceBounds]; omega
      · subst e2
        simp only [Instr.sliceBounds, Sem.run_bind, Sem.run_pure, Result.andThen_ok, run_bound (Int.natCast_nonneg l) i1, Int.toNat_natCast]
        rw [e3]
    · subst e3
      rcases c1 with ⟨rfl, e1⟩ | ⟨k1, rfl⟩
      · simp only [Instr.sliceBounds, Sem.run_bind, Sem.run_pure, Result.andThen_ok, run_bound (Int.natCast_nonneg h) i2, Int.toNat_natCast]
        rw [e1]
      · simp only [Instr.sliceBounds, Sem.run_bind, Sem.run_pure, Result.andThen_ok, run_bound (Int.natCast_nonneg h) i2, run_bound (Int.natCast_nonneg l) i1, Int.toNat_natCast]
  · rcases c2 with ⟨e0, rfl, e2⟩ | ⟨k2, rfl⟩
    · have := hmh s3; rw [e0] at this; cases this
    · rcases c1 with ⟨rfl, e1⟩ | ⟨k1, rfl⟩
      · simp only [Instr.sliceBounds, Sem.run_bind, Sem.run_pure, Result.andThen_ok, run_bound (Int.natCast_nonneg m') i3, run_bound (Int.natCast_nonneg h) i2, Int.toNat_natCast]
        rw [e1]
      · simp only [Instr.sliceBounds, Sem.run_bind, Sem.run_pure, Result.andThen_ok, run_bound (Int.natCast_nonneg m') i3, run_bound (Int.natCast_nonneg h) i2, run_bound (Int.natCast_nonneg l) i1, Int.toNat_natCast]
end
end Go.Proofs.YtapchldnmkfkoabDoor.Am
namespace Go.Proofs.YtapchldnmkfkoabDoor.Am
open Go

variable {P : Program}

section
variable {φ : FM} {m : LM} {g gi : Nat → Option Ob} {w w' : World}

theorem slc_sound {t : TypeId} {x : AV} {lo hi mx : Option AV} {cx : Value} {cl ch cm : Option Value} {nx : Nat} {e : Eff}
    (h : slcA P t x lo hi mx gi nx = some e) (hg : ∀ i ∈ e.rd, g i = gi i) (hinv : Inv φ m g w) (hx : VR φ m x cx)
    (v1 : OV φ m lo cl) (v2 : OV φ m hi ch) (v3 : OV φ m mx cm) :
    ∃ cv, (Instr.sliceAt t cx cl ch cm).run P w = .ok cv w ∧ VR φ m e.v cv ∧ e.wr = [] := by
  unfold slcA at h
  split at h
  · rename_i nl nh nm e1 e2 e3
    split at h
    · rename_i s
      split at h
      · rename_i hu
        simp only at h
        split at h
        · rename_i hb
          obtain ⟨hmn, b0, b1, b2⟩ := hb
          simp only [Eff.pure, Option.some.injEq] at h; subst h
          simp only [VR] at hx; subst hx
          subst hmn
          have hmx := numA_none e3
          subst hmx
          have hcm : cm = none := by cases cm <;> simp_all [OV]
          subst hcm
          have hr := bounds_run (P := P) (sl := false) (len := s.size) (cap := s.size) (l := (nl.getD 0).toNat) (h := (nh.getD s.size).toNat) (m' := s.size) e1 e2 e3 v1 v2 (cm := none) (by simp [OV]) rfl (by omega) (by omega) (by omega) (by omega) (Nat.le_refl _) (by simp) w
          refine ⟨_, ?_, by simp only [VR]; rfl, rfl⟩
          simp [Instr.sliceAt, run_underlying hu, Instr.slice, hr]
        · cases h
      · cases h
    · split at h
      · cases h
      rename_i el ts bytes hel
      obtain ⟨hu, hts, i, hinf, hisz, hib, hipos⟩ := elt_some hel
      have fin : ∀ (ad : Option Addr) (len cap l h m' : Nat), cx = .slice ad len cap → (nm.getD cap) = m' → nh.getD len = h → nl.getD 0 = l → l ≤ h → h ≤ m' → m' ≤ cap → (nm.isSome = true → nh.isSome = true) →
          (Instr.sliceAt t cx cl ch cm).run P w = .ok (.slice (if m' = l then ad else ad.map (·.add (l * i.size))) (h - l) (m' - l)) w := by
        rintro ad len cap l h m' rfl a1 a2 a3 a4 a5 a6 a7
        have hr := bounds_run (P := P) (sl := true) e1 e2 e3 v1 v2 v3 a1 a2 a3 a4 a5 a6 a7 w
        simp [Instr.sliceAt, run_underlying hu, Instr.slice, hr, run_sizeOf hinf]
      split at h
      · rename_i es _
        simp only [VR] at hx
        obtain ⟨ad, cap, hcx, hle, hc⟩ := hx
        simp only at h
        split at h
        · split at h
          · rename_i hb
            obtain ⟨b0, b1, b2, b3⟩ := hb
            simp only [Eff.pure, Option.some.injEq] at h; subst h
            have hwd : ∀ e ∈ es, e.cells.length = i.size := fun e he => by
              have := (List.all_eq_true.1 b3) e he
              rw [hisz]; simpa using this
            have hrun := fin ad es.length cap (nl.getD 0).toNat (nh.getD es.length).toNat cap hcx rfl (by omega) (by omega) (by omega) (by omega) (Nat.le_refl _) (by simp)
            refine ⟨_, hrun, ?_, rfl⟩
            simp only [VR]
            have hlen : ((es.drop (nl.getD 0).toNat).take (nh.getD (es.length : Int) - nl.getD 0).toNat).length = (nh.getD (es.length : Int)).toNat - (nl.getD 0).toNat := by
              simp only [List.length_take, List.length_drop]; omega
            rw [hlen]
            refine ⟨_, _, rfl, by omega, ?_⟩
            by_cases h0 : (nh.getD (es.length : Int)).toNat - (nl.getD 0).toNat = 0
            · exact .inl h0
            · rcases hc with hc | ⟨b, o, rfl, hc⟩
              · omega
              · refine .inr ⟨b, o + (nl.getD 0).toNat * i.size, ?_, ?_⟩
                · rw [if_neg (by omega)]
                  simp [add_none]
                · exact VRE_take (VRE_drop hc hwd _) _
          · cases h
        · split at h
          · rename_i m0 _ hb
            obtain ⟨b0, b1, b2, b3, b4⟩ := hb
            simp only [Eff.pure, Option.some.injEq] at h; subst h
            have hrun := fin ad es.length cap (nl.getD 0).toNat (nl.getD 0).toNat (nl.getD 0).toNat hcx (by simp; omega) (by omega) (by omega) (Nat.le_refl _) (Nat.le_refl _) (by omega) (fun _ => b4)
            refine ⟨_, hrun, ?_, rfl⟩
            simp only [VR, Nat.sub_self]
            exact ⟨_, rfl⟩
          · cases h
      · simp only [VR] at hx
        obtain ⟨ad, hcx⟩ := hx
        simp only at h
        split at h
        · rename_i hb
          obtain ⟨b0, b1, b2, b3⟩ := hb
          simp only [Eff.pure, Option.some.injEq] at h; subst h
          have hrun := fin ad 0 0 0 0 0 hcx (by simpa using b2) (by simpa using b1) (by simpa using b0) (Nat.le_refl _) (Nat.le_refl _) (Nat.le_refl _) b3
          refine ⟨_, hrun, ?_, rfl⟩
          simp only [VR, Nat.sub_self]
          exact ⟨_, rfl⟩
        · cases h
      · rename_i id off len tot _
        simp only [VR] at hx
        obtain ⟨_, l, hm, htop, hv⟩ := hx
        simp only at h
        split at h
        · rename_i esz es hrw
          obtain ⟨ob, hgi, hrow⟩ := rowO_some hrw
          split at h
          · rename_i htot
            have fin2 : g id = some ob → ∃ ad, l.esz = esz ∧ cx = .slice ad len (l.cap - off) ∧ (off < l.cap → ad = some ⟨l.blk, off * l.esz, none⟩) ∧ es.length ≤ l.cap ∧ tot ≤ l.top := by
              intro hgid
              obtain ⟨l', hm', hr⟩ := hinv.own id _ hgid
              rw [hm] at hm'; cases hm'
              obtain ⟨ad, h1, h2⟩ := hv (by rw [hr.rowT hrow]; exact htot.1)
              exact ⟨ad, (hr.rowF hrow).1, h1, h2, (hr.rowF hrow).2.2.2, htop⟩
            split at h
            · split at h
              · rename_i hb
                obtain ⟨b0, b1, b2⟩ := hb
                simp only [Option.some.injEq] at h; subst h
                obtain ⟨ad, hes, hcx, had, hcap, _⟩ := fin2 ((hg id (by simp)).trans hgi)
                have hrun := fin ad len (l.cap - off) (nl.getD 0).toNat (nh.getD (len : Int)).toNat (l.cap - off) hcx rfl (by omega) (by omega) (by omega) (by omega) (Nat.le_refl _) (by simp)
                refine ⟨_, hrun, ?_, rfl⟩
                simp only [VR]
                refine ⟨rfl, l, hm, htop, fun htt => ⟨_, by rw [show (nh.getD (len : Int) - nl.getD 0).toNat = (nh.getD (len : Int)).toNat - (nl.getD 0).toNat by omega, show l.cap - (off + (nl.getD 0).toNat) = l.cap - off - (nl.getD 0).toNat by omega], fun hlt => ?_⟩⟩
                rw [if_neg (by omega), had (by omega)]
                simp only [Option.map_some, add_none]
                rw [hes, htot.2.2, hisz, Nat.add_mul]
              · cases h
            · split at h
              · rename_i m0 hb
                obtain ⟨b0, b1, b2, b3, b4⟩ := hb
                simp only [Option.some.injEq] at h; subst h
                obtain ⟨ad, hes, hcx, had, hcap, _⟩ := fin2 ((hg id (by simp)).trans hgi)
                have hrun := fin ad len (l.cap - off) (nl.getD 0).toNat (nh.getD (len : Int)).toNat m0.toNat hcx (by simp; omega) (by omega) (by omega) (by omega) (by omega) (by omega) (fun _ => b4)
                refine ⟨_, hrun, ?_, rfl⟩
                simp only
                split
                · simp only [VR]
                  rw [show (nh.getD (len : Int)).toNat - (nl.getD 0).toNat = 0 by omega, show m0.toNat - (nl.getD 0).toNat = 0 by omega]
                  exact ⟨_, rfl⟩
                · simp [VR]
              · cases h
          · cases h
        · cases h
      · cases h
  · cases h
end
end Go.Proofs.YtapchldnmkfkoabDoor.Am
namespace Go.Proofs.YtapchldnmkfkoabDoor.Am
open Go

variable {P : Program}

theorem bytes_eq {a b : ByteArray} : (a.toList == b.toList) = decide (a = b) := by
  rw [ByteArray.toList_eq, ByteArray.toList_eq]
  obtain ⟨⟨x⟩⟩ := a
  obtain ⟨⟨y⟩⟩ := b
  rw [Bool.eq_iff_iff]
  simp

section
variable {φ : FM} {m : LM} {g gi : Nat → Option Ob} {w w' : World}

theorem run_part {t : TypeId} {ts : TS} (ht : tsh P t = some ts) {cs : List AV} {vs : Array Value} {off : Nat} {av : AV} (h1 : cs.all AV.one = true) (hv : VRL φ m cs vs.toList) (hl : ldc ts cs off = some av) (w : World) :
    ∃ cv, (part t vs off).run P w = .ok cv w ∧ VR φ m av cv := by
  cases ts with
  | sc =>
    obtain ⟨ha, i, hi, hs⟩ := tsh_sc ht
    simp only [ldc] at hl
    obtain ⟨v, hv1, hv2⟩ := VRL_get hv hl
    refine ⟨v, ?_, hv2⟩
    have : vs[off]? = some v := by simpa using hv1
    simp [part, run_isAgg ha, this]
  | ag n =>
    obtain ⟨ha, i, hi, hs⟩ := tsh_ag ht
    simp only [ldc] at hl
    split at hl
    · simp only [Option.some.injEq] at hl; subst hl
      refine ⟨.agg (vs.extract off (off + n)), by simp [part, run_isAgg ha, run_sizeOf hi, hs], ?_⟩
      simp only [VR]
      refine ⟨all_take (all_drop h1 _) _, _, rfl, ?_⟩
      have := VRL_take (VRL_drop hv off) n
      rw [Array.toList_extract]
      simpa [List.extract_eq_take_drop] using this
    · cases hl

theorem eqK_len : ∀ {ks : List Kc} {as bs : List AV} {b : Bool}, eqK ks as bs = some b → as.length = ks.length ∧ bs.length = ks.length := by
  intro ks
  induction ks with
  | nil =>
    intro as bs b h
    cases as <;> cases bs <;> simp_all [eqK]
  | cons k ks ih =>
    intro as bs b h
    cases as with
    | nil => simp [eqK] at h
    | cons a as =>
      cases bs with
      | nil => cases k <;> cases a <;> simp [eqK] at h
      | cons b' bs =>
        cases k <;> cases a <;> cases b' <;> simp only [eqK] at h <;> (try cases h)
        all_goals (try (split at h <;> (try cases h)))
        all_goals
          simp only [Option.map_eq_some_iff] at h
          obtain ⟨r, h, _⟩ := h
          have := ih h
          simp [this.1, this.2]

theorem eqK_app : ∀ {k1 k2 : List Kc} {as bs : List AV} {b : Bool}, eqK (k1 ++ k2) as bs = some b →
    ∃ x y, eqK k1 (as.take k1.length) (bs.take k1.length) = some x ∧ eqK k2 (as.drop k1.length) (bs.drop k1.length) = some y ∧ b = (x && y) := by
  intro k1
  induction k1 with
  | nil => intro k2 as bs b h; exact ⟨true, b, by simp [eqK], by simpa using h, by simp⟩
  | cons k ks ih =>
    intro k2 as bs b h
    cases as with
    | nil => simp [eqK] at h
    | cons a as =>
      cases bs with
      | nil => cases k <;> cases a <;> simp [eqK] at h
      | cons b' bs =>
        cases k <;> cases a <;> cases b' <;> simp only [List.cons_append, eqK] at h <;> (try cases h)
        all_goals (try (split at h <;> (try cases h)))
        all_goals
          simp only [Option.map_eq_some_iff] at h
          obtain ⟨r, h, rfl⟩ := h
          obtain ⟨x, y, h1, h2, rfl⟩ := ih h
          refine ⟨_, y, ?_, by simpa using h2, (Bool.and_assoc ..).symm⟩
          simp [eqK, h1, *]

theorem fs_sound {ok : TypeId → Option (List Kc)} {D : Nat}
    (hok : ∀ {t : TypeId} {k : List Kc} {a b : AV} {x y : Value} {r : Bool}, ok t = some k → (isAg P t = some true → (∃ c, a = .agg c) ∧ ∃ c, b = .agg c) → (isAg P t = some false → a.one = true ∧ b.one = true) →
      eqK k a.cells b.cells = some r → VR φ m a x → VR φ m b y → (Op.equalIn D t x y).run P w = .ok r w)
    {as bs : List AV} {xs ys : Array Value} (ha : as.all AV.one = true) (hb : bs.all AV.one = true) (hx : VRL φ m as xs.toList) (hy : VRL φ m bs ys.toList) :
    ∀ {fs : List Field} {o e : Nat} {k : List Kc} {r : Bool}, kndFs P ok fs o e = some k → eqK k (as.drop o) (bs.drop o) = some r → (Op.eqFields D xs ys fs).run P w = .ok r w
  | [], o, e, k, r, h, he => by
    simp only [kndFs] at h
    split at h
    · cases h
      have : as.drop o = [] ∧ bs.drop o = [] := by
        have := eqK_len he
        exact ⟨List.eq_nil_of_length_eq_zero this.1, List.eq_nil_of_length_eq_zero this.2⟩
      rw [this.1, this.2] at he
      simp only [eqK] at he; cases he
      simp [Op.eqFields]
    · cases h
  | f :: fs, o, e, k, r, h, he => by
    simp only [kndFs] at h
    split at h
    · rename_i ts k1 k2 hts hk1 hk2
      split at h
      · rename_i hc
        obtain ⟨hn, ho, hl, hpos⟩ := hc
        cases h
        obtain ⟨x, y, e1, e2, rfl⟩ := eqK_app he
        rw [hts] at hk2
        simp only [Option.map_some, Option.getD_some, List.drop_drop] at hk2 e2
        rw [hl] at e1 e2
        have hrest := fs_sound hok ha hb hx hy hk2 e2
        have hlen := eqK_len e1
        rw [hl] at hlen
        have hA : ∃ a b, ldc ts as o = some a ∧ ldc ts bs o = some b ∧ eqK k1 a.cells b.cells = some x ∧ (isAg P f.type = some true → (∃ c, a = .agg c) ∧ ∃ c, b = .agg c) ∧ (isAg P f.type = some false → a.one = true ∧ b.one = true) := by
          cases ts with
          | ag n =>
            simp only [TS.size] at hpos
            simp only [TS.size, List.length_take, List.length_drop] at hlen e1
            refine ⟨.agg ((as.drop o).take n), .agg ((bs.drop o).take n), ?_, ?_, e1, fun _ => ⟨⟨_, rfl⟩, ⟨_, rfl⟩⟩, fun h => ?_⟩
            · simp only [ldc]; rw [if_pos (by omega)]
            · simp only [ldc]; rw [if_pos (by omega)]
            · have := (tsh_ag hts).1; rw [this] at h; cases h
          | sc =>
            simp only [TS.size] at hlen e1
            have h1 : o < as.length := by have := hlen.1; simp at this; omega
            have h2 : o < bs.length := by have := hlen.2; simp at this; omega
            have o1 : as[o].one = true := (List.all_eq_true.1 ha) _ (List.getElem_mem h1)
            have o2 : bs[o].one = true := (List.all_eq_true.1 hb) _ (List.getElem_mem h2)
            have c1 : ∀ a : AV, a.one = true → a.cells = [a] := by intro a h; cases a <;> simp_all [AV.cells, AV.one]
            refine ⟨as[o], bs[o], by simp [ldc, h1], by simp [ldc, h2], ?_, fun h => ?_, fun _ => ⟨o1, o2⟩⟩
            · rw [c1 _ o1, c1 _ o2]
              rw [List.drop_eq_getElem_cons h1, List.drop_eq_getElem_cons h2] at e1
              simpa only [List.take_succ_cons, List.take_zero] using e1
            · have := (tsh_sc hts).1; rw [this] at h; cases h
        obtain ⟨a, b, l1, l2, hk, g1, g2⟩ := hA
        obtain ⟨cx, r1, v1⟩ := run_part (P := P) hts ha hx l1 w
        obtain ⟨cy, r2, v2⟩ := run_part (P := P) hts hb hy l2 w
        have heq := hok hk1 g1 g2 hk v1 v2
        subst ho
        rw [Op.eqFields]
        simp only [if_pos hn, Sem.run_bind, r1, r2, heq, Result.andThen_ok]
        cases x
        · simp
        · simpa using hrest
      · cases h
    · cases h

theorem eq_sound : ∀ (d : Nat) {D : Nat} {t : TypeId} {k : List Kc} {a b : AV} {x y : Value} {r : Bool}, kndIn P d t = some k → d ≤ D →
    (isAg P t = some true → (∃ c, a = .agg c) ∧ ∃ c, b = .agg c) → (isAg P t = some false → a.one = true ∧ b.one = true) → eqK k a.cells b.cells = some r →
    VR φ m a x → VR φ m b y → (Op.equalIn D t x y).run P w = .ok r w
  | 0, _, _, _, _, _, _, _, _, h, _, _, _, _, _, _ => by simp [kndIn] at h
  | d + 1, 0, _, _, _, _, _, _, _, _, h, _, _, _, _, _ => by omega
  | d + 1, D + 1, t, k, a, b, x, y, r, h, hD, g1, g2, he, hx, hy => by
    have c1 : ∀ a : AV, a.one = true → a.cells = [a] := by intro a h; cases a <;> simp_all [AV.cells, AV.one]
    simp only [kndIn] at h
    split at h
    · rename_i _ _ hu
      cases h
      have := g2 (by simp [isAg, hu])
      rw [c1 _ this.1, c1 _ this.2] at he
      cases a <;> cases b <;> simp only [eqK] at he <;> (try cases he)
      simp only [VR] at hx hy; subst hx; subst hy
      rw [run_equalIn_bool' (P := P) w D t _ _ hu]
      simp [Bool.beq_eq_decide_eq]
    · rename_i _ _ hu
      cases h
      have := g2 (by simp [isAg, hu])
      rw [c1 _ this.1, c1 _ this.2] at he
      cases a <;> cases b <;> simp only [eqK] at he <;> (try cases he)
      split at he
      · rename_i hk; subst hk
        simp only [VR] at hx hy; subst hx; subst hy
        rw [run_equalIn_int (P := P) w D t _ _ _ _ hu]
        simp only [Option.map_some, Option.some.injEq, Bool.and_true, eqK] at he
        rw [← he]
        rfl
      · cases he
    · rename_i _ _ hu
      cases h
      have := g2 (by simp [isAg, hu])
      rw [c1 _ this.1, c1 _ this.2] at he
      cases a <;> cases b <;> simp only [eqK] at he <;> (try cases he)
      simp only [VR] at hx hy; subst hx; subst hy
      rw [run_equalIn_string (P := P) w D t _ _ hu, bytes_eq]
      simp
    · rename_i fs i hu hi
      split at h
      · cases h
      · rename_i hs
        obtain ⟨⟨as, rfl⟩, ⟨bs, rfl⟩⟩ := g1 (by simp [isAg, hu])
        simp only [VR] at hx hy
        obtain ⟨ha1, xs, rfl, hxs⟩ := hx
        obtain ⟨hb1, ys, rfl, hys⟩ := hy
        have hf : P.fieldsOf t = fs := by simp [Program.fieldsOf, hu]
        rw [run_equalIn_struct (P := P) w D t xs ys (by rw [hf]; exact hu) (by simpa using hs), hf]
        exact fs_sound (fun {t k a b x y r} h1 h2 h3 h4 h5 h6 => eq_sound d h1 (by omega) h2 h3 h4 h5 h6) ha1 hb1 hxs hys h (by simpa [AV.cells] using he)
    · cases h

theorem bits_sound {op : BinOp} {k : IntKind} {a b n : Int} (h : bitsA op k a b = some n) (w : World) : (Op.intBits op k a b).run P w = .ok (.int k n) w := by
  cases op <;> simp only [bitsA, Option.some.injEq] at h <;> (try cases h) <;> simp [Op.intBits]

theorem int_sound {op : BinOp} {k : IntKind} {a b : Int} {v : AV} {t : TypeId} (h : intA op k a b = some v) (hs : op ≠ .shl) (hr : op ≠ .shr) (w : World) :
    ∃ cv, (binOp op t (.int k a) (.int k b)).run P w = .ok cv w ∧ VR φ m v cv := by
  cases op <;> simp only [intA] at h <;> (try (exact absurd rfl hs)) <;> (try (exact absurd rfl hr)) <;> (try cases h)
  all_goals (try (split at h <;> (try cases h)))
  all_goals (try (simp only [Option.map_eq_some_iff] at h; obtain ⟨n, h, rfl⟩ := h; exact ⟨_, by simp [binOp, bits_sound h], by simp [VR]⟩))
  all_goals (try (refine ⟨_, by simp [binOp, Op.intArith, Op.intDiv, Op.intCmp, *]; rfl, ?_⟩; simp [VR]; done))
  all_goals (try (refine ⟨.bool _, by simp [binOp, Op.intArith, Op.intDiv, Op.intCmp, *]; rfl, ?_⟩; simp [VR]; done))
  · exact ⟨.bool (a == b), by simp [binOp, Op.intCmp], by simp only [VR]; rfl⟩
  · refine ⟨.bool (a != b), by simp [binOp, Op.intCmp], ?_⟩
    simp only [VR]
    by_cases e : a = b <;> simp [e]

theorem guard_quiet {op : BinOp} {t : TypeId} {ox oy : Operand} {cx cy : Value} (h1 : cx ≠ .nilIface) (h2 : ∀ a, cx ≠ .agg a) (w : World) : (eqGuard op t ox oy cx cy).run P w = .ok () w := by
  cases cx <;> first
    | (exact absurd rfl h1)
    | (exact absurd rfl (h2 _))
    | (cases op <;> rfl)

theorem eqA_sound {op : BinOp} {t : TypeId} {ox oy : Operand} {x y : AV} {cx cy : Value} {r : Bool} (h : eqA P t x y = some r) (hx : VR φ m x cx) (hy : VR φ m y cy) (w : World) :
    (eqGuard op t ox oy cx cy).run P w = .ok () w ∧ (binOp .eql t cx cy).run P w = .ok (.bool r) w ∧ (binOp .neq t cx cy).run P w = .ok (.bool !r) w := by
  unfold eqA at h
  split at h
  · rename_i k as bs hk
    unfold eqk at hk
    split at hk
    · rename_i a k' hag hkn
      split at hk
      · cases hk
      · rename_i hg
        simp only [Option.some.injEq, Prod.mk.injEq] at hk
        obtain ⟨rfl, rfl⟩ := hk
        have he := eq_sound (P := P) (φ := φ) (m := m) (w := w) (D := 10000) 8 hkn (by omega) (fun _ => ⟨⟨_, rfl⟩, ⟨_, rfl⟩⟩) (fun h => by rw [hag] at h; cases h) (by simpa [AV.cells] using h) hx hy
        simp only [VR] at hx hy
        obtain ⟨_, xs, rfl, _⟩ := hx
        obtain ⟨_, ys, rfl, _⟩ := hy
        exact ⟨run_eqGuard_agg (P := P) w op t ox oy xs ys (by simpa using hg), by rw [run_eql_struct, he]; rfl, by rw [run_neq_struct, he]; rfl⟩
    · cases hk
  · rename_i k a b hk
    unfold eqk at hk
    split at hk
    · rename_i a' k' hag hkn
      split at hk
      · cases hk
      · simp only [Option.some.injEq, Prod.mk.injEq] at hk
        obtain ⟨rfl, rfl⟩ := hk
        have he := eq_sound (P := P) (φ := φ) (m := m) (w := w) (D := 10000) 8 hkn (by omega) (fun h => by rw [hag] at h; cases h) (fun _ => ⟨rfl, rfl⟩) (by simpa [AV.cells] using h) hx hy
        simp only [VR] at hx hy
        subst hx; subst hy
        exact ⟨guard_quiet (by simp) (by simp) w, by simp [binOp, Op.equal, Op.maxDepth, he], by simp [binOp, Op.equal, Op.maxDepth, he]⟩
    · cases hk
  · cases h

theorem bin_sound {op : BinOp} {t : TypeId} {ox oy : Operand} {x y v : AV} {cx cy : Value} (h : binA P op t x y = some v) (hx : VR φ m x cx) (hy : VR φ m y cy) (w : World) :
    ∃ cv, (do eqGuard op t ox oy cx cy; binOp op t cx cy : Sem Value).run P w = .ok cv w ∧ VR φ m v cv := by
  unfold binA at h
  split at h
  · rename_i k a k' b
    split at h
    · cases h
    · cases h
      simp only [VR] at hx hy; subst hx; subst hy
      exact ⟨_, by simp [guard_quiet, binOp, Op.shift, *]; rfl, by simp [VR]⟩
  · rename_i k a k' b
    split at h
    · cases h
    · cases h
      simp only [VR] at hx hy; subst hx; subst hy
      exact ⟨_, by simp [guard_quiet, binOp, Op.shift, *]; rfl, by simp [VR]⟩
  · rename_i op k a k' b hns hnr
    split at h
    · rename_i hk; subst hk
      simp only [VR] at hx hy; subst hx; subst hy
      obtain ⟨cv, h1, h2⟩ := int_sound (P := P) (φ := φ) (m := m) (t := t) h hns hnr w
      exact ⟨cv, by simp [guard_quiet, h1], h2⟩
    · cases h
  · rename_i a b
    split at h
    · cases h
    · rename_i hb
      cases h
      simp only [VR] at hx hy; subst hx; subst hy
      refine ⟨.string (a ++ b), ?_, by simp [VR]⟩
      simp only [Sem.run_bind, guard_quiet (P := P) (cx := .string a) (by simp) (by simp), Result.andThen_ok, binOp, Op.stringOp, if_neg hb, Sem.run_pure]
  · cases h
    simp only [VR] at hx hy; subst hx; subst hy
    refine ⟨_, by simp only [Sem.run_bind, guard_quiet (P := P) (cx := .string _) (by simp) (by simp), Result.andThen_ok, binOp, Op.stringOp, Sem.run_pure]; rfl, ?_⟩
    simp only [VR, bytes_eq]
  · cases h
    simp only [VR] at hx hy; subst hx; subst hy
    refine ⟨_, by simp only [Sem.run_bind, guard_quiet (P := P) (cx := .string _) (by simp) (by simp), Result.andThen_ok, binOp, Op.stringOp, Sem.run_pure]; rfl, ?_⟩
    simp only [VR, bytes_eq]
    simp
  · rename_i x y _ _
    simp only [Option.map_eq_some_iff] at h
    obtain ⟨r, h, rfl⟩ := h
    obtain ⟨h1, h2⟩ := eqA_sound (op := .eql) (ox := ox) (oy := oy) h hx hy w
    refine ⟨.bool r, ?_, by simp [VR]⟩
    have : (binOp .eql t cx cy).run P w = .ok (.bool r) w := h2.1
    simp [h1, this]
  · rename_i x y _ _
    simp only [Option.map_eq_some_iff] at h
    obtain ⟨r, h, rfl⟩ := h
    obtain ⟨h1, h2⟩ := eqA_sound (op := .neq) (ox := ox) (oy := oy) h hx hy w
    refine ⟨.bool !r, ?_, by simp [VR]⟩
    have : (binOp .neq t cx cy).run P w = .ok (.bool !r) w := h2.2
    simp [h1, this]
  · cases h
end
end Go.Proofs.YtapchldnmkfkoabDoor.Am
namespace Go.Proofs.YtapchldnmkfkoabDoor.Am
open Go

variable {P : Program}

section
variable {φ : FM} {m : LM} {g gi : Nat → Option Ob} {w w' : World}

theorem un_sound {op : UnOp} {x v : AV} {cx : Value} (h : unA op x = some v) (hx : VR φ m x cx) (w : World) : ∃ cv, (Op.unary op cx).run P w = .ok cv w ∧ VR φ m v cv := by
  unfold unA at h
  split at h
  · cases h
    simp only [VR] at hx; subst hx
    exact ⟨_, by simp [Op.unary, Op.intArith]; rfl, by simp [VR]⟩
  · cases h
    simp only [VR] at hx; subst hx
    exact ⟨_, by simp [Op.unary]; rfl, by simp [VR]⟩
  · cases h

theorem fld_some {s : TypeId} {f o : Nat} {ts : TS} (h : fld P s f = some (o, ts)) :
    ∃ fs fd, P.underlying s = some (.struct fs) ∧ fs[f]? = some fd ∧ tsh P fd.type = some ts ∧ fd.offset = o ∧ ∃ i, P.info? fd.type = some i ∧ i.size ≠ 0 := by
  unfold fld at h
  split at h
  · rename_i fs hu
    split at h
    · rename_i fd hf
      split at h
      · rename_i ts' i ht hi
        split at h
        · cases h
        · rename_i h0
          simp only [Option.some.injEq, Prod.mk.injEq] at h
          obtain ⟨rfl, rfl⟩ := h
          exact ⟨fs, fd, hu, hf, ht, rfl, i, hi, h0⟩
      · cases h
    · cases h
  · cases h

theorem fieldAt_run {s : TypeId} {f o : Nat} {ts : TS} (h : fld P s f = some (o, ts)) (b off : Nat) (w : World) :
    (Instr.fieldAt s (.pointer (some ⟨b, off, none⟩)) f).run P w = .ok (.pointer (some ⟨b, off + o, none⟩)) w := by
  obtain ⟨fs, fd, hu, hf, _, ho, i, hi, h0⟩ := fld_some h
  simp [Instr.fieldAt, run_underlying hu, hf, Instr.sureAddr, fieldPlace, run_sizeOf hi, h0, add_none, ho]

theorem field_run {s : TypeId} {f o : Nat} {ts : TS} {cs : List AV} {cx : Value} {v : AV} (h : fld P s f = some (o, ts)) (hx : VR φ m (.agg cs) cx) (hl : ldc ts cs o = some v) (w : World) :
    ∃ cv, (Instr.field s cx f).run P w = .ok cv w ∧ VR φ m v cv := by
  obtain ⟨fs, fd, hu, hf, ht, ho, i, hi, h0⟩ := fld_some h
  simp only [VR] at hx
  obtain ⟨h1, a, rfl, hv⟩ := hx
  obtain ⟨cv, r1, r2⟩ := run_part (P := P) ht h1 hv hl w
  exact ⟨cv, by simp [Instr.field, run_underlying hu, hf, asAgg, ho, r1], r2⟩

theorem art_some {t : TypeId} {n : Nat} {ts : TS} (h : art P t = some (n, ts)) : ∃ e, P.underlying t = some (.array n e) ∧ tsh P e = some ts ∧ ∃ i, P.info? e = some i ∧ i.size = ts.size ∧ i.size ≠ 0 := by
  unfold art at h
  split at h
  · rename_i n' e hu
    split at h
    · rename_i ts' i ht hi
      split at h
      · cases h
      · rename_i h0
        simp only [Option.some.injEq, Prod.mk.injEq] at h
        obtain ⟨rfl, rfl⟩ := h
        obtain ⟨i', hi', hs⟩ := tsh_size ht
        rw [hi] at hi'; cases hi'
        exact ⟨e, hu, ht, i, hi, hs, h0⟩
    · cases h
  · cases h

theorem idx_sound {t : TypeId} {x i v : AV} {cx ci : Value} (h : idxA P t x i = some v) (hx : VR φ m x cx) (hi : VR φ m i ci) (w : World) :
    ∃ cv, (Instr.index t cx ci).run P w = .ok cv w ∧ VR φ m v cv := by
  unfold idxA at h
  split at h
  · rename_i s k n
    split at h
    · rename_i h0
      split at h
      · rename_i b hb
        split at h
        · rename_i hu
          cases h
          simp only [VR] at hx hi; subst hx; subst hi
          refine ⟨.int .u8 b.toNat, ?_, by simp [VR]⟩
          have hb' : s[n.toNat]? = some b := by
            have h2 := List.getElem?_eq_some_iff.1 hb
            obtain ⟨h3, h4⟩ := h2
            have h5 : n.toNat < s.size := by simpa using h3
            rw [getElem?_pos s n.toNat h5]
            congr 1
          simp [Instr.index, asIntOf, run_underlying hu, h0, hb']
        · cases h
      · cases h
    · cases h
  · rename_i cs k n
    split at h
    · rename_i n' ts ha
      split at h
      · rename_i hb
        obtain ⟨e, hu, ht, i, hinf, hs, h0⟩ := art_some ha
        simp only [VR] at hx hi
        obtain ⟨h1, a, rfl, hv⟩ := hx
        subst hi
        obtain ⟨cv, r1, r2⟩ := run_part (P := P) ht h1 hv h w
        refine ⟨cv, ?_, r2⟩
        simp only [Instr.index, asIntOf, Sem.run_bind, Sem.run_pure, Result.andThen_ok, run_underlying hu, Sem.run_ite, if_pos hb, run_sizeOf hinf, hs, r1]
      · cases h
    · cases h
  · cases h

theorem live_optr {id off tot : Nat} {cx : Value} (hinv : Inv φ m g w) (hg : g id = gi id) (hl : liveA gi id tot = true) (hx : VR φ m (.optr id off tot) cx) :
    ∃ l, m id = some l ∧ tot ≤ l.top ∧ tot = l.top ∧ cx = .pointer (some ⟨l.blk, off, none⟩) := by
  unfold liveA at hl
  split at hl
  · rename_i ob hgi
    obtain ⟨l, hm, hr⟩ := hinv.own id ob (by rw [hg, hgi])
    simp only [VR] at hx
    obtain ⟨_, l', hm', htop, hv⟩ := hx
    rw [hm] at hm'; cases hm'
    have : tot = l.top := by rw [hr.top]; simpa using hl
    exact ⟨l, hm, htop, this, hv this⟩
  · cases hl

theorem live_eptr {id ix off tot : Nat} {cx : Value} (hinv : Inv φ m g w) (hg : g id = gi id) (hl : liveA gi id tot = true) (hx : VR φ m (.eptr id ix off tot) cx) :
    ∃ l, m id = some l ∧ tot ≤ l.top ∧ tot = l.top ∧ cx = .pointer (some ⟨l.blk, ix * l.esz + off, none⟩) := by
  unfold liveA at hl
  split at hl
  · rename_i ob hgi
    obtain ⟨l, hm, hr⟩ := hinv.own id ob (by rw [hg, hgi])
    simp only [VR] at hx
    obtain ⟨_, l', hm', htop, hv⟩ := hx
    rw [hm] at hm'; cases hm'
    have : tot = l.top := by rw [hr.top]; simpa using hl
    exact ⟨l, hm, htop, this, hv this⟩
  · cases hl

theorem ix_sound {t : TypeId} {x i : AV} {cx ci : Value} {nx : Nat} {e : Eff} (h : ixA P t x i gi nx = some e) (hg : ∀ j ∈ e.rd, g j = gi j) (hinv : Inv φ m g w) (hx : VR φ m x cx) (hi : VR φ m i ci) :
    ∃ cv, (Instr.indexAt t cx ci).run P w = .ok cv w ∧ VR φ m e.v cv ∧ e.wr = [] := by
  unfold ixA at h
  split at h
  · rename_i k n
    simp only [VR] at hi; subst hi
    split at h
    · cases h
    rename_i hn
    have arr : ∀ {n' : Nat} {ts : TS} {b o : Nat}, art P t = some (n', ts) → n < n' → (Instr.indexAt t (.pointer (some ⟨b, o, none⟩)) (.int k n)).run P w = .ok (.pointer (some ⟨b, o + n.toNat * ts.size, none⟩)) w := by
      intro n' ts b o ha hlt
      obtain ⟨e, hu, ht, i, hinf, hs, h0⟩ := art_some ha
      have hc : 0 ≤ n ∧ n < n' := by omega
      simp only [Instr.indexAt, asIntOf, Sem.run_bind, Sem.run_pure, Result.andThen_ok, run_underlying hu, Instr.sureAddr, Sem.run_ite, if_pos hc, run_sizeOf hinf, hs, add_none]
    have slc : ∀ {e : TypeId} {i : TypeInfo} {b o len cap : Nat}, P.underlying t = some (.slice e) → P.info? e = some i → n < len → (Instr.indexAt t (.slice (some ⟨b, o, none⟩) len cap) (.int k n)).run P w = .ok (.pointer (some ⟨b, o + n.toNat * i.size, none⟩)) w := by
      intro e i b o len cap hu hinf hlt
      have hc : 0 ≤ n ∧ n < len := by omega
      simp only [Instr.indexAt, asIntOf, Sem.run_bind, Sem.run_pure, Result.andThen_ok, run_underlying hu, Sem.run_ite, if_pos hc, run_sizeOf hinf, add_none]
    split at h
    · rename_i es
      split at h
      · rename_i el ts bytes e0 hel he0
        split at h
        · rename_i hw
          simp only [Eff.pure, Option.some.injEq] at h; subst h
          obtain ⟨hu, hts, i, hinf, hisz, hib, hipos⟩ := elt_some hel
          simp only [VR] at hx
          obtain ⟨ad, cap, rfl, hle, hc⟩ := hx
          have hlt := (List.getElem?_eq_some_iff.1 he0).1
          rcases hc with hc | ⟨b, o, rfl, hc⟩
          · omega
          · refine ⟨_, slc hu hinf (by omega), ?_, rfl⟩
            simp only [VR]
            refine ⟨b, o + n.toNat * i.size, by simp, ?_⟩
            exact VRE_get hc (fun e he => by
              have := (List.all_eq_true.1 hw) e he
              rw [hisz]; simpa using this) he0
        · cases h
      · cases h
    · rename_i id off len tot
      split at h
      · rename_i el ts bytes esz es hel hrw
        obtain ⟨ob, hgi, hrow⟩ := rowO_some hrw
        split at h
        · rename_i hb
          obtain ⟨h1, h2, h3, h4⟩ := hb
          simp only [Option.some.injEq] at h; subst h
          obtain ⟨hu, hts, i, hinf, hisz, hib, hipos⟩ := elt_some hel
          have hgid := (hg id (by simp)).trans hgi
          simp only [VR] at hx
          obtain ⟨_, l, hm, htop, hv⟩ := hx
          obtain ⟨l', hm', hr⟩ := hinv.own id _ hgid
          rw [hm] at hm'; cases hm'
          obtain ⟨ad, rfl, had⟩ := hv (by rw [hr.rowT hrow]; exact h2)
          obtain ⟨b1, b2, b3, b4⟩ := hr.rowF hrow
          have had' := had (by omega)
          subst had'
          refine ⟨_, slc hu hinf (by omega), ?_, rfl⟩
          simp only [VR]
          refine ⟨rfl, l, hm, htop, fun _ => ?_⟩
          congr 3
          rw [b1, h1, hisz, Nat.add_mul]; omega
        · cases h
      · cases h
    · rename_i id off tot
      split at h
      · rename_i n' ts ha
        split at h
        · rename_i hlt
          simp only [Option.some.injEq] at h; subst h
          obtain ⟨l, hm, htop, ht, rfl⟩ := live_optr hinv (hg id (by simp)) hlt.2 hx
          refine ⟨_, arr ha hlt.1, ?_, rfl⟩
          simp only [VR]
          exact ⟨rfl, l, hm, htop, fun _ => rfl⟩
        · cases h
      · cases h
    · rename_i id ix off tot
      split at h
      · rename_i n' ts ha
        split at h
        · rename_i hlt
          simp only [Option.some.injEq] at h; subst h
          obtain ⟨l, hm, htop, ht, rfl⟩ := live_eptr hinv (hg id (by simp)) hlt.2 hx
          refine ⟨_, arr ha hlt.1, ?_, rfl⟩
          simp only [VR]
          exact ⟨rfl, l, hm, htop, fun _ => by rw [Nat.add_assoc]⟩
        · cases h
      · cases h
    · rename_i cs off
      split at h
      · rename_i n' ts ha
        split at h
        · rename_i hlt
          simp only [Eff.pure, Option.some.injEq] at h; subst h
          simp only [VR] at hx
          obtain ⟨b, o, rfl, hc⟩ := hx
          refine ⟨_, arr ha hlt, ?_, rfl⟩
          simp only [VR]
          exact ⟨b, o, by rw [Nat.add_assoc], hc⟩
        · cases h
      · cases h
    · cases h
  · cases h

theorem bytesA_vals : ∀ {es : List AV} {bs : List UInt8} {vs : List Value}, bytesA es = some bs → VRL φ m es vs →
    ∃ ns : List Int, vs = ns.map (Value.int .u8) ∧ ∀ acc : ByteArray, ns.foldl (fun r n => r.push (UInt8.ofNat n.toNat)) acc = ⟨(acc.data.toList ++ bs).toArray⟩
  | [], bs, vs, h, hv => by
    simp only [bytesA, Option.some.injEq] at h; subst h
    simp only [VRL] at hv; subst hv
    exact ⟨[], rfl, fun acc => by simp⟩
  | e :: es, bs, vs, h, hv => by
    simp only [bytesA] at h
    split at h
    · rename_i b bs' hb hbs
      cases h
      simp only [VRL] at hv
      obtain ⟨v, vs, rfl, h1, h2⟩ := hv
      unfold byteOfAV at hb
      split at hb
      · rename_i n
        cases hb
        simp only [VR] at h1; subst h1
        obtain ⟨ns, rfl, h3⟩ := bytesA_vals hbs h2
        refine ⟨n :: ns, rfl, fun acc => ?_⟩
        rw [List.foldl_cons, h3]
        simp [ByteArray.push]
      · cases hb
    · cases h

theorem bytesA_flat : ∀ {es : List AV} {bs : List UInt8}, bytesA es = some bs → es.flatMap AV.cells = es ∧ ∀ e ∈ es, e.cells.length = 1 ∧ e.cells.all AV.one = true
  | [], bs, h => by simp
  | e :: es, bs, h => by
    simp only [bytesA] at h
    split at h
    · rename_i b bs' hb hbs
      unfold byteOfAV at hb
      split at hb
      · obtain ⟨h1, h2⟩ := bytesA_flat hbs
        refine ⟨by simp [AV.cells, h1], fun e he => ?_⟩
        rcases List.mem_cons.1 he with rfl | he
        · simp [AV.cells, AV.one]
        · exact h2 e he
      · cases hb
    · cases h

theorem cvt_int {s d : TypeId} {k : IntKind} (h : cvt P s d = some (.int k)) : ∃ k', P.underlying s = some (.int k') ∧ P.underlying d = some (.int k) := by
  unfold cvt at h
  split at h
  · rename_i h1 h2; cases h; exact ⟨_, h1, h2⟩
  · cases h
  · split at h <;> simp at h
  · cases h

theorem cvt_str {s d : TypeId} (h : cvt P s d = some .str) : P.underlying s = some .string ∧ P.underlying d = some .string := by
  unfold cvt at h
  split at h
  · cases h
  · rename_i h1 h2; exact ⟨h1, h2⟩
  · split at h <;> simp at h
  · cases h

theorem cvt_bs {s d : TypeId} (h : cvt P s d = some .bytesStr) : ∃ e, P.underlying s = some (.slice e) ∧ P.underlying e = some (.int .u8) ∧ P.underlying d = some .string := by
  unfold cvt at h
  split at h
  · cases h
  · cases h
  · rename_i e h1 h2
    split at h
    · rename_i h3; exact ⟨e, h1, h3, h2⟩
    · simp at h
  · cases h

theorem els_slice {x : AV} {cx : Value} {es : List AV} {is : List Nat} (hinv : Inv φ m g w) (h : elsOf gi x = some (es, is)) (hg : ∀ j ∈ is, g j = gi j) (hx : VR φ m x cx) : ∃ ad l c, cx = .slice ad l c := by
  cases x with
  | fsl es => simp only [VR] at hx; obtain ⟨ad, cap, rfl, _⟩ := hx; exact ⟨_, _, _, rfl⟩
  | nilsl => simp only [VR] at hx; obtain ⟨ad, rfl⟩ := hx; exact ⟨_, _, _, rfl⟩
  | osl id off len tot =>
    simp only [elsOf] at h
    split at h
    · rename_i esz es' ro hgi
      split at h
      · rename_i hb
        simp only [Option.some.injEq, Prod.mk.injEq] at h
        obtain ⟨_, rfl⟩ := h
        simp only [VR] at hx
        obtain ⟨_, l, hm, htop, hv⟩ := hx
        obtain ⟨l', hm', hr⟩ := hinv.own id _ ((hg id (by simp)).trans hgi)
        rw [hm] at hm'; cases hm'
        obtain ⟨ad, rfl, _⟩ := hv (by rw [hr.top]; exact hb.1)
        exact ⟨_, _, _, rfl⟩
      · cases h
    · cases h
  | _ => simp [elsOf] at h

theorem cv_sound {src dst : TypeId} {x : AV} {cx : Value} {nx : Nat} {e : Eff} (h : cvA P src dst gi nx x = some e) (hg : ∀ j ∈ e.rd, g j = gi j) (hinv : Inv φ m g w) (hx : VR φ m x cx) :
    ∃ cv, (convert src dst cx).run P w = .ok cv w ∧ VR φ m e.v cv ∧ e.wr = [] ∧ e.nx = nx := by
  unfold cvA at h
  split at h
  · rename_i k k' n hc
    simp only [Eff.pure, Option.some.injEq] at h; subst h
    obtain ⟨k2, hs, hd⟩ := cvt_int hc
    simp only [VR] at hx; subst hx
    exact ⟨_, by simp [convert, run_underlying hs, run_underlying hd, Conv.intToInt]; rfl, by simp [VR], rfl, rfl⟩
  · rename_i s hc
    simp only [Eff.pure, Option.some.injEq] at h; subst h
    obtain ⟨hs, hd⟩ := cvt_str hc
    simp only [VR] at hx; subst hx
    exact ⟨_, by simp [convert, run_underlying hs, run_underlying hd]; rfl, by simp [VR], rfl, rfl⟩
  · rename_i x hc
    obtain ⟨el, hs, he, hd⟩ := cvt_bs hc
    split at h
    · rename_i es is hels
      split at h
      · rename_i bs hbs
        simp only [Option.some.injEq] at h; subst h
        obtain ⟨hfl, hw⟩ := bytesA_flat hbs
        obtain ⟨news, hS, hnv⟩ := src_sound (P := P) (t2 := src) (n := 1) hinv (by simp [srcTy, hs]) hels hg hx hw
        rw [hfl] at hnv
        obtain ⟨ns, rfl, hns⟩ := bytesA_vals hbs hnv
        have hsl : ∃ ad l c, cx = .slice ad l c := els_slice hinv hels hg hx
        obtain ⟨ad, l, c, rfl⟩ := hsl
        have hcells := hS.cells
        have hlen := hS.len w
        simp only [Builtin.lenOf, Sem.run_pure] at hlen
        have hll : l = es.length := by injection hlen
        refine ⟨.string ⟨bs.toArray⟩, ?_, by simp [VR], rfl, rfl⟩
        rw [run_convert_bytes_string (P := P) w src dst el ad l c hs he hd]
        have h0 := hns ByteArray.empty
        cases ad with
        | none =>
          simp only [Builtin.firstCells, Sem.run_pure] at hcells
          have : ns = [] := by
            have h1 : (#[] : Array Value) = (List.map (Value.int .u8) ns).toArray := by injection hcells
            cases ns with
            | nil => rfl
            | cons _ _ => simp at h1
          subst this
          simp only [List.foldl_nil] at h0
          rw [show Conv.bytesToString (Value.slice none l c) = pure (Value.string ByteArray.empty) from rfl, h0]
          simp
        | some a =>
          simp only [Builtin.firstCells, Nat.mul_one] at hcells
          rw [run_bytesToString (P := P) w a l c ns (by rw [hll]; exact hcells), h0]
          simp
      · cases h
    · cases h
  · cases h
end
end Go.Proofs.YtapchldnmkfkoabDoor.Am
namespace Go.Proofs.YtapchldnmkfkoabDoor.Am
open Go

variable {P : Program}

section
variable {φ : FM} {m : LM} {g gi : Nat → Option Ob} {w w' : World}

theorem plc_run : ∀ {fs : List Field} {pl : List (Nat × Nat)}, (fs.mapM fun f => (P.info? f.type).map fun i => (f.offset, i.size)) = some pl → ∀ w : World,
    (fs.mapM fun f => (do pure (f.offset, ← sizeOf f.type) : Sem (Nat × Nat))).run P w = .ok pl w
  | [], pl, h, w => by simp at h; subst h; simp
  | f :: fs, pl, h, w => by
    simp only [List.mapM_cons, Option.bind_eq_bind, Option.bind_eq_some_iff, Option.map_eq_some_iff, Option.pure_def, Option.some.injEq] at h
    obtain ⟨a, ⟨i, hi, rfl⟩, l, hl, rfl⟩ := h
    have := plc_run hl w
    simp only [List.mapM_cons, Sem.run_bind, run_sizeOf hi, Result.andThen_ok, Sem.run_pure, this]

theorem bld_sound {t : TypeId} {ps : List (Nat × AV)} {qs : Array (Nat × Value)} {v : AV} (h : bldA P t ps = some v) (ha : isArr P t = false)
    (he : ps.map (·.1) = qs.toList.map (·.1)) (hr : ∀ (j : Nat) (p : Nat × AV) (q : Nat × Value), ps[j]? = some p → qs.toList[j]? = some q → VR φ m p.2 q.2) (w : World) :
    ∃ cv, (Instr.build t qs).run P w = .ok cv w ∧ VR φ m v cv := by
  unfold bldA at h
  split at h
  · rename_i pl z hp hz
    split at h
    · rename_i h1
      simp only [Option.map_eq_some_iff] at h
      obtain ⟨cs, hf, rfl⟩ := h
      obtain ⟨i, zv, hinf, hzv, rfl, hzrun⟩ := zer_run hz w
      unfold plc at hp
      split at hp
      · rename_i fs hu
        have hpl := plc_run hp w
        obtain ⟨cells', k1, k2, k3⟩ := fil_sound (qs := qs.toList) hf (ofV_cells (φ := φ) (m := m) h1) he hr h1
        refine ⟨.agg cells', ?_, by simp only [VR]; exact ⟨k3, _, rfl, k2⟩⟩
        have hm : (fs.mapM fun f => (do pure (f.offset, ← sizeOf f.type) : Sem (Nat × Nat))).run P w = .ok pl.toArray w := by
          rw [Array.mapM_eq_mapM_toList]
          simp only [Sem.run_map, hpl, Result.andThen_ok]
        have k1' : Instr.fill (fun i => pl.toArray[i]?) zv.cells qs.toList = some cells' := by simpa using k1
        simp only [Instr.build, Sem.run_bind, hzrun, Result.andThen_ok, run_underlying hu, hm, k1', Sem.run_pure]
      · cases hp
    · cases h
  · cases h

theorem bldArr_sound {t : TypeId} {ps : List (Nat × AV)} {qs : Array (Nat × Value)} {v : AV} (h : bldArr P t ps = some v)
    (he : ps.map (·.1) = qs.toList.map (·.1)) (hr : ∀ (j : Nat) (p : Nat × AV) (q : Nat × Value), ps[j]? = some p → qs.toList[j]? = some q → VR φ m p.2 q.2) (w : World) :
    ∃ cv, (Instr.build t qs).run P w = .ok cv w ∧ VR φ m v cv := by
  unfold bldArr at h
  split at h
  · rename_i n ts z ha hz
    split at h
    · rename_i h1
      simp only [Option.map_eq_some_iff] at h
      obtain ⟨cs, hf, rfl⟩ := h
      obtain ⟨i, zv, hinf, hzv, rfl, hzrun⟩ := zer_run hz w
      obtain ⟨e, hu, ht, i', hinf', hs, h0⟩ := art_some ha
      obtain ⟨cells', k1, k2, k3⟩ := fil_sound (qs := qs.toList) hf (ofV_cells (φ := φ) (m := m) h1) he hr h1
      refine ⟨.agg cells', ?_, by simp only [VR]; exact ⟨k3, _, rfl, k2⟩⟩
      rw [← hs] at k1
      simp only [Instr.build, Sem.run_bind, hzrun, Result.andThen_ok, run_underlying hu, run_sizeOf hinf', k1, Sem.run_pure]
    · cases h
  · cases h

theorem isArr_of {t : TypeId} {n : Nat} {e : TypeId} (h : P.underlying t = some (.array n e)) : isArr P t = true := by simp [isArr, h]

theorem fold_max {cs : List Value} : ∀ {xs : List AV} {a v : AV} {ca : Value}, foldA max2A a xs = some v → VR φ m a ca → VRL φ m xs cs → ∃ cv, (cs.foldlM Builtin.max2 ca).run P w = .ok cv w ∧ VR φ m v cv := by
  induction cs with
  | nil =>
    intro xs a v ca h ha hx
    cases xs with
    | nil => simp only [foldA, Option.some.injEq] at h; subst h; exact ⟨ca, by simp, ha⟩
    | cons x xs => simp [VRL] at hx
  | cons c cs ih =>
    intro xs a v ca h ha hx
    cases xs with
    | nil => simp [VRL] at hx
    | cons x xs =>
      simp only [VRL] at hx
      obtain ⟨c', cs', e, h1, h2⟩ := hx
      cases e
      simp only [foldA] at h
      split at h
      · rename_i b hb
        unfold max2A at hb
        split at hb
        · rename_i k p k' q
          split at hb
          · rename_i hk; subst hk; cases hb
            simp only [VR] at ha h1; subst ha; subst h1
            obtain ⟨cv, r1, r2⟩ := ih (ca := .int k (if q > p then q else p)) h (by simp [VR]) h2
            exact ⟨cv, by simp only [List.foldlM_cons, Sem.run_bind, Builtin.max2, Sem.run_pure, Result.andThen_ok, r1], r2⟩
          · cases hb
        · cases hb
      · cases h

theorem fold_min {cs : List Value} : ∀ {xs : List AV} {a v : AV} {ca : Value}, foldA min2A a xs = some v → VR φ m a ca → VRL φ m xs cs → ∃ cv, (cs.foldlM Builtin.min2 ca).run P w = .ok cv w ∧ VR φ m v cv := by
  induction cs with
  | nil =>
    intro xs a v ca h ha hx
    cases xs with
    | nil => simp only [foldA, Option.some.injEq] at h; subst h; exact ⟨ca, by simp, ha⟩
    | cons x xs => simp [VRL] at hx
  | cons c cs ih =>
    intro xs a v ca h ha hx
    cases xs with
    | nil => simp [VRL] at hx
    | cons x xs =>
      simp only [VRL] at hx
      obtain ⟨c', cs', e, h1, h2⟩ := hx
      cases e
      simp only [foldA] at h
      split at h
      · rename_i b hb
        unfold min2A at hb
        split at hb
        · rename_i k p k' q
          split at hb
          · rename_i hk; subst hk; cases hb
            simp only [VR] at ha h1; subst ha; subst h1
            obtain ⟨cv, r1, r2⟩ := ih (ca := .int k (if q < p then q else p)) h (by simp [VR]) h2
            exact ⟨cv, by simp only [List.foldlM_cons, Sem.run_bind, Builtin.min2, Sem.run_pure, Result.andThen_ok, r1], r2⟩
          · cases hb
        · cases hb
      · cases h

theorem len_sound {t ty : TypeId} {x : AV} {cx : Value} {nx : Nat} {e : Eff} (h : lnA P t x gi nx = some e) (hg : ∀ j ∈ e.rd, g j = gi j) (hinv : Inv φ m g w) (hx : VR φ m x cx) :
    ∃ cv, (Builtin.len_ #[t] ty #[cx]).run P w = .ok cv w ∧ VR φ m e.v cv ∧ e.wr = [] := by
  unfold lnA at h
  split at h
  · rename_i n el hu
    simp only [Eff.pure, Option.some.injEq] at h; subst h
    exact ⟨goInt n, by simp [Builtin.len_, run_underlying hu], by simp [VR, goInt], rfl⟩
  · rename_i hu
    split at h
    · rename_i s
      simp only [Eff.pure, Option.some.injEq] at h; subst h
      simp only [VR] at hx; subst hx
      exact ⟨goInt s.size, by simp [Builtin.len_, run_underlying hu], by simp [VR, goInt], rfl⟩
    · cases h
  · rename_i el hu
    split at h
    · rename_i es
      simp only [Eff.pure, Option.some.injEq] at h; subst h
      simp only [VR] at hx; obtain ⟨ad, cap, rfl, _⟩ := hx
      exact ⟨goInt es.length, by simp [Builtin.len_, run_underlying hu], by simp [VR, goInt], rfl⟩
    · simp only [Eff.pure, Option.some.injEq] at h; subst h
      simp only [VR] at hx; obtain ⟨ad, rfl⟩ := hx
      exact ⟨goInt 0, by simp [Builtin.len_, run_underlying hu], by simp [VR, goInt], rfl⟩
    · rename_i id off len tot
      split at h
      · rename_i hl
        simp only [Option.some.injEq] at h; subst h
        have : ∃ ad c, cx = .slice ad len c := by
          unfold liveA at hl
          split at hl
          · rename_i ob hgi
            obtain ⟨l, hm, hr⟩ := hinv.own id ob ((hg id (by simp)).trans hgi)
            simp only [VR] at hx
            obtain ⟨_, l', hm', htop, hv⟩ := hx
            rw [hm] at hm'; cases hm'
            obtain ⟨ad, rfl, _⟩ := hv (by rw [hr.top]; simpa using hl)
            exact ⟨_, _, rfl⟩
          · cases hl
        obtain ⟨ad, c, rfl⟩ := this
        exact ⟨goInt len, by simp [Builtin.len_, run_underlying hu], by simp [VR, goInt], rfl⟩
      · cases h
    · cases h
  · cases h
end
end Go.Proofs.YtapchldnmkfkoabDoor.Am
namespace Go.Proofs.YtapchldnmkfkoabDoor.Am
open Go

variable {P : Program}

section
variable {φ : FM} {m : LM} {g gi : Nat → Option Ob} {w w' : World}

theorem wp_value {o : Oper} {a : Act} {v : Value} {next : Act → World → Prop} {Q : Exit → Act → World → Prop} (h : (execOp a.eval o).run P w = .ok (.value v) w') (k : next (a.put o.dst v) w') : o.wp P a w next Q := by
  unfold Oper.wp; rw [h]; exact k

theorem wp_skip' {o : Oper} {a : Act} {next : Act → World → Prop} {Q : Exit → Act → World → Prop} (h : (execOp a.eval o).run P w = .ok .skip w') (k : next (a.put o.dst undef) w') : o.wp P a w next Q := by
  unfold Oper.wp; rw [h]; exact k

theorem run_v {s : Sem Value} {v : Value} (h : s.run P w = .ok v w') : (do pure (Next.value (← s)) : Sem Next).run P w = .ok (.value v) w' := by
  simp [h]

theorem VRL_map {ρ : Operand → AV} {ev : Operand → Value} (h : ∀ x, VR φ m (ρ x) (ev x)) : ∀ xs : List Operand, VRL φ m (xs.map ρ) (xs.map ev)
  | [] => by simp [VRL]
  | x :: xs => by simp only [List.map_cons, VRL]; exact ⟨_, _, rfl, h x, VRL_map h xs⟩

theorem parts_rel {ρ : Operand → AV} {ev : Operand → Value} (h : ∀ x, VR φ m (ρ x) (ev x)) (ps : Array (Nat × Operand)) :
    (ps.toList.map fun p => (p.1, ρ p.2)).map (·.1) = (ps.map fun (i, x) => (i, ev x)).toList.map (·.1) ∧
    ∀ (j : Nat) (p : Nat × AV) (q : Nat × Value), (ps.toList.map fun p => (p.1, ρ p.2))[j]? = some p → (ps.map fun (i, x) => (i, ev x)).toList[j]? = some q → VR φ m p.2 q.2 := by
  refine ⟨?_, fun j p q hp hq => ?_⟩
  · simp [Function.comp_def]
  · simp only [List.getElem?_map, Array.toList_map, Option.map_eq_some_iff] at hp hq
    obtain ⟨a, h1, rfl⟩ := hp
    obtain ⟨b, h2, rfl⟩ := hq
    rw [h1] at h2; cases h2
    exact h _

/-- What a call does, as the abstract machine's oracle says. -/
def CallOK (P : Program) (f : FuncId) (args : List AV) (obs : List Ob) (v : AV) (obs' : List Ob) : Prop :=
  ∀ (φ : FM) (m : LM) (w : World) (cargs : Array Value), VRL φ m args cargs.toList → Inv φ m (fun i => obs[i]?) w → (∀ i, obs.length ≤ i → m i = none) →
    Calls P f cargs w fun e w' => ∃ cv, e = .returned cv ∧ ∃ φ' m', VR φ' m' v cv ∧ Inv φ' m' (fun i => obs'[i]?) w' ∧ Fr φ m (fun i => obs[i]?) w φ' m' (fun i => obs'[i]?) w' ∧ (∀ i, obs'.length ≤ i → m' i = none) ∧ obs.length ≤ obs'.length

def ClS (P : Program) (cl : Cl) : Prop := ∀ f args obs v obs', cl f args obs = some (v, obs') → CallOK P f args obs v obs'

/-- The function that is called has Go code. -/
def Bodied (P : Program) (f : FuncId) : Prop := ∃ fn b, P.funcs[f]? = some fn ∧ fn.body = some b ∧ (fn.name == "runtime.NumGoroutine") = false

/-- What an operation that is no call does. -/
def opn (op : Op) : Bool := match op with
  | .call { callee := .value _, .. } => false
  | _ => true

theorem op_sound {cl : Cl} {E : FuncId → Md} {o : Oper} {ρ : Operand → AV} {nx : Nat} {e : Eff} {a : Act} {next : Act → World → Prop} {Q : Exit → Act → World → Prop}
    (hn : opn o.op = true) (h : opv P cl E o.op ρ gi nx = some e) (hg : ∀ j ∈ e.rd, g j = gi j) (hinv : Inv φ m g w) (hρ : ∀ x, VR φ m (ρ x) (a.eval x))
    (hf : ∀ i, nx ≤ i → i < e.nx → g i = none ∧ m i = none) (k : ∀ cv w', Post φ m g w e cv w' → next (a.put o.dst cv) w') : o.wp P a w next Q := by
  have pv : ∀ {s : Sem Value} {cv : Value}, execOp a.eval o = (do pure (Next.value (← s))) → s.run P w = .ok cv w → VR φ m e.v cv → e.wr = [] → o.wp P a w next Q := by
    intro s cv h1 h2 h3 h4
    refine wp_value (w' := w) (v := cv) (by rw [h1]; exact run_v h2) (k cv w ?_)
    refine ⟨φ, m, h3, ?_, ?_, fun _ _ h => h⟩
    · rw [h4, upd_nil]; exact hinv
    · rw [h4, upd_nil]; exact Fr.refl ..
  have pp : ∀ {s : Sem Value}, execOp a.eval o = (do pure (Next.value (← s))) → (∃ cv w', s.run P w = .ok cv w' ∧ Post φ m g w e cv w') → o.wp P a w next Q := by
    intro s h1 ⟨cv, w', h2, h3⟩
    exact wp_value (by rw [h1]; exact run_v h2) (k cv w' h3)
  have pure' : ∀ {v : AV} {n : Nat}, some e = Eff.pure v n → e.v = v ∧ e.wr = [] := by
    intro v n h; simp only [Eff.pure, Option.some.injEq] at h; subst h; exact ⟨rfl, rfl⟩
  have bnd : ∀ {x : Option AV} {n : Nat}, (x.bind fun v => Eff.pure v n) = some e → ∃ v, x = some v ∧ e.v = v ∧ e.wr = [] := by
    intro x n h
    simp only [Option.bind_eq_some_iff, Eff.pure, Option.some.injEq] at h
    obtain ⟨v, h1, rfl⟩ := h
    exact ⟨v, h1, rfl, rfl⟩
  cases ho : o.op with
  | move x =>
    rw [ho] at h; simp only [opv] at h
    obtain ⟨h1, h2⟩ := pure' h.symm
    exact pv (s := pure (a.eval x)) (cv := a.eval x) (by simp [execOp, ho]) (by simp) (by rw [h1]; exact hρ x) h2
  | assign x =>
    rw [ho] at h; simp only [opv] at h
    obtain ⟨h1, h2⟩ := pure' h.symm
    exact pv (s := pure (a.eval x)) (cv := a.eval x) (by simp [execOp, ho]) (by simp) (by rw [h1]; exact hρ x) h2
  | pick c x y =>
    rw [ho] at h; simp only [opv] at h
    split at h
    · rename_i t ht
      obtain ⟨h1, h2⟩ := pure' h.symm
      have hc := hρ c
      rw [ht] at hc; simp only [VR] at hc
      refine pv (s := pure (if t then a.eval x else a.eval y)) (cv := if t then a.eval x else a.eval y) (by simp [execOp, ho, hc, asBool]) (by simp) ?_ h2
      rw [h1]; cases t
      · exact hρ y
      · exact hρ x
    · cases h
  | alloc t =>
    rw [ho] at h; simp only [opv] at h
    split at h
    · rename_i z hz
      split at h
      · rename_i hbl
        simp only [Option.some.injEq] at h; subst h
        have hz2 : z = .agg [.nilp, .nilsl] := by
          unfold isBld at hbl
          rw [hz] at hbl
          split at hbl
          · rename_i e; exact Option.some.inj e
          · cases hbl
        obtain ⟨i, zv, hinf, hzv, hze, hzrun⟩ := zer_run hz w
        obtain ⟨f1, f2⟩ := hf nx (Nat.le_refl _) (by simp)
        have hcl := ofV_cells (φ := φ) (m := m) (z := zv) (by rw [← hze, hz2]; rfl)
        rw [← hze, hz2] at hcl
        obtain ⟨p1, p2, p3⟩ := new_bld (t := t) hinv f2 f1 hcl
        refine pp (s := Instr.alloc t true (.tuple #[])) (by simp [execOp, ho]) ⟨.pointer (some ⟨w.heap.size, 0, none⟩), w.alloc (.cells zv.cells t), ?_, _, _, p1, p2, p3, put_new (by simp) (by simp [lkp])⟩
        simp [Instr.alloc, hzrun, newVar, newRow]
      split at h
      · rename_i hb
        simp only [Option.some.injEq] at h; subst h
        obtain ⟨i, zv, hinf, hzv, rfl, hzrun⟩ := zer_run hz w
        obtain ⟨f1, f2⟩ := hf nx (Nat.le_refl _) (by simp)
        obtain ⟨p1, p2, p3⟩ := new_box (t := t) hinv f2 f1 (ofV_cells hb.1) hb.1 hb.2
        refine pp (s := Instr.alloc t true (.tuple #[])) (by simp [execOp, ho]) ⟨.pointer (some ⟨w.heap.size, 0, none⟩), w.alloc (.cells zv.cells t), ?_, _, _, p1, p2, p3, put_new (by simp) (by simp [lkp])⟩
        simp [Instr.alloc, hzrun, newVar, newRow]
      · cases h
    · cases h
  | box t x =>
    rw [ho] at h; simp only [opv] at h
    split at h
    · rename_i hb
      simp only [Option.some.injEq] at h; subst h
      obtain ⟨f1, f2⟩ := hf nx (Nat.le_refl _) (by simp)
      obtain ⟨p1, p2, p3⟩ := new_box (t := t) hinv f2 f1 (VR_cells (hρ x) hb.1) hb.1 hb.2
      refine pp (s := Instr.box t (a.eval x)) (by simp [execOp, ho]) ⟨.pointer (some ⟨w.heap.size, 0, none⟩), w.alloc (.cells (a.eval x).cells t), ?_, _, _, p1, p2, p3, put_new (by simp) (by simp [lkp])⟩
      simp [Instr.box, newVar, newRow]
    · cases h
  | build t parts =>
    rw [ho] at h; simp only [opv] at h
    obtain ⟨v, h1, h2, h3⟩ := bnd h
    obtain ⟨r1, r2⟩ := parts_rel hρ parts
    have : ∃ cv, (Instr.build t (parts.map fun (i, x) => (i, a.eval x))).run P w = .ok cv w ∧ VR φ m v cv := by
      cases ha : isArr P t with
      | true => rw [ha] at h1; exact bldArr_sound (by simpa using h1) r1 r2 w
      | false => rw [ha] at h1; exact bld_sound (by simpa using h1) ha r1 r2 w
    obtain ⟨cv, c1, c2⟩ := this
    exact pv (s := Instr.build t (parts.map fun (i, x) => (i, a.eval x))) (by simp [execOp, ho]) c1 (by rw [h2]; exact c2) h3
  | buildSlice t len parts =>
    rw [ho] at h; simp only [opv] at h
    obtain ⟨r1, r2⟩ := parts_rel hρ parts
    have hnx : nx < e.nx := by
      unfold nbsA bslA at h
      (repeat' split at h) <;> first | (cases h; done) | (simp only [Option.some.injEq] at h; subst h; simp)
    obtain ⟨f1, f2⟩ := hf nx (Nat.le_refl _) hnx
    split at h
    · exact pp (s := Instr.buildSlice t len (parts.map fun (i, x) => (i, a.eval x))) (by simp [execOp, ho]) (nbs_sound h hinv f1 f2 r1 r2)
    · exact pp (s := Instr.buildSlice t len (parts.map fun (i, x) => (i, a.eval x))) (by simp [execOp, ho]) (bsl_sound h hg hinv f1 f2 r1 r2)
  | load t x =>
    rw [ho] at h; simp only [opv] at h
    obtain ⟨cv, c1, c2⟩ := ld_sound h hg hinv (hρ x)
    rcases c2 with ⟨c2, c3, _⟩ | c2 | c2
    · exact pv (s := Instr.loadAt t (a.eval x)) (by simp [execOp, ho]) c1 c2 c3
    case inr.inr => exact pp (s := Instr.loadAt t (a.eval x)) (by simp [execOp, ho]) ⟨cv, w, c1, brwM_post c2 hinv hf⟩
    · obtain ⟨f1, f2⟩ := hf nx (Nat.le_refl _) (by obtain ⟨_, _, _, _, _, _, _, _, _, _, _, _, _, _, _, _, _, _, _, _, _, _, _, _, _, _, _, _, rfl⟩ := c2; simp)
      exact pp (s := Instr.loadAt t (a.eval x)) (by simp [execOp, ho]) ⟨cv, w, c1, brw_post c2 hinv f1 f2⟩
  | store t x y =>
    rw [ho] at h; simp only [opv] at h
    obtain ⟨w', φ', c1, c2, c3, c4, _⟩ := st_sound h hg hinv (hρ x) (hρ y)
    refine wp_skip' (w' := w') (by simp [execOp, ho, c1]) (k undef w' ⟨φ', m, by rw [c4]; simp [VR], c2, c3, fun _ _ h => h⟩)
  | nilCheck x =>
    rw [ho] at h; simp only [opv] at h
    have hx := hρ x
    have fin : ∀ {b off : Nat}, a.eval x = .pointer (some ⟨b, off, none⟩) → VR φ m e.v (a.eval x) → e.wr = [] → o.wp P a w next Q := by
      intro b off h1 h2 h3
      exact pv (s := pure (a.eval x)) (cv := a.eval x) (by simp [execOp, ho, h1]) (by simp) h2 h3
    split at h
    · rename_i i off t hx'
      split at h
      · rename_i hl
        simp only [Option.some.injEq] at h; subst h
        rw [hx'] at hx
        obtain ⟨l, _, _, _, hc⟩ := live_optr hinv (hg i (by simp)) hl hx
        exact fin hc hx rfl
      · cases h
    · rename_i i ix off t hx'
      split at h
      · rename_i hl
        simp only [Option.some.injEq] at h; subst h
        rw [hx'] at hx
        obtain ⟨l, _, _, _, hc⟩ := live_eptr hinv (hg i (by simp)) hl hx
        exact fin hc hx rfl
      · cases h
    · rename_i cs off hx'
      obtain ⟨h1, h2⟩ := pure' h.symm
      rw [hx'] at hx
      have hx2 := hx
      simp only [VR] at hx2
      obtain ⟨b, o', hc, _⟩ := hx2
      exact fin hc (by rw [h1]; exact hx) h2
    · cases h
  | binOp op t x y t2 =>
    rw [ho] at h; simp only [opv] at h
    obtain ⟨v, h1, h2, h3⟩ := bnd h
    obtain ⟨cv, c1, c2⟩ := bin_sound (P := P) (ox := x) (oy := y) h1 (hρ x) (hρ y) w
    exact pv (s := do eqGuard op t x y (a.eval x) (a.eval y); binOp op t (a.eval x) (a.eval y)) (by simp only [execOp, ho]) c1 (by rw [h2]; exact c2) h3
  | unOp op t x =>
    rw [ho] at h; simp only [opv] at h
    obtain ⟨v, h1, h2, h3⟩ := bnd h
    obtain ⟨cv, c1, c2⟩ := un_sound (P := P) h1 (hρ x) w
    exact pv (s := Op.unary op (a.eval x)) (by simp [execOp, ho]) c1 (by rw [h2]; exact c2) h3
  | convert src dst x =>
    rw [ho] at h; simp only [opv] at h
    obtain ⟨cv, c1, c2, c3, _⟩ := cv_sound h hg hinv (hρ x)
    exact pv (s := convert src dst (a.eval x)) (by simp [execOp, ho]) c1 c2 c3
  | makeFunc fn first cap =>
    rw [ho] at h; simp only [opv] at h
    obtain ⟨h1, h2⟩ := pure' h.symm
    refine pv (s := Instr.makeFunc fn (first.map a.eval) (cap.map a.eval)) (cv := .func fn (first.map a.eval) (cap.map a.eval)) (by simp [execOp, ho]) (by simp [Instr.makeFunc]) ?_ h2
    rw [h1]
    simp only [VR]
    exact ⟨_, _, rfl, by simpa using VRL_map hρ first.toList, by simpa using VRL_map hρ cap.toList⟩
  | makeSlice t l c =>
    rw [ho] at h; simp only [opv] at h
    have hnx : nx < e.nx := by
      unfold mkA at h
      (repeat' split at h) <;> first | (cases h; done) | (simp only [Option.some.injEq] at h; subst h; simp)
    obtain ⟨f1, f2⟩ := hf nx (Nat.le_refl _) hnx
    exact pp (s := Instr.makeSlice t (a.eval l) (a.eval c)) (by simp [execOp, ho]) (mk_sound h hinv f1 f2 (hρ l) (hρ c))
  | slice t x lo hi mx =>
    rw [ho] at h; simp only [opv] at h
    have ov : ∀ q : Option Operand, OV φ m (q.map ρ) (q.map a.eval) := by
      intro q; cases q with
      | none => simp [OV]
      | some q => simp only [Option.map_some, OV]; exact hρ q
    obtain ⟨cv, c1, c2, c3⟩ := slc_sound h hg hinv (hρ x) (ov lo) (ov hi) (ov mx)
    exact pv (s := Instr.sliceAt t (a.eval x) (lo.map a.eval) (hi.map a.eval) (mx.map a.eval)) (by simp [execOp, ho]) c1 c2 c3
  | fieldAddr s x f =>
    rw [ho] at h; simp only [opv] at h
    have hx := hρ x
    split at h
    · rename_i o' ts id off tot hfl hx'
      split at h
      · rename_i hl
        simp only [Option.some.injEq] at h; subst h
        rw [hx'] at hx
        obtain ⟨l, hm, ht, _, hc⟩ := live_optr hinv (hg id (by simp)) hl hx
        refine pv (s := Instr.fieldAt s (a.eval x) f) (by simp [execOp, ho]) (by rw [hc]; exact fieldAt_run hfl _ _ w) ?_ rfl
        simp only [VR]
        exact ⟨rfl, l, hm, ht, fun _ => rfl⟩
      · cases h
    · rename_i o' ts id ix off tot hfl hx'
      split at h
      · rename_i hl
        simp only [Option.some.injEq] at h; subst h
        rw [hx'] at hx
        obtain ⟨l, hm, ht, _, hc⟩ := live_eptr hinv (hg id (by simp)) hl hx
        refine pv (s := Instr.fieldAt s (a.eval x) f) (by simp [execOp, ho]) (by rw [hc]; exact fieldAt_run hfl _ _ w) ?_ rfl
        simp only [VR]
        exact ⟨rfl, l, hm, ht, fun _ => by rw [Nat.add_assoc]⟩
      · cases h
    · rename_i o' ts cs off hfl hx'
      obtain ⟨h1, h2⟩ := pure' h.symm
      rw [hx'] at hx
      simp only [VR] at hx
      obtain ⟨b, o2, hc, hv⟩ := hx
      refine pv (s := Instr.fieldAt s (a.eval x) f) (by simp [execOp, ho]) (by rw [hc]; exact fieldAt_run hfl _ _ w) ?_ h2
      rw [h1]; simp only [VR]
      exact ⟨b, o2, by rw [Nat.add_assoc], hv⟩
    · cases h
  | field s x f =>
    rw [ho] at h; simp only [opv] at h
    have hx := hρ x
    split at h
    · rename_i o' ts cs hfl hx'
      obtain ⟨v, h1, h2, h3⟩ := bnd h
      rw [hx'] at hx
      obtain ⟨cv, c1, c2⟩ := field_run (P := P) hfl hx h1 w
      exact pv (s := Instr.field s (a.eval x) f) (by simp [execOp, ho]) c1 (by rw [h2]; exact c2) h3
    · cases h
  | indexAddr t x i =>
    rw [ho] at h; simp only [opv] at h
    obtain ⟨cv, c1, c2, c3⟩ := ix_sound h hg hinv (hρ x) (hρ i)
    exact pv (s := Instr.indexAt t (a.eval x) (a.eval i)) (by simp [execOp, ho]) c1 c2 c3
  | index t x i =>
    rw [ho] at h; simp only [opv] at h
    obtain ⟨v, h1, h2, h3⟩ := bnd h
    obtain ⟨cv, c1, c2⟩ := idx_sound (P := P) h1 (hρ x) (hρ i) w
    exact pv (s := Instr.index t (a.eval x) (a.eval i)) (by simp [execOp, ho]) c1 (by rw [h2]; exact c2) h3
  | extract t i =>
    rw [ho] at h; simp only [opv] at h
    have hx := hρ t
    split at h
    · rename_i vs hx'
      obtain ⟨v, h1, h2, h3⟩ := bnd h
      rw [hx'] at hx
      simp only [VR] at hx
      obtain ⟨as, hc, hv⟩ := hx
      obtain ⟨cv, c1, c2⟩ := VRL_get hv h1
      refine pv (s := Instr.extract (a.eval t) i) (cv := cv) (by simp [execOp, ho]) ?_ (by rw [h2]; exact c2) h3
      have : as[i]? = some cv := by simpa using c1
      simp [Instr.extract, hc, this]
    · cases h
  | call c =>
    rw [ho] at h; simp only [opv] at h
    cases hcal : c.callee with
    | value f => rw [ho] at hn; obtain ⟨callee, args, tys⟩ := c; simp only at hcal; subst hcal; simp [opn] at hn
    | invoke r n => rw [hcal] at h; cases h
    | builtin b =>
      rw [hcal] at h
      have hres : ∀ {s : Sem Value}, (builtin b c.argTypes o.type (c.args.map fun | .const _ => true | _ => false) (c.args.map a.eval)) = (do pure (Next.value (← s))) → execOp a.eval o = (do pure (Next.value (← s))) := by
        intro s h1
        simp only [execOp, ho, resolve, hcal, pure_bind, invoke]
        exact h1
      have hargs : ∀ {xs : List Operand}, c.args.toList = xs → (c.args.map a.eval) = (xs.map a.eval).toArray := by
        intro xs hxs; rw [← hxs]; apply Array.ext'; simp
      have htys : ∀ {ts : List TypeId}, c.argTypes.toList = ts → c.argTypes = ts.toArray := by
        intro ts hts; rw [← hts]
      cases b with
      | append =>
        simp only at h
        split at h
        · rename_i s x t t2 ha ht
          split at h
          · exact pp (s := Builtin.append_ #[t, t2] o.type #[a.eval s, a.eval x]) (hres (by rw [hargs ha, htys ht]; rfl)) (nap_sound h hg hinv (hρ s) (hρ x))
          · exact pp (s := Builtin.append_ #[t, t2] o.type #[a.eval s, a.eval x]) (hres (by rw [hargs ha, htys ht]; rfl)) (app_sound h hg hinv (fun hlt => hf nx (Nat.le_refl _) hlt) (hρ s) (hρ x))
        · cases h
      | copy =>
        simp only at h
        split at h
        · rename_i s x t t2 ha ht
          exact pp (s := Builtin.copy_ #[t, t2] o.type #[a.eval s, a.eval x]) (hres (by rw [hargs ha, htys ht]; rfl)) (cpy_sound h hg hinv (hρ s) (hρ x))
        · cases h
      | clear =>
        simp only at h
        split at h
        · rename_i x t ha ht
          exact pp (s := Builtin.clear_ #[t] o.type #[a.eval x]) (hres (by rw [hargs ha, htys ht]; rfl)) (clr_sound h hg hinv (hρ x))
        · cases h
      | len =>
        simp only at h
        split at h
        · rename_i x t ha ht
          obtain ⟨cv, c1, c2, c3⟩ := len_sound (ty := o.type) h hg hinv (hρ x)
          exact pv (s := Builtin.len_ #[t] o.type #[a.eval x]) (hres (by rw [hargs ha, htys ht]; rfl)) c1 c2 c3
        · cases h
      | max =>
        simp only at h
        split at h
        · rename_i x xs ha
          obtain ⟨v, h1, h2, h3⟩ := bnd h
          obtain ⟨cv, c1, c2⟩ := fold_max (P := P) (w := w) h1 (hρ x) (VRL_map hρ xs)
          refine pv (s := Builtin.max_ c.argTypes o.type (c.args.map a.eval)) (cv := cv) (hres rfl) ?_ (by rw [h2]; exact c2) h3
          rw [hargs ha]
          simpa [Builtin.max_] using c1
        · cases h
      | min =>
        simp only at h
        split at h
        · rename_i x xs ha
          obtain ⟨v, h1, h2, h3⟩ := bnd h
          obtain ⟨cv, c1, c2⟩ := fold_min (P := P) (w := w) h1 (hρ x) (VRL_map hρ xs)
          refine pv (s := Builtin.min_ c.argTypes o.type (c.args.map a.eval)) (cv := cv) (hres rfl) ?_ (by rw [h2]; exact c2) h3
          rw [hargs ha]
          simpa [Builtin.min_] using c1
        · cases h
      | _ => cases h
  | _ => rw [ho] at h; simp only [opv] at h; cases h
end
end Go.Proofs.YtapchldnmkfkoabDoor.Am
namespace Go.Proofs.YtapchldnmkfkoabDoor.Am
open Go

variable {P : Program}

mutual
theorem ren_VR {φ : FM} {m m' : LM} {f : Nat → Nat} : ∀ (a : AV) {v : Value}, (∀ i ∈ ids a, ∀ l, m i = some l → m' (f i) = some l) → VR φ m a v → VR φ m' (ren f a) v
  | .any, _, _, _ => by simp [ren, VR]
  | .bool _, _, _, h => by simpa [ren, VR] using h
  | .int _ _, _, _, h => by simpa [ren, VR] using h
  | .str _, _, _, h => by simpa [ren, VR] using h
  | .agg cs, v, hf, h => by
    simp only [ren, VR] at h ⊢
    obtain ⟨h1, a, rfl, h2⟩ := h
    exact ⟨renL_one cs h1, a, rfl, renL_VRL cs (by simpa [ids] using hf) h2⟩
  | .tup cs, v, hf, h => by
    simp only [ren, VR] at h ⊢
    obtain ⟨a, rfl, h2⟩ := h
    exact ⟨a, rfl, renL_VRL cs (by simpa [ids] using hf) h2⟩
  | .fsl _, _, _, h => by simpa [ren, VR] using h
  | .fptr _ _, _, _, h => by simpa [ren, VR] using h
  | .osl id off len tot, v, hf, h => by
    simp only [ren, VR] at h ⊢
    obtain ⟨h0, l, h1, h2⟩ := h
    exact ⟨h0, l, hf id (by simp [ids]) l h1, h2⟩
  | .optr id off tot, v, hf, h => by
    simp only [ren, VR] at h ⊢
    obtain ⟨h0, l, h1, h2⟩ := h
    exact ⟨h0, l, hf id (by simp [ids]) l h1, h2⟩
  | .eptr id ix off tot, v, hf, h => by
    simp only [ren, VR] at h ⊢
    obtain ⟨h0, l, h1, h2⟩ := h
    exact ⟨h0, l, hf id (by simp [ids]) l h1, h2⟩
  | .func fn a c, v, hf, h => by
    simp only [ren, VR] at h ⊢
    obtain ⟨f', c', rfl, h1, h2⟩ := h
    exact ⟨f', c', rfl, renL_VRL a (fun i hi => hf i (by simp [ids, hi])) h1, renL_VRL c (fun i hi => hf i (by simp [ids, hi])) h2⟩
  | .slf id tot, v, hf, h => by
    simp only [ren, VR] at h ⊢
    obtain ⟨h0, h⟩ := h
    refine ⟨h0, h.imp (fun h => h) ?_⟩
    rintro ⟨l, h1, h2⟩
    exact ⟨l, hf id (by simp [ids]) l h1, h2⟩
  | .nilf, _, _, h => by simpa [ren, VR] using h
  | .nilp, _, _, h => by simpa [ren, VR] using h
  | .nilsl, _, _, h => by simpa [ren, VR] using h
  | .nili, _, _, h => by simpa [ren, VR] using h
  | .raw _, _, _, h => by simpa [ren, VR] using h
theorem renL_VRL {φ : FM} {m m' : LM} {f : Nat → Nat} : ∀ (a : List AV) {v : List Value}, (∀ i ∈ idsL a, ∀ l, m i = some l → m' (f i) = some l) → VRL φ m a v → VRL φ m' (renL f a) v
  | [], _, _, h => by simpa [renL, VRL] using h
  | c :: cs, v, hf, h => by
    simp only [renL, VRL] at h ⊢
    obtain ⟨v, vs, rfl, h1, h2⟩ := h
    exact ⟨v, vs, rfl, ren_VR c (fun i hi => hf i (by simp [idsL, hi])) h1, renL_VRL cs (fun i hi => hf i (by simp [idsL, hi])) h2⟩
theorem ren_one {f : Nat → Nat} : ∀ (a : AV), a.one = true → (ren f a).one = true
  | .any, h => by simp [AV.one] at h
  | .bool _, _ | .int _ _, _ | .str _, _ | .fsl _, _ | .fptr _ _, _ | .osl .., _ | .optr .., _ | .eptr .., _ | .func .., _ | .nilf, _ | .nilp, _ | .nilsl, _ | .nili, _ | .raw _, _ | .slf .., _ => by simp [ren, AV.one]
  | .agg _, h => by simp [AV.one] at h
  | .tup _, h => by simp [AV.one] at h
theorem renL_one {f : Nat → Nat} : ∀ (a : List AV), a.all AV.one = true → (renL f a).all AV.one = true
  | [], _ => by simp [renL]
  | c :: cs, h => by
    simp only [List.all_cons, Bool.and_eq_true, renL] at h ⊢
    exact ⟨ren_one c h.1, renL_one cs h.2⟩
end

mutual
/-- A value renamed says of its numbers what the value says. -/
theorem unren_VR {φ : FM} {m m' : LM} {f : Nat → Nat} : ∀ (a : AV) {v : Value}, (∀ i ∈ ids a, ∀ l, m (f i) = some l → m' i = some l) → VR φ m (ren f a) v → VR φ m' a v
  | .any, _, _, _ => by simp [VR]
  | .bool _, _, _, h => by simpa [ren, VR] using h
  | .int _ _, _, _, h => by simpa [ren, VR] using h
  | .str _, _, _, h => by simpa [ren, VR] using h
  | .fsl _, _, _, h => by simpa [ren, VR] using h
  | .fptr _ _, _, _, h => by simpa [ren, VR] using h
  | .agg cs, v, hf, h => by
    simp only [ren, VR] at h ⊢
    obtain ⟨h1, a, rfl, h2⟩ := h
    exact ⟨unrenL_one cs h1, a, rfl, unrenL_VRL cs (by simpa [ids] using hf) h2⟩
  | .tup cs, v, hf, h => by
    simp only [ren, VR] at h ⊢
    obtain ⟨a, rfl, h2⟩ := h
    exact ⟨a, rfl, unrenL_VRL cs (by simpa [ids] using hf) h2⟩
  | .osl id off len tot, v, hf, h => by
    simp only [ren, VR] at h ⊢
    obtain ⟨h0, l, h1, h2⟩ := h
    exact ⟨h0, l, hf id (by simp [ids]) l h1, h2⟩
  | .optr id off tot, v, hf, h => by
    simp only [ren, VR] at h ⊢
    obtain ⟨h0, l, h1, h2⟩ := h
    exact ⟨h0, l, hf id (by simp [ids]) l h1, h2⟩
  | .eptr id ix off tot, v, hf, h => by
    simp only [ren, VR] at h ⊢
    obtain ⟨h0, l, h1, h2⟩ := h
    exact ⟨h0, l, hf id (by simp [ids]) l h1, h2⟩
  | .slf id tot, v, hf, h => by
    simp only [ren, VR] at h ⊢
    obtain ⟨h0, h⟩ := h
    refine ⟨h0, h.imp (fun h => h) ?_⟩
    rintro ⟨l, h1, h2⟩
    exact ⟨l, hf id (by simp [ids]) l h1, h2⟩
  | .func fn a c, v, hf, h => by
    simp only [ren, VR] at h ⊢
    obtain ⟨f', c', rfl, h1, h2⟩ := h
    exact ⟨f', c', rfl, unrenL_VRL a (fun i hi => hf i (by simp [ids, hi])) h1, unrenL_VRL c (fun i hi => hf i (by simp [ids, hi])) h2⟩
  | .nilf, _, _, h => by simpa [ren, VR] using h
  | .nilp, _, _, h => by simpa [ren, VR] using h
  | .nilsl, _, _, h => by simpa [ren, VR] using h
  | .nili, _, _, h => by simpa [ren, VR] using h
  | .raw _, _, _, h => by simpa [ren, VR] using h
theorem unrenL_VRL {φ : FM} {m m' : LM} {f : Nat → Nat} : ∀ (a : List AV) {v : List Value}, (∀ i ∈ idsL a, ∀ l, m (f i) = some l → m' i = some l) → VRL φ m (renL f a) v → VRL φ m' a v
  | [], _, _, h => by simpa [renL, VRL] using h
  | c :: cs, v, hf, h => by
    simp only [renL, VRL] at h ⊢
    obtain ⟨v, vs, rfl, h1, h2⟩ := h
    exact ⟨v, vs, rfl, unren_VR c (fun i hi => hf i (by simp [idsL, hi])) h1, unrenL_VRL cs (fun i hi => hf i (by simp [idsL, hi])) h2⟩
theorem unren_one {f : Nat → Nat} : ∀ (a : AV), (ren f a).one = true → a.one = true
  | .any, h => by simp [ren, AV.one] at h
  | .bool _, _ | .int _ _, _ | .str _, _ | .fsl _, _ | .fptr _ _, _ | .osl .., _ | .optr .., _ | .eptr .., _ | .func .., _ | .nilf, _ | .nilp, _ | .nilsl, _ | .nili, _ | .raw _, _ | .slf .., _ => by simp [AV.one]
  | .agg _, h => by simp [ren, AV.one] at h
  | .tup _, h => by simp [ren, AV.one] at h
theorem unrenL_one {f : Nat → Nat} : ∀ (a : List AV), (renL f a).all AV.one = true → a.all AV.one = true
  | [], _ => by simp
  | c :: cs, h => by
    simp only [List.all_cons, Bool.and_eq_true, renL] at h ⊢
    exact ⟨unren_one c h.1, unrenL_one cs h.2⟩
end

theorem renL_len {f : Nat → Nat} : ∀ (a : List AV), (renL f a).length = a.length
  | [] => rfl
  | c :: cs => by simp [renL, renL_len cs]

theorem ren_len {f : Nat → Nat} (o : Ob) : (o.ren f).len = o.len := by
  cases o <;> simp [Ob.ren, Ob.len, renL_len]

theorem ren_cells {f : Nat → Nat} (e : AV) : (ren f e).cells = renL f e.cells := by cases e <;> simp [ren, AV.cells, renL]
theorem renL_app {f : Nat → Nat} : ∀ (a b : List AV), renL f (a ++ b) = renL f a ++ renL f b
  | [], b => by simp [renL]
  | c :: a, b => by simp [renL, renL_app a b]
theorem renL_flat {f : Nat → Nat} : ∀ (es : List AV), (renL f es).flatMap AV.cells = renL f (es.flatMap AV.cells)
  | [] => by simp [renL]
  | e :: es => by simp [renL, renL_app, ren_cells, renL_flat es]
theorem mem_renL {f : Nat → Nat} : ∀ {es : List AV} {e : AV}, e ∈ es → ren f e ∈ renL f es
  | [], e, h => by simp at h
  | x :: es, e, h => by
    simp only [renL, List.mem_cons] at h ⊢
    rcases h with rfl | h
    · exact .inl rfl
    · exact .inr (mem_renL h)
theorem renL_mem {f : Nat → Nat} : ∀ {es : List AV} {x : AV}, x ∈ renL f es → ∃ e ∈ es, x = ren f e
  | [], x, h => by simp [renL] at h
  | e :: es, x, h => by
    simp only [renL, List.mem_cons] at h
    rcases h with rfl | h
    · exact ⟨e, by simp, rfl⟩
    · obtain ⟨e', h1, h2⟩ := renL_mem h
      exact ⟨e', by simp [h1], h2⟩
mutual
theorem ids_ren {f : Nat → Nat} : ∀ (e : AV), _root_.Go.Proofs.YtapchldnmkfkoabDoor.Am.ids (ren f e) = (_root_.Go.Proofs.YtapchldnmkfkoabDoor.Am.ids e).map f
  | .any | .bool _ | .int _ _ | .str _ | .fsl _ | .fptr _ _ | .nilf | .nilp | .nilsl | .nili | .raw _ => by simp [ren, _root_.Go.Proofs.YtapchldnmkfkoabDoor.Am.ids]
  | .osl .. | .optr .. | .eptr .. | .slf ..=> by simp [ren, _root_.Go.Proofs.YtapchldnmkfkoabDoor.Am.ids]
  | .agg cs => by simp only [ren, _root_.Go.Proofs.YtapchldnmkfkoabDoor.Am.ids]; exact idsL_ren cs
  | .tup cs => by simp only [ren, _root_.Go.Proofs.YtapchldnmkfkoabDoor.Am.ids]; exact idsL_ren cs
  | .func _ a c => by simp only [ren, _root_.Go.Proofs.YtapchldnmkfkoabDoor.Am.ids, List.map_append, idsL_ren a, idsL_ren c]
theorem idsL_ren {f : Nat → Nat} : ∀ (cs : List AV), idsL (renL f cs) = (idsL cs).map f
  | [] => by simp [renL, idsL]
  | c :: cs => by simp only [renL, idsL, List.map_append, ids_ren c, idsL_ren cs]
end
theorem idsL_app : ∀ (a b : List AV), idsL (a ++ b) = idsL a ++ idsL b
  | [], b => by simp [idsL]
  | c :: a, b => by simp [idsL, idsL_app a b]
theorem idsL_cells : ∀ {es : List AV} {i : Nat}, i ∈ idsL (es.flatMap AV.cells) → i ∈ idsL es
  | [], i, h => by simpa using h
  | e :: es, i, h => by
    rw [List.flatMap_cons, idsL_app, List.mem_append] at h
    simp only [idsL, List.mem_append]
    rcases h with h | h
    · left
      cases e <;> first | (simp [AV.cells, idsL, _root_.Go.Proofs.YtapchldnmkfkoabDoor.Am.ids] at h; done) | simpa [AV.cells, idsL, _root_.Go.Proofs.YtapchldnmkfkoabDoor.Am.ids] using h
    · exact .inr (idsL_cells h)
theorem renL_get {f : Nat → Nat} : ∀ (cs : List AV) (i : Nat), (renL f cs)[i]? = (cs[i]?).map (ren f)
  | [], i => by simp [renL]
  | c :: cs, 0 => by simp [renL]
  | c :: cs, i + 1 => by simp [renL, renL_get cs i]
mutual
theorem ren_plain {f : Nat → Nat} : ∀ (a : AV), plain (ren f a) = plain a
  | .agg cs => by simp only [ren, plain]; exact renL_plain cs
  | .tup cs => by simp only [ren, plain]; exact renL_plain cs
  | .any | .bool _ | .int _ _ | .str _ | .fsl _ | .fptr _ _ | .osl .. | .optr .. | .eptr .. | .func .. | .nilf | .nilp | .nilsl | .nili | .raw _ | .slf .. => by simp [ren, plain]
theorem renL_plain {f : Nat → Nat} : ∀ (a : List AV), plainL (renL f a) = plainL a
  | [] => by simp [renL]
  | c :: cs => by simp only [renL, plainL, ren_plain c, renL_plain cs]
end
theorem NRc.ren {φ : FM} {m m' : LM} {w : World} {z : Nat} {c : AV} {v : Value} {o : Option Nat} {f : Nat → Nat} (h : NRc φ m w z c v o) (hf : ∀ i ∈ _root_.Go.Proofs.YtapchldnmkfkoabDoor.Am.ids c, ∀ l, m i = some l → m' (f i) = some l) : NRc φ m' w z (ren f c) v o := by
  rcases h with ⟨h1, h2, h3⟩ | ⟨es, ad, cap, rfl, h2⟩
  · exact .inl ⟨by rw [ren_plain]; exact h1, ren_VR c hf h2, h3⟩
  · exact .inr ⟨es, ad, cap, by simp [_root_.Go.Proofs.YtapchldnmkfkoabDoor.Am.ren], h2⟩
theorem NRc.unren {φ : FM} {m m' : LM} {w : World} {z : Nat} {c : AV} {v : Value} {o : Option Nat} {f : Nat → Nat} (h : NRc φ m w z (_root_.Go.Proofs.YtapchldnmkfkoabDoor.Am.ren f c) v o) (hf : ∀ i ∈ _root_.Go.Proofs.YtapchldnmkfkoabDoor.Am.ids c, ∀ l, m (f i) = some l → m' i = some l) : NRc φ m' w z c v o := by
  rcases h with ⟨h1, h2, h3⟩ | ⟨es, ad, cap, h1, h2⟩
  · exact .inl ⟨by rw [ren_plain] at h1; exact h1, unren_VR c hf h2, h3⟩
  · have : c = .fsl es := by cases c <;> simp_all [_root_.Go.Proofs.YtapchldnmkfkoabDoor.Am.ren]
    exact .inr ⟨es, ad, cap, this, h2⟩
theorem idsL_get {cs : List AV} {i : Nat} {c : AV} (h : cs[i]? = some c) {j : Nat} (hj : j ∈ _root_.Go.Proofs.YtapchldnmkfkoabDoor.Am.ids c) : j ∈ idsL cs := by
  induction cs generalizing i with
  | nil => simp at h
  | cons x xs ih =>
    simp only [idsL, List.mem_append]
    cases i with
    | zero => simp at h; subst h; exact .inl hj
    | succ i => exact .inr (ih (by simpa using h))
theorem ObR_ren {φ φ' : FM} {m m' : LM} {w w' : World} {l : Loc} {ob : Ob} {f : Nat → Nat} (h : ObR φ m w l ob) (hf : ∀ i ∈ ob.ids, ∀ l, m i = some l → m' (f i) = some l)
    (hle : φ.le φ') (hbB : ∀ b, ob.fp l b → w'.heap[b]? = w.heap[b]?) (hφB : ∀ b, ob.fp l b → φ' b = φ b) : ObR φ' m' w' l (ob.ren f) := by
  have h1 := h.mono hle (Ext.refl _) hbB hφB
  cases ob with
  | box cs0 =>
    refine ⟨by rw [h.top, ren_len], fun cs e => ?_, (fun _ _ _ e => by simp [Ob.ren] at e), trivial⟩
    simp only [Ob.ren, Ob.box.injEq] at e
    subst e
    obtain ⟨a1, a2, a3, a4, a, t, a5, a6⟩ := h1.box cs0 rfl
    exact ⟨a1, ⟨by rw [renL_len]; exact a2.1, a2.2⟩, a3, renL_one _ a4, a, t, a5, renL_VRL cs0 hf a6⟩
  | arr esz0 es0 ro0 => exact ⟨h1.top, (fun _ e => by cases e), h1.arr, trivial⟩
  | gone n => exact ⟨h1.top, (fun _ e => by cases e), (fun _ _ _ e => by cases e), trivial⟩
  | bld t c =>
    refine ⟨h.top, (fun _ e => by simp [Ob.ren] at e), (fun _ _ _ e => by simp [Ob.ren] at e), ?_⟩
    obtain ⟨a1, a2, a3, a4, v0, v1, a5, a6, a7⟩ := h1.oth
    exact ⟨a1, a2, a3, ren_one _ a4, v0, v1, a5, a6, ren_VR c hf a7⟩
  | nar esz es ars =>
    refine ⟨by rw [h.top, ren_len], (fun _ e => by simp [Ob.ren] at e), (fun _ _ _ e => by simp [Ob.ren] at e), ?_⟩
    obtain ⟨a1, a2, a3, a4, a5, vs, F, a6, a7, a8⟩ := h1.oth
    refine ⟨a1, a2, fun e he => ?_, by rw [renL_len]; exact a4, a5, vs, F, ⟨?_, fun i c v hc hv => ?_, a6.2.2.1, fun i hi => ?_⟩, a7, by rw [renL_len]; exact a8⟩
    · obtain ⟨e0, k1, rfl⟩ := renL_mem he
      rw [ren_cells, renL_len]
      exact ⟨(a3 e0 k1).1, renL_one _ (a3 e0 k1).2⟩
    · rw [renL_flat, renL_len]; exact a6.1
    · rw [renL_flat, renL_get, Option.map_eq_some_iff] at hc
      obtain ⟨c0, hc0, rfl⟩ := hc
      exact (a6.2.1 i c0 v hc0 hv).ren (fun j hj => hf j (idsL_cells (idsL_get hc0 hj)))
    · rw [renL_flat, renL_len] at hi; exact a6.2.2.2 i hi

theorem fp_ren {ob : Ob} {f : Nat → Nat} {l : Loc} {b : Nat} : (ob.ren f).fp l b ↔ ob.fp l b := by cases ob <;> exact Iff.rfl

theorem Ob.ren_id (o : Ob) : True := trivial

theorem nodup_clo (g : Nat → Option Ob) : ∀ (d : Nat) (l : List Nat), l.Nodup → (clo g d l).Nodup
  | 0, _, h => h
  | d + 1, l, h => nodup_clo g d _ (nodup_addTo _ _ h)

theorem mem_clo (g : Nat → Option Ob) : ∀ (d : Nat) (l : List Nat) (i : Nat), i ∈ l → i ∈ clo g d l
  | 0, _, _, h => h
  | d + 1, l, i, h => mem_clo g d _ i ((mem_addTo _ _ _).2 (.inl h))

theorem closed_mem {g : Nat → Option Ob} {l : List Nat} (h : closed g l = true) {i j : Nat} {ob : Ob} (hi : i ∈ l) (hg : g i = some ob) (hj : j ∈ ob.ids) : j ∈ l := by
  unfold closed at h
  have := (List.all_eq_true.1 h) i hi
  rw [hg] at this
  have := (List.all_eq_true.1 this) j hj
  simpa using this

theorem outOf_get {g : Nat → Option Ob} : ∀ {is : List Nat} {obs : List Ob}, outOf g is = some obs → obs.length = is.length ∧ ∀ (k i : Nat), is[k]? = some i → ∃ ob, obs[k]? = some ob ∧ g i = some ob
  | [], obs, h => by simp only [outOf, Option.some.injEq] at h; subst h; simp
  | i :: is, obs, h => by
    simp only [outOf] at h
    split at h
    · rename_i o os h1 h2
      cases h
      obtain ⟨k1, k2⟩ := outOf_get h2
      refine ⟨by simp [k1], fun k j hk => ?_⟩
      cases k with
      | zero => simp at hk; subst hk; exact ⟨o, by simp, h1⟩
      | succ k => simpa using k2 k j (by simpa using hk)
    · cases h

theorem ixOf_get : ∀ {is : List Nat} {i : Nat}, i ∈ is → is[ixOf is i]? = some i
  | [], i, h => by simp at h
  | x :: xs, i, h => by
    unfold ixOf
    split
    · rename_i e; simp [e]
    · rename_i e
      have : i ∈ xs := by rcases List.mem_cons.1 h with h | h; exact absurd h.symm e; exact h
      simpa using ixOf_get this

theorem ixOf_lt {is : List Nat} {i : Nat} (h : i ∈ is) : ixOf is i < is.length := (List.getElem?_eq_some_iff.1 (ixOf_get h)).1

theorem ixOf_out : ∀ {is : List Nat} {i : Nat}, i ∉ is → ixOf is i = is.length
  | [], i, _ => rfl
  | x :: xs, i, h => by
    simp only [List.mem_cons, not_or] at h
    unfold ixOf
    rw [if_neg (fun e => h.1 e.symm), ixOf_out h.2]; rfl

theorem get_ixOf : ∀ {is : List Nat}, is.Nodup → ∀ {k i : Nat}, is[k]? = some i → ixOf is i = k
  | [], _, k, i, h => by simp at h
  | x :: xs, hn, 0, i, h => by simp at h; subst h; simp [ixOf]
  | x :: xs, hn, k + 1, i, h => by
    simp only [List.nodup_cons] at hn
    have h' : xs[k]? = some i := by simpa using h
    unfold ixOf
    rw [if_neg (by rintro rfl; exact hn.1 (List.mem_of_getElem? h')), get_ixOf hn.2 h']

theorem lkp_zipTo {is : List Nat} : ∀ {obs : List Ob} {i : Nat}, is.Nodup → is.length ≤ obs.length → lkp (zipTo is obs) i = if i ∈ is then obs[ixOf is i]? else none := by
  induction is with
  | nil => intro obs i _ _; cases obs <;> simp [zipTo, lkp]
  | cons x xs ih =>
    intro obs i hn hl
    cases obs with
    | nil => simp at hl
    | cons o os =>
      simp only [List.nodup_cons] at hn
      simp only [zipTo, lkp]
      by_cases e : x = i
      · subst e
        simp [ixOf]
      · rw [if_neg e, ih hn.2 (by simpa using hl)]
        have e' : ¬ (i = x) := fun h => e h.symm
        simp only [List.mem_cons, e', false_or]
        by_cases hm : i ∈ xs
        · simp only [if_pos hm, ixOf, if_neg e]
          simp
        · simp only [if_neg hm]

theorem lkp_zipAt : ∀ {obs : List Ob} {nx i : Nat}, lkp (zipAt nx obs) i = if nx ≤ i then obs[i - nx]? else none
  | [], nx, i => by simp [zipAt, lkp]
  | o :: os, nx, i => by
    simp only [zipAt, lkp]
    rw [lkp_zipAt]
    by_cases e : nx = i
    · subst e; simp
    · rw [if_neg e]
      by_cases h : nx ≤ i
      · rw [if_pos h, if_pos (by omega)]
        have : i - nx = (i - (nx + 1)) + 1 := by omega
        rw [this]; simp
      · rw [if_neg h, if_neg (by omega)]
end Go.Proofs.YtapchldnmkfkoabDoor.Am
namespace Go.Proofs.YtapchldnmkfkoabDoor.Am
open Go

variable {P : Program}

section
variable {φ : FM} {m : LM} {g gi : Nat → Option Ob} {w w' : World}

/-- Which locations the objects have that are handed over. -/
def subM (m : LM) (js : List Nat) : LM := fun k => match js[k]? with | some i => m i | none => none

theorem inv_sub (hi : Inv φ m g w) {js : List Nat} {obs : List Ob} (hn : js.Nodup) (hl : obs.length = js.length)
    (ho : ∀ (k i : Nat), js[k]? = some i → ∃ ob, obs[k]? = some ob ∧ g i = some ob) (hc : ∀ i ∈ js, ∀ ob, g i = some ob → ∀ j ∈ ob.ids, j ∈ js) :
    Inv φ (subM m js) (fun k => (obs.map (Ob.ren (ixOf js)))[k]?) w := by
  have hsub : ∀ i ∈ js, ∀ l, m i = some l → subM m js (ixOf js i) = some l := by
    intro i hi l h; unfold subM; rw [ixOf_get hi]; exact h
  have key : ∀ (k : Nat) (ob' : Ob), (obs.map (Ob.ren (ixOf js)))[k]? = some ob' → ∃ (i : Nat) (ob : Ob), js[k]? = some i ∧ g i = some ob ∧ ob' = ob.ren (ixOf js) := by
    intro k ob' h
    rw [List.getElem?_map, Option.map_eq_some_iff] at h
    obtain ⟨ob, h1, rfl⟩ := h
    have hk : k < js.length := by have := (List.getElem?_eq_some_iff.1 h1).1; omega
    obtain ⟨ob2, h2, h3⟩ := ho k js[k] (List.getElem?_eq_getElem hk)
    rw [h1] at h2; cases h2
    exact ⟨js[k], ob, List.getElem?_eq_getElem hk, h3, rfl⟩
  refine ⟨hi.fz, fun k ob' h => ?_, fun k k' ob1 ob2 l l' b h1 h2 h3 h4 h5 h6 h7 => ?_⟩
  · obtain ⟨i, ob, h1, h2, rfl⟩ := key k ob' h
    obtain ⟨l, hm, hr⟩ := hi.own i ob h2
    refine ⟨l, by unfold subM; rw [h1]; exact hm, ObR_ren hr (fun j hj l' hl' => hsub j (hc i (List.mem_of_getElem? h1) ob h2 j hj) l' hl') (FM.le_refl _) (fun _ _ => rfl) (fun _ _ => rfl)⟩
  · obtain ⟨i, o1, a1, a2, rfl⟩ := key k ob1 h1
    obtain ⟨i', o2, b1, b2, rfl⟩ := key k' ob2 h2
    simp only [subM, a1] at h3
    simp only [subM, b1] at h4
    refine hi.sep i i' o1 o2 l l' b a2 b2 h3 h4 ?_ (fp_ren.1 h6) (fp_ren.1 h7)
    rintro rfl
    exact h5 (by rw [← get_ixOf hn a1, get_ixOf hn b1])

theorem merge (hi : Inv φ m g w) {js : List Nat} {obs obs' : List Ob} {φ' : FM} {mc : LM} {nx : Nat} {v : AV} {cv : Value} (hn : js.Nodup) (hl : obs.length = js.length)
    (ho : ∀ (k i : Nat), js[k]? = some i → ∃ ob, obs[k]? = some ob ∧ g i = some ob)
    (hfr : ∀ i, nx ≤ i → i < nx + (obs'.length - js.length) → g i = none ∧ m i = none)
    (hle : js.length ≤ obs'.length) (hmc : ∀ i, obs'.length ≤ i → mc i = none)
    (hi' : Inv φ' mc (fun k => obs'[k]?) w') (hF : Fr φ (subM m js) (fun k => (obs.map (Ob.ren (ixOf js)))[k]?) w φ' mc (fun k => obs'[k]?) w') (hv : VR φ' mc v cv) :
    let back := fun i => if i < js.length then js.getD i 0 else nx + (i - js.length)
    let obs'' := obs'.map (Ob.ren back)
    ∃ m', VR φ' m' (ren back v) cv ∧ Inv φ' m' (upd g (zipTo js obs'' ++ zipAt nx (obs''.drop js.length))) w' ∧ Fr φ m g w φ' m' (upd g (zipTo js obs'' ++ zipAt nx (obs''.drop js.length))) w' ∧
      ∀ i, (nx + (obs'.length - js.length) ≤ i ∨ lkp (zipTo js obs'' ++ zipAt nx (obs''.drop js.length)) i = none) → m i = none → m' i = none := by
  intro back obs''
  let m' : LM := fun i => if i ∈ js then mc (ixOf js i) else if nx ≤ i ∧ i < nx + (obs'.length - js.length) then mc (js.length + (i - nx)) else m i
  have hjs : ∀ i ∈ js, ∃ ob, g i = some ob := by
    intro i h
    obtain ⟨ob, _, h2⟩ := ho _ i (ixOf_get h)
    exact ⟨ob, h2⟩
  have hnew : ∀ i, nx ≤ i → i < nx + (obs'.length - js.length) → i ∉ js := by
    intro i h1 h2 h3
    obtain ⟨ob, h4⟩ := hjs i h3
    rw [(hfr i h1 h2).1] at h4; cases h4
  -- where the callee's number k is, seen from the caller
  have hback : ∀ k l, mc k = some l → m' (back k) = some l := by
    intro k l hk
    have hklt : k < obs'.length := by
      rcases Nat.lt_or_ge k obs'.length with h | h
      · exact h
      · rw [hmc k h] at hk; cases hk
    show (if back k ∈ js then _ else _) = _
    by_cases h1 : k < js.length
    · have hb : back k = js[k] := by
        show (if k < js.length then js.getD k 0 else _) = _
        rw [if_pos h1]; simp [h1]
      rw [hb, if_pos (List.getElem_mem h1), get_ixOf hn (List.getElem?_eq_getElem h1)]
      exact hk
    · have hb : back k = nx + (k - js.length) := by
        show (if k < js.length then js.getD k 0 else _) = _
        rw [if_neg h1]
      rw [hb, if_neg (hnew _ (by omega) (by omega)), if_pos (by omega)]
      rw [show js.length + (nx + (k - js.length) - nx) = k by omega]
      exact hk
  have hext : Ext m m' := by
    intro i l hl'
    show ∃ l', (if i ∈ js then _ else _) = some l' ∧ _
    by_cases h1 : i ∈ js
    · rw [if_pos h1]
      exact hF.ext (ixOf js i) l (by unfold subM; rw [ixOf_get h1]; exact hl')
    · rw [if_neg h1]
      by_cases h2 : nx ≤ i ∧ i < nx + (obs'.length - js.length)
      · rw [(hfr i h2.1 h2.2).2] at hl'; cases hl'
      · rw [if_neg h2]; exact ⟨l, hl', Nat.le_refl _, fun _ => ⟨rfl, rfl, rfl⟩⟩
  have hownc : ∀ b, ownB (fun k => (obs.map (Ob.ren (ixOf js)))[k]?) (subM m js) b → ∃ i ∈ js, ∃ ob l, g i = some ob ∧ m i = some l ∧ ob.fp l b := by
    rintro b ⟨k, ob', l, h1, h2, h3⟩
    have hk : k < js.length := by have := (List.getElem?_eq_some_iff.1 h1).1; simp at this; omega
    obtain ⟨ob, h5, h6⟩ := ho k js[k] (List.getElem?_eq_getElem hk)
    simp only [subM, List.getElem?_eq_getElem hk] at h2
    dsimp only at h1
    rw [List.getElem?_map, h5] at h1
    simp only [Option.map_some, Option.some.injEq] at h1
    exact ⟨js[k], List.getElem_mem hk, ob, l, h6, h2, fp_ren.1 (by rw [h1]; exact h3)⟩
  -- what the caller's heap has behind the call
  have hlen'' : obs''.length = obs'.length := by simp [obs'']
  have hget : ∀ i, upd g (zipTo js obs'' ++ zipAt nx (obs''.drop js.length)) i = if i ∈ js then obs''[ixOf js i]? else if nx ≤ i ∧ i < nx + (obs'.length - js.length) then obs''[js.length + (i - nx)]? else g i := by
    intro i
    rw [upd_get, lkp_append, lkp_zipTo hn (by omega), lkp_zipAt]
    by_cases h1 : i ∈ js
    · have : ixOf js i < obs''.length := by have := ixOf_lt h1; omega
      simp only [if_pos h1, List.getElem?_eq_getElem this]
    · simp only [if_neg h1]
      by_cases h2 : nx ≤ i
      · simp only [if_pos h2, List.getElem?_drop]
        by_cases h3 : i < nx + (obs'.length - js.length)
        · have : js.length + (i - nx) < obs''.length := by omega
          rw [if_pos ⟨h2, h3⟩, List.getElem?_eq_getElem this]
        · rw [if_neg (by omega), List.getElem?_eq_none (by omega)]
      · simp only [if_neg h2]
        rw [if_neg (by omega)]
  have hsz := hF.size
  -- an object that was not handed over
  have hothB : ∀ i ob l, i ∉ js → g i = some ob → m i = some l → ∀ b, ob.fp l b → w'.heap[b]? = w.heap[b]? ∧ φ' b = φ b := by
    intro i ob l h1 h2 h3 b h4
    have hlt := hi.lt ⟨i, ob, l, h2, h3, h4⟩
    have hno : ¬ ownB (fun k => (obs.map (Ob.ren (ixOf js)))[k]?) (subM m js) b := by
      intro h
      obtain ⟨j, hj, ob2, l2, k1, k2, k3⟩ := hownc _ h
      exact hi.sep i j ob ob2 l l2 b h2 k1 h3 k2 (by rintro rfl; exact h1 hj) h4 k3
    refine ⟨hF.old _ hlt hno, ?_⟩
    cases hp : φ b with
    | some o => exact hF.φle _ _ hp
    | none =>
      cases hq : φ' b with
      | none => rfl
      | some o =>
        rcases hF.newφ _ _ hq with h | h | h
        · rw [hp] at h; cases h
        · omega
        · exact absurd h hno
  have hm'js : ∀ i ∈ js, m' i = mc (ixOf js i) := fun i h => if_pos h
  have hm'new : ∀ i, i ∉ js → nx ≤ i ∧ i < nx + (obs'.length - js.length) → m' i = mc (js.length + (i - nx)) := fun i h1 h2 => by
    show (if i ∈ js then _ else _) = _; rw [if_neg h1, if_pos h2]
  have hm'old : ∀ i, i ∉ js → ¬ (nx ≤ i ∧ i < nx + (obs'.length - js.length)) → m' i = m i := fun i h1 h2 => by
    show (if i ∈ js then _ else _) = _; rw [if_neg h1, if_neg h2]
  -- each object behind the call: the callee's, or one that was not handed over
  have hcase : ∀ i ob, upd g (zipTo js obs'' ++ zipAt nx (obs''.drop js.length)) i = some ob →
      (∃ (k : Nat) (ob0 : Ob), obs'[k]? = some ob0 ∧ ob = ob0.ren back ∧ m' i = mc k ∧ ∀ i' , (i' ∈ js ∧ ixOf js i' = k) ∨ (i' ∉ js ∧ nx ≤ i' ∧ js.length + (i' - nx) = k) → i' = i) ∨ (i ∉ js ∧ g i = some ob ∧ m' i = m i) := by
    intro i ob h
    rw [hget] at h
    by_cases h1 : i ∈ js
    · rw [if_pos h1, List.getElem?_map, Option.map_eq_some_iff] at h
      obtain ⟨ob0, h2, rfl⟩ := h
      refine .inl ⟨ixOf js i, ob0, h2, rfl, hm'js i h1, fun i' hi' => ?_⟩
      rcases hi' with ⟨a1, a2⟩ | ⟨a1, a2, a3⟩
      · have e1 := ixOf_get a1
        have e2 := ixOf_get h1
        rw [a2, e2] at e1
        exact (Option.some.inj e1).symm
      · have := ixOf_lt h1; omega
    · rw [if_neg h1] at h
      by_cases h2 : nx ≤ i ∧ i < nx + (obs'.length - js.length)
      · rw [if_pos h2, List.getElem?_map, Option.map_eq_some_iff] at h
        obtain ⟨ob0, h3, rfl⟩ := h
        refine .inl ⟨_, ob0, h3, rfl, hm'new i h1 h2, fun i' hi' => ?_⟩
        rcases hi' with ⟨a1, a2⟩ | ⟨a1, a2, a3⟩
        · have := ixOf_lt a1; omega
        · omega
      · rw [if_neg h2] at h
        exact .inr ⟨h1, h, hm'old i h1 h2⟩
  have hcblk : ∀ (k : Nat) (ob : Ob) (l : Loc), obs'[k]? = some ob → mc k = some l → ∀ b, ob.fp l b → w.heap.size ≤ b ∨ ∃ i ∈ js, ∃ ob l', g i = some ob ∧ m i = some l' ∧ ob.fp l' b := by
    intro k ob l h1 h2 b h3
    rcases hF.newm b ⟨k, ob, l, h1, h2, h3⟩ with h | h
    · exact .inl h
    · exact .inr (hownc _ h)
  have hold : ∀ i ob l, i ∉ js → g i = some ob → m i = some l → ∀ b, ob.fp l b → ∀ (k : Nat) (ob' : Ob) (l' : Loc), obs'[k]? = some ob' → mc k = some l' → ob'.fp l' b → False := by
    intro i ob l h1 h2 h3 b h4 k ob' l' k1 k2 k3
    rcases hcblk k ob' l' k1 k2 b k3 with h | ⟨j, hj, ob2, l2, q1, q2, q3⟩
    · have := hi.lt ⟨i, ob, l, h2, h3, h4⟩; omega
    · exact hi.sep i j ob ob2 l l2 b h2 q1 h3 q2 (by rintro rfl; exact h1 hj) h4 q3
  refine ⟨m', ren_VR v (fun i _ l h => hback i l h) hv, ⟨hi'.fz, fun i ob h => ?_, fun i i' ob ob' l l' b h1 h2 h3 h4 h5 h6 h7 => ?_⟩, ⟨hF.φle, hext, hF.os, hF.tape, hF.output, hF.size, fun b hb hno => ?_, fun b o hb => ?_, ?_⟩, fun i hge hm => ?_⟩
  · rcases hcase i ob h with ⟨k, ob0, h1, rfl, h2, _⟩ | ⟨h1, h2, h3⟩
    · obtain ⟨l, k1, k2⟩ := hi'.own k ob0 h1
      exact ⟨l, by rw [h2]; exact k1, ObR_ren k2 (fun j _ l' hl' => hback j l' hl') (FM.le_refl _) (fun _ _ => rfl) (fun _ _ => rfl)⟩
    · obtain ⟨l, k1, k2⟩ := hi.own i ob h2
      exact ⟨l, by rw [h3]; exact k1, k2.mono hF.φle hext (fun b h => (hothB i ob l h1 h2 k1 b h).1) (fun b h => (hothB i ob l h1 h2 k1 b h).2)⟩
  · rcases hcase i ob h1 with ⟨k, ob0, p1, rfl, p2, p3⟩ | ⟨p1, p2, p3⟩ <;> rcases hcase i' ob' h2 with ⟨k', ob0', q1, rfl, q2, q3⟩ | ⟨q1, q2, q3⟩
    · rw [p2] at h3; rw [q2] at h4
      refine hi'.sep k k' ob0 ob0' l l' b p1 q1 h3 h4 ?_ (fp_ren.1 h6) (fp_ren.1 h7)
      rintro rfl
      apply h5
      -- the same number of the callee's: the same of the caller's
      by_cases hk : k < js.length
      · have e1 := p3 js[k] (.inl ⟨List.getElem_mem hk, get_ixOf hn (List.getElem?_eq_getElem hk)⟩)
        have e2 := q3 js[k] (.inl ⟨List.getElem_mem hk, get_ixOf hn (List.getElem?_eq_getElem hk)⟩)
        rw [← e1, ← e2]
      · have hk2 : k < obs'.length := (List.getElem?_eq_some_iff.1 p1).1
        have hni : nx + (k - js.length) ∉ js := hnew _ (by omega) (by omega)
        have e1 := p3 (nx + (k - js.length)) (.inr ⟨hni, by omega, by omega⟩)
        have e2 := q3 (nx + (k - js.length)) (.inr ⟨hni, by omega, by omega⟩)
        rw [← e1, ← e2]
    · rw [p2] at h3; rw [q3] at h4
      exact hold i' ob' l' q1 q2 h4 b h7 k ob0 l p1 h3 (fp_ren.1 h6)
    · rw [p3] at h3; rw [q2] at h4
      exact hold i ob l p1 p2 h3 b h6 k' ob0' l' q1 h4 (fp_ren.1 h7)
    · rw [p3] at h3; rw [q3] at h4
      exact hi.sep i i' ob ob' l l' b p2 q2 h3 h4 h5 h6 h7
  · refine hF.old b hb fun h => hno ?_
    obtain ⟨i, _, ob, l, h1, h2, h3⟩ := hownc b h
    exact ⟨i, ob, l, h1, h2, h3⟩
  · rcases hF.newφ b o hb with h | h | h
    · exact .inl h
    · exact .inr (.inl h)
    · obtain ⟨i, _, ob, l, h1, h2, h3⟩ := hownc b h
      exact .inr (.inr ⟨i, ob, l, h1, h2, h3⟩)
  · rintro b ⟨i, ob, l, h1, h2, h3⟩
    rcases hcase i ob h1 with ⟨k, ob0, p1, rfl, p2, _⟩ | ⟨p1, p2, p3⟩
    · rw [p2] at h2
      rcases hcblk k ob0 l p1 h2 b (fp_ren.1 h3) with h | ⟨j, _, ob2, l2, q1, q2, q3⟩
      · exact .inl h
      · exact .inr ⟨j, ob2, l2, q1, q2, q3⟩
    · rw [p3] at h2
      exact .inr ⟨i, ob, l, p2, h2, h3⟩
  · by_cases h1 : i ∈ js
    · rw [hm'js i h1]
      cases hq : mc (ixOf js i) with
      | none => rfl
      | some l =>
        obtain ⟨ob, h2⟩ := hjs i h1
        obtain ⟨l', h3, _⟩ := hi.own i ob h2
        rw [hm] at h3; cases h3
    · rw [hm'old i h1 ?_]
      · exact hm
      · intro h2
        rcases hge with h | h
        · omega
        · rw [lkp_append, lkp_zipTo hn (by omega), if_neg h1, lkp_zipAt, if_pos h2.1] at h
          simp only [List.getElem?_drop] at h
          rw [List.getElem?_eq_none_iff] at h
          omega
end
end Go.Proofs.YtapchldnmkfkoabDoor.Am
namespace Go.Proofs.YtapchldnmkfkoabDoor.Am
open Go

variable {P : Program}

def ClS' (P : Program) (cl : Cl) : Prop := ∀ f args obs v obs', cl f args obs = some (v, obs') → Bodied P f ∧ CallOK P f args obs v obs'

section
variable {φ : FM} {m : LM} {g gi : Nat → Option Ob} {w w' : World}

mutual
theorem plain_none {φ φ2 : FM} {m : LM} (hm : ∀ i, m i = none) : ∀ (v : AV) {cv : Value}, plain v = true → VR φ m v cv → VR φ2 LM.none v cv
  | .any, _, h, _ => by simp [plain] at h
  | .bool _, _, _, h => by simpa [VR] using h
  | .int _ _, _, _, h => by simpa [VR] using h
  | .str _, _, _, h => by simpa [VR] using h
  | .agg cs, _, hp, h => by
    simp only [plain] at hp
    simp only [VR] at h ⊢
    obtain ⟨h1, a, rfl, h2⟩ := h
    exact ⟨h1, a, rfl, plainL_none hm cs hp h2⟩
  | .tup cs, _, hp, h => by
    simp only [plain] at hp
    simp only [VR] at h ⊢
    obtain ⟨a, rfl, h2⟩ := h
    exact ⟨a, rfl, plainL_none hm cs hp h2⟩
  | .fsl _, _, h, _ => by simp [plain] at h
  | .fptr _ _, _, h, _ => by simp [plain] at h
  | .func _ _ _, _, h, _ => by simp [plain] at h
  | .osl id _ _ _, _, _, h => by simp only [VR] at h; obtain ⟨_, l, h1, _⟩ := h; rw [hm] at h1; cases h1
  | .optr id _ _, _, _, h => by simp only [VR] at h; obtain ⟨_, l, h1, _⟩ := h; rw [hm] at h1; cases h1
  | .eptr id _ _ _, _, _, h => by simp only [VR] at h; obtain ⟨_, l, h1, _⟩ := h; rw [hm] at h1; cases h1
  | .slf id _, _, _, h => by
    simp only [VR] at h ⊢
    exact ⟨h.1, h.2.elim .inl (fun ⟨l, h1, _⟩ => by rw [hm] at h1; cases h1)⟩
  | .nilf, _, _, h => by simpa [VR] using h
  | .nilp, _, _, h => by simpa [VR] using h
  | .nilsl, _, _, h => by simpa [VR] using h
  | .nili, _, _, h => by simpa [VR] using h
  | .raw _, _, _, h => by simpa [VR] using h
theorem plainL_none {φ φ2 : FM} {m : LM} (hm : ∀ i, m i = none) : ∀ (v : List AV) {cv : List Value}, plainL v = true → VRL φ m v cv → VRL φ2 LM.none v cv
  | [], _, _, h => by simpa [VRL] using h
  | c :: cs, _, hp, h => by
    simp only [plainL, Bool.and_eq_true] at hp
    simp only [VRL] at h ⊢
    obtain ⟨v, vs, rfl, h1, h2⟩ := h
    exact ⟨v, vs, rfl, plain_none hm c hp.1 h1, plainL_none hm cs hp.2 h2⟩
end

mutual
theorem plain_any {φ φ2 : FM} {m : LM} : ∀ (v : AV) {cv : Value}, plain v = true → VR φ m v cv → VR φ2 m v cv
  | .any, _, h, _ => by simp [plain] at h
  | .bool _, _, _, h => by simpa [VR] using h
  | .int _ _, _, _, h => by simpa [VR] using h
  | .str _, _, _, h => by simpa [VR] using h
  | .agg cs, _, hp, h => by
    simp only [plain] at hp
    simp only [VR] at h ⊢
    obtain ⟨h1, a, rfl, h2⟩ := h
    exact ⟨h1, a, rfl, plainL_any cs hp h2⟩
  | .tup cs, _, hp, h => by
    simp only [plain] at hp
    simp only [VR] at h ⊢
    obtain ⟨a, rfl, h2⟩ := h
    exact ⟨a, rfl, plainL_any cs hp h2⟩
  | .fsl _, _, h, _ => by simp [plain] at h
  | .fptr _ _, _, h, _ => by simp [plain] at h
  | .func _ _ _, _, h, _ => by simp [plain] at h
  | .osl id _ _ _, _, _, h => by simpa only [VR] using h
  | .optr id _ _, _, _, h => by simpa only [VR] using h
  | .eptr id _ _ _, _, _, h => by simpa only [VR] using h
  | .slf _ _, _, _, h => by simpa only [VR] using h
  | .nilf, _, _, h => by simpa [VR] using h
  | .nilp, _, _, h => by simpa [VR] using h
  | .nilsl, _, _, h => by simpa [VR] using h
  | .nili, _, _, h => by simpa [VR] using h
  | .raw _, _, _, h => by simpa [VR] using h
theorem plainL_any {φ φ2 : FM} {m : LM} : ∀ (v : List AV) {cv : List Value}, plainL v = true → VRL φ m v cv → VRL φ2 m v cv
  | [], _, _, h => by simpa [VRL] using h
  | c :: cs, _, hp, h => by
    simp only [plainL, Bool.and_eq_true] at hp
    simp only [VRL] at h ⊢
    obtain ⟨v, vs, rfl, h1, h2⟩ := h
    exact ⟨v, vs, rfl, plain_any c hp.1 h1, plainL_any cs hp.2 h2⟩
end
theorem plainL_app {a b : List AV} : plainL (a ++ b) = (plainL a && plainL b) := by
  induction a with
  | nil => simp [plainL]
  | cons x a ih => simp [plainL, ih, Bool.and_assoc]
theorem plain_cells {v : AV} (h : plain v = true) : plainL v.cells = true := by
  cases v <;> simp_all [AV.cells, plainL, plain]
theorem plainL_flat : ∀ {es : List AV}, plainL es = true → plainL (es.flatMap AV.cells) = true
  | [], _ => by simp [plainL]
  | e :: es, h => by
    simp only [plainL, Bool.and_eq_true] at h
    simp only [List.flatMap_cons, plainL_app, Bool.and_eq_true]
    exact ⟨plain_cells h.1, plainL_flat h.2⟩

/-- What is own of these numbers, frozen for a while. -/
noncomputable def lend (hi : Inv φ m g w) (is : List Nat) : FM := φ.grow (fun b =>
  open Classical in if ∃ i ∈ is, ∃ ob l, g i = some ob ∧ m i = some l ∧ ob.fp l b then w.heap[b]? else φ b) (by
  intro b o h
  split
  · exact hi.fz b o h
  · exact h)
theorem lend_eq (hi : Inv φ m g w) (is : List Nat) (b : Nat) : lend hi is b = open Classical in if ∃ i ∈ is, ∃ ob l, g i = some ob ∧ m i = some l ∧ ob.fp l b then w.heap[b]? else φ b := rfl

theorem lend_le (hi : Inv φ m g w) (is : List Nat) : φ.le (lend hi is) := by
  intro b o h
  rw [lend_eq]
  split
  · exact hi.fz b o h
  · exact h

theorem lend_fz (hi : Inv φ m g w) (is : List Nat) : ∀ b o, lend hi is b = some o → w.heap[b]? = some o := by
  intro b o h
  rw [lend_eq] at h
  split at h
  · exact h
  · exact hi.fz b o h

theorem lend_cov (hi : Inv φ m g w) (is : List Nat) : Cov (lend hi is) m g w is := by
  intro i hi' ob l h1 h2 b h3
  rw [lend_eq]
  rw [if_pos ⟨i, hi', ob, l, h1, h2, h3⟩]

theorem lend_mem (hi : Inv φ m g w) {is : List Nat} {id : Nat} {cs : List AV} {l : Loc} (h1 : g id = some (.box cs)) (h2 : m id = some l) (h3 : lend hi is l.blk = w.heap[l.blk]?) : id ∈ is := by
  obtain ⟨l', hm, hr⟩ := hi.own id _ h1
  rw [h2] at hm; cases hm
  obtain ⟨_, a2, a3, _, a, t, a5, _⟩ := hr.box cs rfl
  rw [lend_eq] at h3
  split at h3
  · rename_i hq
    obtain ⟨i, hi', ob, l', k1, k2, k3⟩ := hq
    by_cases e : i = id
    · rw [← e]; exact hi'
    · exact (hi.sep i id ob _ l' l _ k1 h1 k2 h2 e k3 ⟨a2.2, rfl⟩).elim
  · rw [a3, a5] at h3; cases h3

theorem lend_box (hi : Inv φ m g w) {is : List Nat} (hg : ∀ i ∈ is, g i = gi i) (hc : ∀ i ∈ is, ∀ ob, g i = some ob → ∀ j ∈ ob.ids, j ∈ is) : ∀ (d : Nat),
    ∀ id cs cs' l, g id = some (.box cs) → m id = some l → lend hi is l.blk = w.heap[l.blk]? → bxD gi d cs = some cs' → VRC (lend hi is) cs' l.blk 0
  | 0, _, _, _, _, _, _, _, h => by simp [bxD] at h
  | d + 1, id, cs, cs', l, h1, h2, h3, h => by
    simp only [bxD] at h
    have hid := lend_mem hi h1 h2 h3
    obtain ⟨l', hm, hr⟩ := hi.own id _ h1
    rw [h2] at hm; cases hm
    obtain ⟨_, a2, a3, a4, a, t, a5, a6⟩ := hr.box cs rfl
    have hsub : ∀ i ∈ idsL cs, i ∈ is := fun i hi' => hc id hid _ h1 i hi'
    have := frzWL_sound hi (lend_le hi is) (bxD gi d) (lend_box hi hg hc d) cs h (fun i hi' => hg i (hsub i hi')) (fun i hi' => lend_cov hi is i (hsub i hi')) a6
    refine VRC_of this (frzWL_one h a4) fun j v hj => ?_
    unfold FM.cell
    rw [h3, a5]
    simpa using hj

theorem inv_same (hi : Inv φ m g w) (hh : ∀ b, b < w.heap.size → w'.heap[b]? = w.heap[b]?) : Inv φ m g w' := by
  refine ⟨fun b o h => ?_, fun id ob h => ?_, hi.sep⟩
  · have := hi.fz b o h
    rw [hh b (Array.getElem?_eq_some_iff.1 this).1]; exact this
  · obtain ⟨l, hm, hr⟩ := hi.own id ob h
    exact ⟨l, hm, hr.mono (FM.le_refl _) (Ext.refl _) (fun b h1 => hh _ (hi.ltB h hm h1)) (fun _ _ => rfl)⟩

theorem none_le {φ φ' : FM} (h : φ.le φ') {b : Nat} (k : φ' b = none) : φ b = none := by
  cases hq : φ b with
  | none => rfl
  | some o => have := h b o hq; rw [k] at this; cases this

/-- Plain objects say nothing of frozen memory. -/
theorem inv_plain {φ φ' : FM} {mc : LM} {obs : List Ob} (hle : φ.le φ') (hfz : ∀ b o, φ b = some o → w'.heap[b]? = some o) (hp : obs.all Ob.plain = true)
    (hi : Inv φ' mc (fun k => obs[k]?) w') : Inv φ mc (fun k => obs[k]?) w' := by
  refine ⟨hfz, fun id ob h => ?_, hi.sep⟩
  obtain ⟨l, hm, hr⟩ := hi.own id ob h
  have hpo : ob.plain = true := List.all_eq_true.1 hp ob (List.mem_of_getElem? h)
  refine ⟨l, hm, hr.top, fun cs e => ?_, fun esz es ro e => ?_, ?_⟩
  rotate_right 1
  · cases ob with
    | bld t c =>
      obtain ⟨a1, a2, a3, a4, v0, v1, a5, a6, a7⟩ := hr.oth
      exact ⟨a1, a2, none_le hle a3, a4, v0, v1, a5, a6, plain_any c hpo a7⟩
    | nar esz es zs =>
      obtain ⟨a1, a2, a3, a4, a5, vs, F, a6, a7, a8⟩ := hr.oth
      refine ⟨a1, a2, a3, a4, fun b hb => ⟨none_le hle (a5 b hb).1, (a5 b hb).2⟩, vs, F, ⟨a6.1, fun i c v hc hv => ?_, a6.2.2⟩, a7, a8.imp (fun h => h) ?_⟩
      · rcases a6.2.1 i c v hc hv with ⟨h1, h2, h3⟩ | h
        · exact .inl ⟨h1, plain_any c h1 h2, h3⟩
        · exact .inr h
      · rintro ⟨a, t, c1, c2, c3, c4⟩
        exact ⟨a, t, c1, c2, none_le hle c3, c4⟩
    | _ => exact hr.oth
  · subst e
    obtain ⟨a1, a2, a3, a4, a, t, a5, a6⟩ := hr.box cs rfl
    exact ⟨a1, a2, none_le hle a3, a4, a, t, a5, plainL_any cs hpo a6⟩
  · subst e
    simp only [Ob.plain, Bool.and_eq_true, Bool.not_eq_true'] at hpo
    obtain ⟨hro, hpe⟩ := hpo
    subst hro
    obtain ⟨a1, a2, a3, a4, a5⟩ := hr.arr esz es false rfl
    refine ⟨a1, a2, a3, a4, a5.imp (fun h => h) ?_⟩
    rintro ⟨a, t, b1, b2, b3, b4⟩
    exact ⟨a, t, b1, b2, none_le hle b3, plainL_any _ (plainL_flat hpe) b4⟩

theorem Inv.none (hi : Inv φ m g w) : Inv φ LM.none (fun k => ([] : List Ob)[k]?) w := ⟨hi.fz, fun i ob h => by simp at h, fun i i' ob ob' l l' b h => by simp at h⟩

theorem call_sound {cl : Cl} {E : FuncId → Md} {f : FuncId} {args : List AV} {cargs : Array Value} {nx : Nat} {e : Eff}
    (h : callV cl E f args gi nx = some e) (hcl : ClS' P cl) (hg : ∀ j ∈ e.rd, g j = gi j) (hinv : Inv φ m g w) (hv : VRL φ m args cargs.toList)
    (hf : ∀ i, nx ≤ i → i < e.nx → g i = none ∧ m i = none) :
    Bodied P f ∧ Calls P f cargs w fun ee w' => ∃ cv, ee = .returned cv ∧ Post φ m g w e cv w' := by
  unfold callV at h
  simp only at h
  generalize hisd : clo gi 3 (addTo [] (idsL args)) = is at h
  have hnd : is.Nodup := by rw [← hisd]; exact nodup_clo _ _ _ (nodup_addTo _ _ (by simp))
  have hin : ∀ i ∈ idsL args, i ∈ is := fun i hi => by rw [← hisd]; exact mem_clo _ _ _ _ (ids_mem.2 hi)
  split at h
  · cases h
  rename_i hcd
  simp only [Bool.not_eq_true, Bool.not_eq_false'] at hcd
  split at h
  · -- what is own is handed over
    split at h
    · cases h
    rename_i sub hsub
    split at h
    · cases h
    rename_i v obs' hc
    simp only [Option.some.injEq] at h; subst h
    obtain ⟨hb, hok⟩ := hcl _ _ _ _ _ hc
    refine ⟨hb, ?_⟩
    obtain ⟨s1, s2⟩ := outOf_get hsub
    have s3 : ∀ (k i : Nat), is[k]? = some i → ∃ ob, sub[k]? = some ob ∧ g i = some ob := fun k i hk => by
      obtain ⟨ob, h1, h2⟩ := s2 k i hk
      exact ⟨ob, h1, by rw [hg i (List.mem_of_getElem? hk), h2]⟩
    have hcl2 : ∀ i ∈ is, ∀ ob, g i = some ob → ∀ j ∈ ob.ids, j ∈ is := fun i hi ob h1 j hj => closed_mem hcd hi (by rw [← hg i hi]; exact h1) hj
    have hsubI := inv_sub hinv hnd s1 s3 hcl2
    have hargs : VRL φ (subM m is) (renL (ixOf is) args) cargs.toList := renL_VRL args (fun i hi l hl => by unfold subM; rw [ixOf_get (hin i hi)]; exact hl) hv
    refine (hok φ (subM m is) w cargs hargs hsubI (fun i hi => ?_)).mono fun ee w' => ?_
    · unfold subM
      rw [List.getElem?_eq_none (by simpa [s1] using hi)]
    · rintro ⟨cv, rfl, φ', m', h1, h2, h3, h4, h5⟩
      have h5' : is.length ≤ obs'.length := by simpa [s1] using h5
      simp only [List.length_map] at hf
      obtain ⟨m2, p1, p2, p3, p4⟩ := merge hinv hnd s1 s3 hf h5' h4 h2 h3 h1
      exact ⟨cv, rfl, φ', m2, p1, p2, p3, by simpa using p4⟩
  · split at h
    · cases h
    rename_i args' hfz
    split at h
    · cases h
    rename_i v obs' hc
    obtain ⟨hb, hok⟩ := hcl _ _ _ _ _ hc
    refine ⟨hb, ?_⟩
    split at h
    · cases h
    rename_i ro hro
    simp only [Option.some.injEq] at h; subst h
    simp only at hg hf
    have sim : (fun i => if i < ([] : List Nat).length then ([] : List Nat).getD i 0 else nx + (i - ([] : List Nat).length)) = (nx + ·) := by funext i; simp
    -- the callee has no own objects; what it hands back comes in
    have fin : ∀ {φ1 : FM} {g1 : Nat → Option Ob} (_ : Inv φ1 m g1 w) (_ : VRL φ1 LM.none args' cargs.toList) (_ : ∀ i, nx ≤ i → i < nx + obs'.length → g1 i = none ∧ m i = none),
        Calls P f cargs w fun ee w' => ∃ cv, ee = .returned cv ∧ ∃ φ' m', VR φ' m' (ren (nx + ·) v) cv ∧ Inv φ' m' (upd g1 (zipAt nx (obs'.map (Ob.ren (nx + ·))))) w' ∧ Fr φ1 m g1 w φ' m' (upd g1 (zipAt nx (obs'.map (Ob.ren (nx + ·))))) w' ∧ ∀ i, (nx + obs'.length ≤ i ∨ lkp (zipAt nx (obs'.map (Ob.ren (nx + ·)))) i = none) → m i = none → m' i = none := by
      intro φ1 g1 i1 a1 fr1
      refine (hok φ1 LM.none w cargs a1 i1.none (fun _ _ => rfl)).mono fun ee w' => ?_
      rintro ⟨cv, rfl, φ', m', h1, h2, h3, h4, h5⟩
      have e0 : subM m [] = LM.none := by funext i; simp [subM, LM.none]
      obtain ⟨m2, p1, p2, p3, p4⟩ := merge (obs := []) (js := []) i1 (by simp) rfl (by simp) (by simpa using fr1) (by simp) h4 h2 (by rw [e0]; exact h3) h1
      rw [sim] at p1 p2 p3
      simp only [zipTo, List.nil_append, List.length_nil, List.drop_zero] at p2 p3
      rw [sim] at p4
      simp only [zipTo, List.nil_append, List.length_nil, List.drop_zero, Nat.sub_zero] at p4
      exact ⟨cv, rfl, φ', m2, p1, p2, p3, p4⟩
    split at hro
    · rename_i hcond
      simp only [Option.some.injEq] at hro; subst hro
      simp only [List.append_nil] at hf ⊢
      by_cases he : is = []
      · -- nothing own among the arguments
        have hids : ∀ i, i ∉ idsL args := fun i hi => by have := hin i hi; rw [he] at this; simp at this
        have ha : VRL φ LM.none args' cargs.toList := frzWL_sound (φ2 := φ) hinv (FM.le_refl _) (bxD gi 3) (no_box hinv _) args hfz (fun i hi => absurd hi (hids i)) (fun i hi => absurd hi (hids i)) hv
        refine (fin hinv ha hf).mono fun ee w' => ?_
        rintro ⟨cv, rfl, φ', m', h1, h2, h3, h4⟩
        exact ⟨cv, rfl, φ', m', h1, h2, h3, h4⟩
      · -- the result is plain: what was lent comes back as it was
        have hpl : plain v = true ∧ obs'.all Ob.plain = true := by
          simp only [Bool.or_eq_true, List.isEmpty_iff, Bool.and_eq_true] at hcond
          obtain ⟨q1, q2⟩ := hcond.resolve_left he
          refine ⟨q1, ?_⟩
          rcases q2 with q2 | q2
          · subst q2; rfl
          · exact q2.2
        obtain ⟨hpv, hpo⟩ := hpl
        have hcl2 : ∀ i ∈ is, ∀ ob, g i = some ob → ∀ j ∈ ob.ids, j ∈ is := fun i hi ob h1 j hj => closed_mem hcd hi (by rw [← hg i hi]; exact h1) hj
        have ha : VRL (lend hinv is) LM.none args' cargs.toList := frzWL_sound hinv (lend_le hinv is) (bxD gi 3) (lend_box hinv hg hcl2 3) args hfz (fun i hi => hg i (hin i hi))
          (fun i hi => lend_cov hinv is i (hin i hi)) hv
        have i1 : Inv (lend hinv is) LM.none (fun k => ([] : List Ob)[k]?) w := ⟨lend_fz hinv is, fun i ob h => by simp at h, fun i i' ob ob' l l' b h => by simp at h⟩
        refine (hok _ LM.none w cargs ha i1 (fun _ _ => rfl)).mono fun ee w' => ?_
        rintro ⟨cv, rfl, φ', m', h1, h2, h3, h4, h5⟩
        have hsame : ∀ b, b < w.heap.size → w'.heap[b]? = w.heap[b]? := fun b hb => h3.old b hb (by rintro ⟨i, ob, l, k, _⟩; simp at k)
        have hle : φ.le φ' := (lend_le hinv is).trans h3.φle
        have h2' : Inv φ m' (fun k => obs'[k]?) w' := inv_plain hle (fun b o h => by
          have := hinv.fz b o h
          rw [hsame b (Array.getElem?_eq_some_iff.1 this).1]; exact this) hpo h2
        have h3' : Fr φ LM.none (fun k => ([] : List Ob)[k]?) w φ m' (fun k => obs'[k]?) w' := ⟨FM.le_refl _, h3.ext, h3.os, h3.tape, h3.output, h3.size, h3.old, fun b o h => .inl h, h3.newm⟩
        have e0 : subM m [] = LM.none := by funext i; simp [subM, LM.none]
        obtain ⟨m2, p1, p2, p3, p4⟩ := merge (obs := []) (js := []) hinv (by simp) rfl (by simp) (by simpa using hf) (by simp) h4 h2' (by rw [e0]; exact h3') (plain_any v hpv h1)
        rw [sim] at p1 p2 p3
        simp only [zipTo, List.nil_append, List.length_nil, List.drop_zero] at p2 p3
        rw [sim] at p4
        simp only [zipTo, List.nil_append, List.length_nil, List.drop_zero, Nat.sub_zero] at p4
        exact ⟨cv, rfl, φ, m2, p1, p2, p3, p4⟩
    · obtain ⟨φ1, i1, f1, c1, n1, s1, t1⟩ := ro_sound hro hg hinv hnd
      have hcov : Cov φ1 m g w (idsL args) := by
        intro i hi' ob l h1 h2 b h3
        exact c1 i (hin i hi') _ l h1 h2 b h3
      have ha : VRL φ1 LM.none args' cargs.toList := frzWL_sound hinv f1.φle (bxD gi 3) (fun id cs cs' l h1 h2 h3 _ => by
          have h4 : upd g ro id = some (.box cs) := by
            rcases t1 id _ h1 with h | ⟨_, _, _, h, _⟩ | ⟨_, _, _, h, _⟩
            · exact h
            · cases h
            · cases h
          exact no_box i1 (fun _ => some cs') id cs cs' l h4 h2 h3 rfl) args hfz (fun i hi => hg i (hin i hi)) hcov hv
      refine (fin i1 ha (fun i h1 h2 => ⟨?_, (hf i h1 h2).2⟩)).mono fun ee w' => ?_
      · cases hq : upd g ro i with
        | none => rfl
        | some ob =>
          obtain ⟨ob', h3, _⟩ := s1 i ob hq
          rw [(hf i h1 h2).1] at h3; cases h3
      · rintro ⟨cv, rfl, φ', m', h1, h2, h3, h4⟩
        refine ⟨cv, rfl, φ', m', h1, ?_, ?_, fun i hi => h4 i (hi.imp id fun h => ?_)⟩
        · rw [upd_append]; exact h2
        · rw [upd_append]; exact f1.trans h3
        · rw [lkp_append] at h
          cases hq : lkp (zipAt nx (obs'.map (Ob.ren (nx + ·)))) i with
          | none => rfl
          | some o => rw [hq] at h; cases h
end
end Go.Proofs.YtapchldnmkfkoabDoor.Am
namespace Go.Proofs.YtapchldnmkfkoabDoor.Am
open Go

variable {P : Program}

/-! ## Operations with calls -/
section
variable {φ : FM} {m : LM} {g gi : Nat → Option Ob} {w w' : World}

theorem op_all {cl : Cl} {E : FuncId → Md} {o : Oper} {ρ : Operand → AV} {nx : Nat} {e : Eff} {a : Act} {next : Act → World → Prop} {Q : Exit → Act → World → Prop}
    (hcl : ClS' P cl) (h : opv P cl E o.op ρ gi nx = some e) (hg : ∀ j ∈ e.rd, g j = gi j) (hinv : Inv φ m g w) (hρ : ∀ x, VR φ m (ρ x) (a.eval x))
    (hf : ∀ i, nx ≤ i → i < e.nx → g i = none ∧ m i = none) (k : ∀ cv w', Post φ m g w e cv w' → next (a.put o.dst cv) w') : o.wp P a w next Q := by
  by_cases hn : opn o.op = true
  · exact op_sound hn h hg hinv hρ hf k
  · unfold opn at hn
    split at hn
    · rename_i f args tys ho
      rw [ho] at h
      simp only [opv] at h
      split at h
      · rename_i f' first cap hfv
        have hx := hρ f
        rw [hfv] at hx
        simp only [VR] at hx
        obtain ⟨fv, cw, he, h1, h2⟩ := hx
        have hargs : VRL φ m (first ++ args.toList.map ρ ++ cap) ((fv ++ args.map a.eval) ++ cw).toList := by
          simp only [Array.toList_append, Array.toList_map]
          exact VRL_append (VRL_append h1 (VRL_map hρ _)) h2
        obtain ⟨⟨fn, b, hb1, hb2, hb3⟩, hcalls⟩ := call_sound h hcl hg hinv hargs hf
        have hrun : (execOp a.eval o).run P w = .ok (.enter f' ((fv ++ args.map a.eval) ++ cw)) w := by
          simp only [execOp, ho, resolve, he, Deferred.ofValue, pure_bind, invoke, callFunc, Sem.run_bind, run_program, Result.andThen_ok, hb1, hb3, hb2]
          rfl
        unfold Oper.wp
        rw [hrun]
        refine Calls.mono hcalls fun ee w' => ?_
        rintro ⟨cv, rfl, hp⟩
        exact k cv w' hp
      · cases h
    · exact absurd rfl hn
end

/-! ## Runs -/
structure St where
  tm : List (Nat × AV)
  hp : Hp
  nx : Nat

def rho (tm : Nat → AV) : Operand → AV
  | .tmp t => tm t
  | .const v => ofV v
  | .global _ => .any
  | .func f => .func (.func f) [] []

def St.ρ (s : St) : Operand → AV
  | .tmp t => lk s.tm t
  | .const v => ofV v
  | .global _ => .any
  | .func f => .func (.func f) [] []

theorem St.ρ_eq (s : St) : s.ρ = rho (lk s.tm) := by funext x; cases x <;> rfl

def putT (tm : List (Nat × AV)) (dst : Option Tmp) (v : AV) : List (Nat × AV) := match dst with
  | some d => (d, v) :: tm
  | none => tm

def gdA (ops : Array Oper) (o : Oper) (tm : Nat → AV) : Option Bool := match o.guard with
  | none => some true
  | some (j, want) => match (ops[j]?).bind (·.dst) with
    | some d => match tm d with
      | .bool b => some (b == want)
      | .tup [] => some false
      | _ => none
    | none => none

/-- One operation: what it gives, and what it does to the heap. -/
def stpE (P : Program) (cl : Cl) (E : FuncId → Md) (ops : Array Oper) (o : Oper) (s : St) : Option Eff :=
  match gdA ops o (lk s.tm) with
  | none => none
  | some false => some ⟨.tup [], [], [], s.nx⟩
  | some true => match opv P cl E o.op s.ρ (lkp s.hp) s.nx with
    | none => none
    | some e => if s.nx ≤ e.nx then some e else none

def aft (s : St) (o : Oper) (e : Eff) : St := ⟨putT s.tm o.dst e.v, e.wr ++ s.hp, e.nx⟩

def sq (P : Program) (cl : Cl) (E : FuncId → Md) (ops : Array Oper) : List Oper → St → Option St
  | [], s => some s
  | o :: os, s => match stpE P cl E ops o s with
    | none => none
    | some e => sq P cl E ops os (aft s o e)

/-- The states of a run, in order. -/
structure Rec where
  o : Oper
  s : St
  e : Eff

def dr (P : Program) (cl : Cl) (E : FuncId → Md) (ops : Array Oper) : List Oper → St → Option (St × List Rec)
  | [], s => some (s, [])
  | o :: os, s => match stpE P cl E ops o s with
    | none => none
    | some e => match dr P cl E ops os (aft s o e) with
      | none => none
      | some (s', rs) => some (s', ⟨o, s, e⟩ :: rs)

structure SR (P : Program) (n : Nat) (φ : FM) (m : LM) (s : St) (a : Act) (w : World) : Prop where
  sz : a.tmps.size = n
  vr : ∀ t, VR φ m (lk s.tm t) (a.tmps.getD t undef)
  inv : Inv φ m (lkp s.hp) w
  fr : ∀ i, s.nx ≤ i → m i = none
  df : a.defers = []

theorem put_df (a : Act) (dst : Option Tmp) (v : Value) : (a.put dst v).defers = a.defers := by cases dst <;> rfl

theorem rho_VR {φ : FM} {m : LM} {tm : Nat → AV} {a : Act} (h : ∀ t, VR φ m (tm t) (a.tmps.getD t undef)) : ∀ x, VR φ m (rho tm x) (a.eval x)
  | .tmp t => h t
  | .const v => ofV_VR φ m v
  | .global _ => by simp [rho, VR]
  | .func f => by simp [rho, VR, VRL, Act.eval]

theorem put_VR {φ φ' : FM} {m m' : LM} {tm : Nat → AV} {a : Act} {n : Nat} {dst : Option Tmp} {v : AV} {cv : Value} (hsz : a.tmps.size = n) (hd : ∀ d, dst = some d → d < n)
    (h : ∀ t, VR φ m (tm t) (a.tmps.getD t undef)) (hφ : φ.le φ') (hm : Ext m m') (hv : VR φ' m' v cv) :
    (a.put dst cv).tmps.size = n ∧ ∀ t, VR φ' m' (match dst with | some d => if d = t then v else tm t | none => tm t) ((a.put dst cv).tmps.getD t undef) := by
  cases dst with
  | none => exact ⟨hsz, fun t => VR.mono hφ _ hm (h t)⟩
  | some d =>
    refine ⟨by simpa [Act.put] using hsz, fun t => ?_⟩
    simp only [Act.put]
    by_cases e : d = t
    · subst e
      have : d < a.tmps.size := by rw [hsz]; exact hd d rfl
      simpa [this] using hv
    · have := VR.mono hφ (m' := m') _ hm (h t)
      simpa [e, Array.getElem?_setIfInBounds_ne e] using this

theorem lk_putT (tm : List (Nat × AV)) (dst : Option Tmp) (v : AV) (t : Nat) : lk (putT tm dst v) t = match dst with | some d => if d = t then v else lk tm t | none => lk tm t := by
  cases dst with
  | none => rfl
  | some d =>
    simp only [putT, lk, lkp]
    split <;> rfl

theorem yield_of {φ : FM} {m : LM} {tm : Nat → AV} {a : Act} {ops : Array Oper} {o : Oper} {b : Bool} (h : ∀ t, VR φ m (tm t) (a.tmps.getD t undef)) (hg : gdA ops o tm = some b) :
    Region.wanted o (yielded ops a.tmps) = b := by
  unfold gdA at hg
  unfold Region.wanted
  split at hg
  · rename_i h0; cases hg; rw [h0]
  · rename_i j want h0
    rw [h0]
    simp only
    split at hg
    · rename_i d hd
      split at hg
      · rename_i b' hb
        cases hg
        have := h d
        rw [hb] at this
        simp only [VR] at this
        have hq : a.tmps[d]? = some (.bool b') := by
          cases hx : a.tmps[d]? with
          | none => simp [Array.getD_eq_getD_getElem?, hx, undef] at this
          | some u => simp [Array.getD_eq_getD_getElem?, hx] at this; rw [this]
        unfold yielded
        rw [hd]
        simp [hq]
      · rename_i hb
        cases hg
        have := h d
        rw [hb] at this
        simp only [VR, VRL] at this
        obtain ⟨q, hq, _⟩ := this
        unfold yielded
        rw [hd]
        simp only [Option.bind_some]
        cases hx : a.tmps[d]? with
        | none => rfl
        | some u =>
          simp [Array.getD_eq_getD_getElem?, hx] at hq
          rw [hq]; rfl
      · cases hg
    · cases hg

/-- One operation of a region, in a state that may lie at some other place of the region than the machine's own. -/
theorem stp_sound {cl : Cl} {E : FuncId → Md} {ops : Array Oper} {o : Oper} {i : Nat} {s : St} {e : Eff} {n : Nat} {φ : FM} {m : LM} {tm : Nat → AV} {g : Nat → Option Ob} {a : Act} {w : World}
    {K : Act → World → Prop} {Q : Exit → Act → World → Prop} (hcl : ClS' P cl) (ho : ops[i]? = some o) (h : stpE P cl E ops o s = some e)
    (hgd : gdA ops o tm = gdA ops o (lk s.tm)) (hop : opv P cl E o.op (rho tm) (lkp s.hp) s.nx = opv P cl E o.op s.ρ (lkp s.hp) s.nx)
    (hg : ∀ j ∈ e.rd, g j = lkp s.hp j) (hsz : a.tmps.size = n) (hd : ∀ d, o.dst = some d → d < n) (hv : ∀ t, VR φ m (tm t) (a.tmps.getD t undef)) (hinv : Inv φ m g w)
    (hf : ∀ i, s.nx ≤ i → i < e.nx → g i = none ∧ m i = none)
    (k : ∀ cv w', Post φ m g w e cv w' → K (a.put o.dst cv) w') : wpOp P ops Q i K a w := by
  unfold wpOp
  rw [ho]
  simp only
  unfold stpE at h
  split at h
  · cases h
  · rename_i hgd'
    simp only [Option.some.injEq] at h; subst h
    rw [yield_of hv (hgd.trans hgd')]
    simp only [Bool.false_eq_true, if_false]
    exact k undef w ⟨φ, m, by simp [VR, VRL, undef], by rw [upd_nil]; exact hinv, by rw [upd_nil]; exact Fr.refl .., fun _ _ h => h⟩
  · rename_i hgd'
    rw [yield_of hv (hgd.trans hgd')]
    simp only [if_true]
    split at h
    · cases h
    · rename_i e' he
      split at h
      · simp only [Option.some.injEq] at h; subst h
        exact .inl (op_all hcl (hop.trans he) hg hinv (rho_VR hv) hf k)
      · cases h

theorem aft_hp (s : St) (o : Oper) (e : Eff) : lkp (aft s o e).hp = upd (lkp s.hp) e.wr := by
  funext i
  simp only [aft, lkp_append, upd]
  try (cases lkp e.wr i <;> rfl)

theorem stpE_nx {cl : Cl} {E : FuncId → Md} {ops : Array Oper} {o : Oper} {s : St} {e : Eff} (h : stpE P cl E ops o s = some e) : s.nx ≤ e.nx := by
  unfold stpE at h
  split at h
  · cases h
  · cases h; exact Nat.le_refl _
  · split at h
    · cases h
    · split at h
      · rename_i hle; cases h; exact hle
      · cases h

theorem Inv.free {φ : FM} {m : LM} {g : Nat → Option Ob} {w : World} (h : Inv φ m g w) {i : Nat} (hm : m i = Option.none) : g i = Option.none := by
  cases hg : g i with
  | none => rfl
  | some ob => obtain ⟨l, h1, _⟩ := h.own i ob hg; rw [hm] at h1; cases h1

/-- A state, and where it came from. -/
def Rel (P : Program) (n : Nat) (φ0 : FM) (m0 : LM) (g0 : Nat → Option Ob) (w0 : World) (s : St) (a : Act) (w : World) : Prop :=
  ∃ φ m, SR P n φ m s a w ∧ Fr φ0 m0 g0 w0 φ m (lkp s.hp) w

theorem rel_step {n : Nat} {φ0 : FM} {m0 : LM} {g0 : Nat → Option Ob} {w0 : World} {s : St} {a : Act} {w : World} {φ : FM} {m : LM} {o : Oper} {e : Eff} {cv : Value} {w' : World}
    (h : SR P n φ m s a w) (hF : Fr φ0 m0 g0 w0 φ m (lkp s.hp) w) (hd : ∀ d, o.dst = some d → d < n) (hnx : s.nx ≤ e.nx) (hp : Post φ m (lkp s.hp) w e cv w') :
    Rel P n φ0 m0 g0 w0 (aft s o e) (a.put o.dst cv) w' := by
  obtain ⟨φ', m', p1, p2, p3, p4⟩ := hp
  obtain ⟨q1, q2⟩ := put_VR h.sz hd h.vr p3.φle p3.ext p1
  refine ⟨φ', m', ⟨q1, fun t => ?_, by rw [aft_hp]; exact p2, fun i hi => p4 i (.inl hi) (h.fr i (Nat.le_trans hnx hi)), by rw [put_df]; exact h.df⟩, by rw [aft_hp]; exact hF.trans p3⟩
  show VR φ' m' (lk (putT s.tm o.dst e.v) t) _
  rw [lk_putT]; exact q2 t

theorem sq_sound {cl : Cl} {E : FuncId → Md} {ops : Array Oper} {n : Nat} {φ0 : FM} {m0 : LM} {g0 : Nat → Option Ob} {w0 : World} {Q : Exit → Act → World → Prop} (hcl : ClS' P cl)
    (hd : ∀ o ∈ ops.toList, ∀ d, o.dst = some d → d < n) : ∀ (os : List Oper) (k : Nat) {s s' : St} {a : Act} {w : World}, ops.toList.drop k = os → sq P cl E ops os s = some s' →
    Rel P n φ0 m0 g0 w0 s a w → (∀ a w, Rel P n φ0 m0 g0 w0 s' a w → Q .normal a w) → wpOps P ops Q (List.range' k os.length) a w
  | [], k, s, s', a, w, _, h, hr, hq => by
    simp only [sq, Option.some.injEq] at h; subst h
    simpa [wpOps] using hq a w hr
  | o :: os, k, s, s', a, w, hk, h, hr, hq => by
    simp only [sq] at h
    split at h
    · cases h
    rename_i e he
    have hko : ops.toList[k]? = some o := by
      have : (ops.toList.drop k)[0]? = some o := by rw [hk]; rfl
      simpa using this
    have hko' : ops[k]? = some o := by simpa using hko
    simp only [List.length_cons, List.range'_succ]
    rw [wpOps_cons]
    obtain ⟨φ, m, h1, h2⟩ := hr
    have hnx := stpE_nx he
    refine stp_sound hcl hko' he rfl (by rw [St.ρ_eq]) (fun _ _ => rfl) h1.sz (hd o (List.mem_of_getElem? hko)) h1.vr h1.inv (fun i hi _ => ⟨h1.inv.free (h1.fr i hi), h1.fr i hi⟩) fun cv w' hp => ?_
    refine sq_sound hcl hd os (k + 1) ?_ h (rel_step h1 h2 (hd o (List.mem_of_getElem? hko)) hnx hp) hq
    rw [← List.drop_drop, hk]; rfl
end Go.Proofs.YtapchldnmkfkoabDoor.Am
namespace Go.Proofs.YtapchldnmkfkoabDoor.Am
open Go

variable {P : Program}

theorem map_congr' {α β : Type} {f g : α → β} {l : List α} (h : ∀ x ∈ l, f x = g x) : l.map f = l.map g := List.map_congr_left h

theorem opv_congr {cl : Cl} {E : FuncId → Md} {op : Op} {ρ ρ' : Operand → AV} {g : Nat → Option Ob} {nx : Nat} (h : ∀ x ∈ op.operands.toList, ρ x = ρ' x) : opv P cl E op ρ g nx = opv P cl E op ρ' g nx := by
  cases op with
  | call c =>
    have hargs : c.args.toList.map ρ = c.args.toList.map ρ' := map_congr' fun x hx => h x (by simp only [Op.operands, Call.operands, Array.toList_append, List.mem_append]; exact .inr hx)
    have hone : ∀ {x : Operand}, x ∈ c.args.toList → ρ x = ρ' x := fun hx => h _ (by simp only [Op.operands, Call.operands, Array.toList_append, List.mem_append]; exact .inr hx)
    simp only [opv]
    cases hc : c.callee with
    | value f =>
      have hf : ρ f = ρ' f := h f (by simp [Op.operands, Call.operands, hc])
      simp only [hf, hargs]
    | invoke r n => rfl
    | builtin b =>
      cases b <;> simp only
      all_goals
        split <;> simp_all
      all_goals (rw [map_congr' (f := ρ) (g := ρ') hone.2])
  | build t parts =>
    have : (parts.toList.map fun p => (p.1, ρ p.2)) = parts.toList.map fun p => (p.1, ρ' p.2) := map_congr' fun p hp => by
      rw [h p.2 (by simp only [Op.operands]; simpa using ⟨p.1, by simpa using hp⟩)]
    simp only [opv, this]
  | buildSlice t len parts =>
    have : (parts.toList.map fun p => (p.1, ρ p.2)) = parts.toList.map fun p => (p.1, ρ' p.2) := map_congr' fun p hp => by
      rw [h p.2 (by simp only [Op.operands]; simpa using ⟨p.1, by simpa using hp⟩)]
    have this2 : (parts.toList.map fun p => ρ p.2) = parts.toList.map fun p => ρ' p.2 := map_congr' fun p hp => by
      rw [h p.2 (by simp only [Op.operands]; simpa using ⟨p.1, by simpa using hp⟩)]
    simp only [opv, this, this2]
  | makeFunc fn first cap =>
    have h1 : first.toList.map ρ = first.toList.map ρ' := map_congr' fun x hx => h x (by simp only [Op.operands, Array.toList_append, List.mem_append]; exact .inl hx)
    have h2 : cap.toList.map ρ = cap.toList.map ρ' := map_congr' fun x hx => h x (by simp only [Op.operands, Array.toList_append, List.mem_append]; exact .inr hx)
    simp only [opv, h1, h2]
  | slice t x lo hi mx =>
    have h1 : lo.map ρ = lo.map ρ' := by cases lo with
      | none => rfl
      | some q => simp only [Option.map_some]; rw [h q (by simp [Op.operands])]
    have h2 : hi.map ρ = hi.map ρ' := by cases hi with
      | none => rfl
      | some q => simp only [Option.map_some]; rw [h q (by simp [Op.operands])]
    have h3 : mx.map ρ = mx.map ρ' := by cases mx with
      | none => rfl
      | some q => simp only [Option.map_some]; rw [h q (by simp [Op.operands])]
    have h4 : ρ x = ρ' x := h x (by simp [Op.operands])
    simp only [opv, h1, h2, h3, h4]
  | pick c a b => simp only [opv, h c (by simp [Op.operands]), h a (by simp [Op.operands]), h b (by simp [Op.operands])]
  | move x => simp only [opv, h x (by simp [Op.operands])]
  | assign x => simp only [opv, h x (by simp [Op.operands])]
  | alloc t => rfl
  | box t x => simp only [opv, h x (by simp [Op.operands])]
  | load t x => simp only [opv, h x (by simp [Op.operands])]
  | store t x y => simp only [opv, h x (by simp [Op.operands]), h y (by simp [Op.operands])]
  | nilCheck x => simp only [opv, h x (by simp [Op.operands])]
  | binOp op t x y t2 => simp only [opv, h x (by simp [Op.operands]), h y (by simp [Op.operands])]
  | unOp op t x => simp only [opv, h x (by simp [Op.operands])]
  | convert s d x => simp only [opv, h x (by simp [Op.operands])]
  | makeSlice t x y => simp only [opv, h x (by simp [Op.operands]), h y (by simp [Op.operands])]
  | fieldAddr s x f => simp only [opv, h x (by simp [Op.operands])]
  | field s x f => simp only [opv, h x (by simp [Op.operands])]
  | indexAddr t x y => simp only [opv, h x (by simp [Op.operands]), h y (by simp [Op.operands])]
  | index t x y => simp only [opv, h x (by simp [Op.operands]), h y (by simp [Op.operands])]
  | extract t i => simp only [opv, h t (by simp [Op.operands])]
  | _ => rfl

/-! ## What some of the writers of a row leave -/
section
variable {X V : Type}
def Fw (L : Nat → Bool) (W : Nat → X → Option V) (base : X → V) : Nat → X → V
  | 0, x => base x
  | k + 1, x => if L k then (match W k x with | some v => v | none => Fw L W base k x) else Fw L W base k x

theorem Fw_agree {L L' : Nat → Bool} {W : Nat → X → Option V} {base : X → V} {x : X} : ∀ {n : Nat}, (∀ k, k < n → W k x ≠ none → L k = L' k) → Fw L W base n x = Fw L' W base n x
  | 0, _ => rfl
  | n + 1, h => by
    have ih := Fw_agree (n := n) (base := base) fun k hk => h k (by omega)
    simp only [Fw, ih]
    cases hw : W n x with
    | none => simp
    | some v => rw [h n (by omega) (by rw [hw]; simp)]

theorem Fw_lt {W : Nat → X → Option V} {base : X → V} {x : X} {i : Nat} : ∀ {n : Nat}, i ≤ n → Fw (fun k => decide (k < i)) W base n x = Fw (fun _ => true) W base i x
  | 0, h => by
    have : i = 0 := by omega
    subst this; rfl
  | n + 1, h => by
    by_cases e : i = n + 1
    · subst e
      refine Fw_agree fun k hk _ => ?_
      simp [hk]
    · simp only [Fw]
      rw [if_neg (by simp; omega)]
      exact Fw_lt (by omega)

theorem Fw_add {L : Nat → Bool} {W : Nat → X → Option V} {base : X → V} {x : X} {i : Nat} : ∀ {n : Nat}, i < n → L i = false → (∀ k, k < n → i < k → L k = true → W i x ≠ none → W k x = none) →
    Fw (fun k => L k || decide (k = i)) W base n x = match W i x with | some v => v | none => Fw L W base n x
  | 0, h, _, _ => by omega
  | n + 1, h, hL, hw => by
    by_cases e : n = i
    · subst e
      have : Fw (fun k => L k || decide (k = n)) W base n x = Fw L W base n x := Fw_agree fun k hk _ => by
        have : ¬ (k = n) := by omega
        simp [this]
      simp only [Fw, this]
      simp only [decide_true, Bool.or_true, if_true, hL, Bool.false_eq_true, if_false]
    · have ih := Fw_add (n := n) (base := base) (by omega) hL fun k hk => hw k (by omega)
      simp only [Fw, ih]
      have : decide (n = i) = false := by simpa using e
      rw [this, Bool.or_false]
      cases hl : L n with
      | false => simp
      | true =>
        simp only [if_true]
        cases hi : W i x with
        | none => rfl
        | some v =>
          have := hw n (by omega) (by omega) hl (by rw [hi]; simp)
          rw [this]
end

/-! ## Regions whose order is drawn -/
/-- The operations that stand ahead by an edge. -/
def dirs (o : Oper) : List Nat := o.after.toList.filterMap fun e => if Region.binds .any e then some e.on else none

/-- All that stand ahead, edge by edge. -/
def mkPre : List Oper → List (List Nat) → List (List Nat)
  | [], acc => acc
  | o :: os, acc => mkPre os (acc ++ [addTo [] (dirs o ++ (dirs o).flatMap fun k => acc.getD k [])])

def isPre (pr : List (List Nat)) (k i : Nat) : Bool := (pr.getD i []).contains k

def preOk (ops : List Oper) (pr : List (List Nat)) : Bool :=
  (List.range ops.length).all fun i => match ops[i]? with
    | some o => (dirs o).all (· < i) && (pr.getD i []).all fun k => (dirs o).contains k || (dirs o).any fun d => isPre pr k d
    | none => true

def lkd (dst : Option Tmp) (l : List Tmp) : Bool := match dst with
  | some d => l.contains d
  | none => false

/-- May two operations be turned, as far as slots go? -/
def apart (ops : Array Oper) (x y : Oper) : Bool := !lkd x.dst (y.looksAt ops) && !lkd y.dst (x.looksAt ops) && (match x.dst, y.dst with | some a, some b => a != b | _, _ => true)

def slotsOk (ops : Array Oper) (pr : List (List Nat)) : Bool :=
  (List.range ops.size).all fun i => (List.range i).all fun k => isPre pr k i || (match ops[k]?, ops[i]? with
    | some x, some y => apart ops x y
    | _, _ => true)

/-- The numbers that an operation asks for, and those that it writes. -/
def Rec.ids (r : Rec) : List Nat × List Nat := (r.e.rd, r.e.wr.map (·.1))

def disj (a b : List Nat) : Bool := a.all fun x => !b.contains x

def apartH (x y : List Nat × List Nat) : Bool := disj x.2 y.1 && disj x.2 y.2 && disj y.2 x.1

def heapOk (pr : List (List Nat)) (l : List (List Nat × List Nat)) : Bool :=
  (List.range l.length).all fun i => (List.range i).all fun k => isPre pr k i || (match l[k]?, l[i]? with
    | some x, some y => apartH x y
    | _, _ => true)

/-- What is new is written by whoever made it. -/
def newOk (r : Rec) : Bool := (List.range (r.e.nx - r.s.nx)).all fun j => (r.e.wr.map (·.1)).contains (r.s.nx + j)

def drA (P : Program) (cl : Cl) (E : FuncId → Md) (ops : Array Oper) (s : St) : Option St :=
  match dr P cl E ops ops.toList s with
  | none => none
  | some (s', rs) => if heapOk (mkPre ops.toList []) (rs.map Rec.ids) && rs.all newOk then some s' else none

theorem dr_recs {cl : Cl} {E : FuncId → Md} {ops : Array Oper} : ∀ {os : List Oper} {s s' : St} {rs : List Rec}, dr P cl E ops os s = some (s', rs) →
    rs.length = os.length ∧ (∀ (i : Nat) (r : Rec), rs[i]? = some r → os[i]? = some r.o ∧ stpE P cl E ops r.o r.s = some r.e ∧
      (rs[i + 1]? = none → s' = aft r.s r.o r.e) ∧ ∀ r', rs[i + 1]? = some r' → r'.s = aft r.s r.o r.e) ∧ (∀ r, rs[0]? = some r → r.s = s) ∧ (rs = [] → s' = s)
  | [], s, s', rs, h => by
    simp only [dr, Option.some.injEq, Prod.mk.injEq] at h
    obtain ⟨rfl, rfl⟩ := h
    simp
  | o :: os, s, s', rs, h => by
    simp only [dr] at h
    split at h
    · cases h
    rename_i e he
    split at h
    · cases h
    rename_i s2 rs2 hd
    simp only [Option.some.injEq, Prod.mk.injEq] at h
    obtain ⟨rfl, rfl⟩ := h
    obtain ⟨h1, h2, h3, h4⟩ := dr_recs hd
    refine ⟨by simp [h1], fun i r hr => ?_, fun r hr => by simp at hr; rw [← hr], fun hr => by cases hr⟩
    cases i with
    | zero =>
      simp at hr; subst hr
      refine ⟨rfl, he, fun hn => ?_, fun r' hr' => h3 r' (by simpa using hr')⟩
      have : rs2 = [] := by cases rs2 with
        | nil => rfl
        | cons _ _ => simp at hn
      exact h4 this
    | succ i =>
      have := h2 i r (by simpa using hr)
      exact ⟨by simpa using this.1, this.2.1, fun hn => this.2.2.1 (by simpa using hn), fun r' hr' => this.2.2.2 r' (by simpa using hr')⟩
end Go.Proofs.YtapchldnmkfkoabDoor.Am
namespace Go.Proofs.YtapchldnmkfkoabDoor.Am
open Go

variable {P : Program}

def WT (rs : List Rec) (k : Nat) (t : Nat) : Option AV := match rs[k]? with
  | some r => if r.o.dst = some t then some r.e.v else none
  | none => none
def WG (rs : List Rec) (k : Nat) (x : Nat) : Option (Option Ob) := match rs[k]? with
  | some r => (lkp r.e.wr x).map some
  | none => none

theorem WT_at {rs : List Rec} {i : Nat} {r : Rec} {tm0 : Nat → AV} {t : Nat} (hr : rs[i]? = some r) (h : Fw (fun _ => true) (WT rs) tm0 i t = lk r.s.tm t) :
    Fw (fun _ => true) (WT rs) tm0 (i + 1) t = lk (aft r.s r.o r.e).tm t := by
  simp only [Fw, if_true, WT, hr, h, aft, lk_putT]
  cases r.o.dst with
  | none => simp
  | some d => by_cases e : d = t <;> simp [e]

theorem WG_at {rs : List Rec} {i : Nat} {r : Rec} {g0 : Nat → Option Ob} {x : Nat} (hr : rs[i]? = some r) (h : Fw (fun _ => true) (WG rs) g0 i x = lkp r.s.hp x) :
    Fw (fun _ => true) (WG rs) g0 (i + 1) x = lkp (aft r.s r.o r.e).hp x := by
  simp only [Fw, if_true, WG, hr, h, aft, lkp_append]
  cases lkp r.e.wr x <;> rfl

section
variable {cl : Cl} {E : FuncId → Md} {ops : Array Oper} {s s' : St} {rs : List Rec}

theorem states (h : dr P cl E ops ops.toList s = some (s', rs)) : ∀ (i : Nat) (r : Rec), rs[i]? = some r →
    (∀ t, Fw (fun _ => true) (WT rs) (lk s.tm) i t = lk r.s.tm t) ∧ (∀ x, Fw (fun _ => true) (WG rs) (lkp s.hp) i x = lkp r.s.hp x) := by
  obtain ⟨h1, h2, h3, h4⟩ := dr_recs h
  intro i
  induction i with
  | zero =>
    intro r hr
    have := h3 r hr
    exact ⟨fun t => by rw [this]; rfl, fun x => by rw [this]; rfl⟩
  | succ i ih =>
    intro r hr
    have hi : i < rs.length := by have := (List.getElem?_eq_some_iff.1 hr).1; omega
    have hri : rs[i]? = some rs[i] := List.getElem?_eq_getElem hi
    obtain ⟨a1, a2⟩ := ih _ hri
    have := (h2 i _ hri).2.2.2 r hr
    exact ⟨fun t => by rw [WT_at hri (a1 t), this], fun x => by rw [WG_at hri (a2 x), this]⟩

theorem last_state (h : dr P cl E ops ops.toList s = some (s', rs)) : (∀ t, Fw (fun _ => true) (WT rs) (lk s.tm) ops.size t = lk s'.tm t) ∧ (∀ x, Fw (fun _ => true) (WG rs) (lkp s.hp) ops.size x = lkp s'.hp x) := by
  obtain ⟨h1, h2, h3, h4⟩ := dr_recs h
  have hs : ops.size = rs.length := by rw [h1]; simp
  rw [hs]
  cases hl : rs.length with
  | zero =>
    have : rs = [] := List.eq_nil_of_length_eq_zero hl
    have := h4 this
    rw [this]
    exact ⟨fun t => rfl, fun x => rfl⟩
  | succ k =>
    have hk : k < rs.length := by omega
    have hr : rs[k]? = some rs[k] := List.getElem?_eq_getElem hk
    obtain ⟨a1, a2⟩ := states h k _ hr
    have := (h2 k _ hr).2.2.1 (List.getElem?_eq_none (by omega))
    exact ⟨fun t => by rw [WT_at hr (a1 t), this], fun x => by rw [WG_at hr (a2 x), this]⟩

theorem nx_mono (h : dr P cl E ops ops.toList s = some (s', rs)) : ∀ (i k : Nat) (r r' : Rec), rs[i]? = some r → rs[k]? = some r' → i < k → r.e.nx ≤ r'.s.nx := by
  obtain ⟨h1, h2, h3, h4⟩ := dr_recs h
  intro i k
  induction k with
  | zero => intro r r' _ _ h; omega
  | succ k ih =>
    intro r r' hr hr' hik
    have hk : k < rs.length := by have := (List.getElem?_eq_some_iff.1 hr').1; omega
    have hrk : rs[k]? = some rs[k] := List.getElem?_eq_getElem hk
    have e1 := (h2 k _ hrk).2.2.2 r' hr'
    have e2 := stpE_nx (h2 k _ hrk).2.1
    rw [e1]
    show r.e.nx ≤ (rs[k]).e.nx
    by_cases e : i = k
    · subst e; rw [hr] at hrk; cases hrk; exact Nat.le_refl _
    · exact Nat.le_trans (ih r _ hr hrk (by omega)) e2

theorem nx_last (h : dr P cl E ops ops.toList s = some (s', rs)) : ∀ (i : Nat) (r : Rec), rs[i]? = some r → r.e.nx ≤ s'.nx := by
  obtain ⟨h1, h2, h3, h4⟩ := dr_recs h
  intro i r hr
  have hl : 0 < rs.length := by have := (List.getElem?_eq_some_iff.1 hr).1; omega
  have hk : rs.length - 1 < rs.length := by omega
  have hrk : rs[rs.length - 1]? = some rs[rs.length - 1] := List.getElem?_eq_getElem hk
  have e1 := (h2 _ _ hrk).2.2.1 (List.getElem?_eq_none (by omega))
  rw [e1]
  show r.e.nx ≤ (rs[rs.length - 1]).e.nx
  by_cases e : i = rs.length - 1
  · subst e; rw [hr] at hrk; cases hrk; exact Nat.le_refl _
  · have hlt := (List.getElem?_eq_some_iff.1 hr).1
    exact Nat.le_trans (nx_mono h i _ r _ hr hrk (by omega)) (stpE_nx (h2 _ _ hrk).2.1)

/-- Down to what stands ahead. -/
theorem pre_closed {pr : List (List Nat)} (hp : preOk ops.toList pr = true) {L : Nat → Bool} (hcl : ∀ (i : Nat) (o : Oper), L i = true → ops[i]? = some o → ∀ k ∈ dirs o, L k = true) :
    ∀ (b i : Nat) (o : Oper), i < b → ops[i]? = some o → (∀ k ∈ dirs o, L k = true) → ∀ k, isPre pr k i = true → L k = true
  | 0, i, _, h, _, _, _, _ => by omega
  | b + 1, i, o, hb, ho, hd, k, hk => by
    have hi : i < ops.size := (Array.getElem?_eq_some_iff.1 ho).1
    have := (List.all_eq_true.1 hp) i (by simpa using hi)
    have ho' : ops.toList[i]? = some o := by simpa using ho
    rw [ho'] at this
    simp only [Bool.and_eq_true] at this
    obtain ⟨q1, q2⟩ := this
    have hk' : k ∈ pr.getD i [] := by unfold isPre at hk; simpa using hk
    have := (List.all_eq_true.1 q2) k hk'
    simp only [Bool.or_eq_true, List.any_eq_true] at this
    rcases this with h | ⟨d, hd1, hd2⟩
    · exact hd k (by simpa using h)
    · have hdl := hd d hd1
      have hlt : d < i := by simpa using (List.all_eq_true.1 q1) d hd1
      have hdo : ops[d]? = some ops[d] := Array.getElem?_eq_getElem (by omega)
      exact pre_closed hp hcl b d _ (by omega) hdo (fun k hk => hcl d _ hdl hdo k hk) k hd2

theorem slots_at {pr : List (List Nat)} (h : slotsOk ops pr = true) {k i : Nat} {x y : Oper} (hki : k < i) (hx : ops[k]? = some x) (hy : ops[i]? = some y) : isPre pr k i = true ∨ apart ops x y = true := by
  have hi : i < ops.size := (Array.getElem?_eq_some_iff.1 hy).1
  have := (List.all_eq_true.1 h) i (by simpa using hi)
  have := (List.all_eq_true.1 this) k (by simpa using hki)
  rw [hx, hy] at this
  simpa using this

theorem heap_at {pr : List (List Nat)} {l : List (List Nat × List Nat)} (h : heapOk pr l = true) {k i : Nat} {x y : List Nat × List Nat} (hki : k < i) (hx : l[k]? = some x) (hy : l[i]? = some y) :
    isPre pr k i = true ∨ apartH x y = true := by
  have hi : i < l.length := (List.getElem?_eq_some_iff.1 hy).1
  have := (List.all_eq_true.1 h) i (by simpa using hi)
  have := (List.all_eq_true.1 this) k (by simpa using hki)
  rw [hx, hy] at this
  simpa using this

theorem apart_spec {x y : Oper} (h : apart ops x y = true) : (∀ d, x.dst = some d → d ∉ y.looksAt ops) ∧ (∀ d, y.dst = some d → d ∉ x.looksAt ops) ∧ (∀ d, x.dst = some d → y.dst ≠ some d) := by
  simp only [apart, Bool.and_eq_true, Bool.not_eq_true'] at h
  obtain ⟨⟨h1, h2⟩, h3⟩ := h
  refine ⟨fun d hd hm => ?_, fun d hd hm => ?_, fun d hd hm => ?_⟩
  · rw [hd] at h1; simp [lkd] at h1; exact h1 hm
  · rw [hd] at h2; simp [lkd] at h2; exact h2 hm
  · rw [hd, hm] at h3; simp at h3

theorem disj_spec {a b : List Nat} (h : disj a b = true) {x : Nat} (ha : x ∈ a) : x ∉ b := by
  have := (List.all_eq_true.1 h) x ha
  simpa using this

theorem lkp_mem {l : Hp} {x : Nat} : lkp l x ≠ none ↔ x ∈ l.map (·.1) := by
  induction l with
  | nil => simp [lkp]
  | cons a l ih =>
    obtain ⟨i, o⟩ := a
    simp only [lkp, List.map_cons, List.mem_cons]
    by_cases e : i = x
    · simp [e]
    · have : ¬ (x = i) := fun h => e h.symm
      simp [e, this, ih]
end
end Go.Proofs.YtapchldnmkfkoabDoor.Am
namespace Go.Proofs.YtapchldnmkfkoabDoor.Am
open Go

variable {P : Program}

section
variable {cl : Cl} {E : FuncId → Md} {ops : Array Oper} {s s' : St} {rs : List Rec} {pr : List (List Nat)}

/-- The order of two operations, when one writes what the other looks at. -/
structure Ctx (P : Program) (cl : Cl) (E : FuncId → Md) (ops : Array Oper) (s s' : St) (rs : List Rec) (pr : List (List Nat)) (n : Nat) : Prop where
  hcls : ClS' P cl
  hdr : dr P cl E ops ops.toList s = some (s', rs)
  pre : preOk ops.toList pr = true
  slots : slotsOk ops pr = true
  heap : heapOk pr (rs.map Rec.ids) = true
  new : rs.all newOk = true
  dst : ∀ o ∈ ops.toList, ∀ d, o.dst = some d → d < n

theorem rec_at (h : dr P cl E ops ops.toList s = some (s', rs)) {i : Nat} (hi : i < ops.size) : ∃ r, rs[i]? = some r ∧ ops[i]? = some r.o ∧ stpE P cl E ops r.o r.s = some r.e := by
  obtain ⟨h1, h2, _, _⟩ := dr_recs h
  have hl : i < rs.length := by rw [h1]; simpa using hi
  have hr : rs[i]? = some rs[i] := List.getElem?_eq_getElem hl
  obtain ⟨a1, a2, _⟩ := h2 i _ hr
  exact ⟨rs[i], hr, by simpa using a1, a2⟩

/-- Before operation i may run, those that have run and write what it looks at are just those ahead of it in the row. -/
theorem same_slot {n : Nat} (C : Ctx P cl E ops s s' rs pr n) {L : Nat → Bool} (hcl : ∀ (i : Nat) (o : Oper), L i = true → ops[i]? = some o → ∀ k ∈ dirs o, L k = true)
    {i : Nat} {r : Rec} (hr : rs[i]? = some r) (ho : ops[i]? = some r.o) (hL : L i = false) (hd : ∀ k ∈ dirs r.o, L k = true) {t : Nat} (ht : t ∈ r.o.looksAt ops) :
    Fw L (WT rs) (lk s.tm) ops.size t = lk r.s.tm t := by
  have hi : i < ops.size := (Array.getElem?_eq_some_iff.1 ho).1
  rw [← (states C.hdr i r hr).1 t, ← Fw_lt (W := WT rs) (base := lk s.tm) (x := t) (Nat.le_of_lt hi)]
  refine Fw_agree fun k hk hw => ?_
  obtain ⟨rk, h1, h2, h3⟩ := rec_at C.hdr hk
  have hdst : rk.o.dst = some t := by
    unfold WT at hw; rw [h1] at hw
    simp only at hw
    split at hw
    · assumption
    · exact absurd rfl hw
  rcases Nat.lt_trichotomy k i with h | h | h
  · simp only [h, decide_true]
    rcases slots_at C.slots h h2 ho with hp | hp
    · exact pre_closed C.pre hcl (i + 1) i r.o (by omega) ho hd k hp
    · exact absurd ht ((apart_spec hp).1 t hdst)
  · subst h; simp [hL]
  · have : ¬ k < i := by omega
    simp only [this, decide_false]
    cases hLk : L k with
    | false => rfl
    | true =>
      rcases slots_at C.slots h ho h2 with hp | hp
      · have := pre_closed C.pre hcl (k + 1) k rk.o (by omega) h2 (fun j hj => hcl k rk.o hLk h2 j hj) i hp
        rw [hL] at this; cases this
      · exact absurd ht ((apart_spec hp).2.1 t hdst)

theorem same_heap {n : Nat} (C : Ctx P cl E ops s s' rs pr n) {L : Nat → Bool} (hcl : ∀ (i : Nat) (o : Oper), L i = true → ops[i]? = some o → ∀ k ∈ dirs o, L k = true)
    {i : Nat} {r : Rec} (hr : rs[i]? = some r) (ho : ops[i]? = some r.o) (hL : L i = false) (hd : ∀ k ∈ dirs r.o, L k = true) {x : Nat} (hx : x ∈ r.e.rd) :
    Fw L (WG rs) (lkp s.hp) ops.size x = lkp r.s.hp x := by
  have hi : i < ops.size := (Array.getElem?_eq_some_iff.1 ho).1
  rw [← (states C.hdr i r hr).2 x, ← Fw_lt (W := WG rs) (base := lkp s.hp) (x := x) (Nat.le_of_lt hi)]
  refine Fw_agree fun k hk hw => ?_
  obtain ⟨rk, h1, h2, h3⟩ := rec_at C.hdr hk
  have hmem : x ∈ rk.e.wr.map (·.1) := by
    unfold WG at hw; rw [h1] at hw
    refine lkp_mem.1 fun h => hw ?_
    simp [h]
  have hri : (rs.map Rec.ids)[i]? = some r.ids := by simp [hr]
  have hrk : (rs.map Rec.ids)[k]? = some rk.ids := by simp [h1]
  rcases Nat.lt_trichotomy k i with h | h | h
  · simp only [h, decide_true]
    rcases heap_at C.heap h hrk hri with hp | hp
    · exact pre_closed C.pre hcl (i + 1) i r.o (by omega) ho hd k hp
    · simp only [apartH, Bool.and_eq_true] at hp
      exact absurd hx (disj_spec hp.1.1 hmem)
  · subst h; simp [hL]
  · have : ¬ k < i := by omega
    simp only [this, decide_false]
    cases hLk : L k with
    | false => rfl
    | true =>
      rcases heap_at C.heap h hri hrk with hp | hp
      · have := pre_closed C.pre hcl (k + 1) k rk.o (by omega) h2 (fun j hj => hcl k rk.o hLk h2 j hj) i hp
        rw [hL] at this; cases this
      · simp only [apartH, Bool.and_eq_true] at hp
        exact absurd hx (disj_spec hp.2 hmem)

/-- What has run behind i in the row has not written what i writes. -/
theorem late_slot {n : Nat} (C : Ctx P cl E ops s s' rs pr n) {L : Nat → Bool} (hcl : ∀ (i : Nat) (o : Oper), L i = true → ops[i]? = some o → ∀ k ∈ dirs o, L k = true)
    {i : Nat} {r : Rec} (hr : rs[i]? = some r) (ho : ops[i]? = some r.o) (hL : L i = false) {t k : Nat} (hk : k < ops.size) (hik : i < k) (hLk : L k = true) (hw : WT rs i t ≠ none) : WT rs k t = none := by
  obtain ⟨rk, h1, h2, h3⟩ := rec_at C.hdr hk
  unfold WT at hw ⊢
  rw [hr] at hw; rw [h1]
  simp only at hw ⊢
  split at hw
  · rename_i hd
    rw [if_neg]
    intro hd2
    rcases slots_at C.slots hik ho h2 with hp | hp
    · have := pre_closed C.pre hcl (k + 1) k rk.o (by omega) h2 (fun j hj => hcl k rk.o hLk h2 j hj) i hp
      rw [hL] at this; cases this
    · exact (apart_spec hp).2.2 t hd hd2
  · exact absurd rfl hw

theorem late_heap {n : Nat} (C : Ctx P cl E ops s s' rs pr n) {L : Nat → Bool} (hcl : ∀ (i : Nat) (o : Oper), L i = true → ops[i]? = some o → ∀ k ∈ dirs o, L k = true)
    {i : Nat} {r : Rec} (hr : rs[i]? = some r) (ho : ops[i]? = some r.o) (hL : L i = false) {x k : Nat} (hk : k < ops.size) (hik : i < k) (hLk : L k = true) (hw : WG rs i x ≠ none) : WG rs k x = none := by
  obtain ⟨rk, h1, h2, h3⟩ := rec_at C.hdr hk
  unfold WG at hw ⊢
  rw [hr] at hw; rw [h1]
  simp only at hw ⊢
  have hmem : x ∈ r.e.wr.map (·.1) := lkp_mem.1 fun h => hw (by simp [h])
  have hri : (rs.map Rec.ids)[i]? = some r.ids := by simp [hr]
  have hrk : (rs.map Rec.ids)[k]? = some rk.ids := by simp [h1]
  have : lkp rk.e.wr x = none := by
    cases hq : lkp rk.e.wr x with
    | none => rfl
    | some o =>
      have hm2 : x ∈ rk.e.wr.map (·.1) := lkp_mem.1 (by rw [hq]; simp)
      rcases heap_at C.heap hik hri hrk with hp | hp
      · have := pre_closed C.pre hcl (k + 1) k rk.o (by omega) h2 (fun j hj => hcl k rk.o hLk h2 j hj) i hp
        rw [hL] at this; cases this
      · simp only [apartH, Bool.and_eq_true] at hp
        exact absurd hm2 (disj_spec hp.1.2 hmem)
  simp [this]

theorem new_mem (h : rs.all newOk = true) {i : Nat} {r : Rec} (hr : rs[i]? = some r) {x : Nat} (h1 : r.s.nx ≤ x) (h2 : x < r.e.nx) : lkp r.e.wr x ≠ none := by
  have := (List.all_eq_true.1 h) r (List.mem_of_getElem? hr)
  have := (List.all_eq_true.1 this) (x - r.s.nx) (by simp; omega)
  rw [show r.s.nx + (x - r.s.nx) = x by omega] at this
  exact lkp_mem.2 (by simpa using this)

def cnt (listed : Array Bool) (n : Nat) : Nat := ((List.range n).filter fun k => !listed.getD k false).length

theorem filter_lt {α : Type} {p q : α → Bool} : ∀ {l : List α} {x : α}, x ∈ l → (∀ y, q y = true → p y = true) → p x = true → q x = false → (l.filter q).length < (l.filter p).length
  | [], x, h, _, _, _ => by simp at h
  | y :: l, x, h, hpq, hp, hq => by
    have hle : (l.filter q).length ≤ (l.filter p).length := by
      clear h
      induction l with
      | nil => simp
      | cons z l ih =>
        simp only [List.filter_cons]
        cases hz : q z with
        | true => rw [hpq z hz]; simpa using ih
        | false => cases p z <;> simp <;> omega
    rcases List.mem_cons.1 h with rfl | h
    · simp only [List.filter_cons, hp, hq]; simp; omega
    · have ih := filter_lt h hpq hp hq
      simp only [List.filter_cons]
      cases hy : q y with
      | true => rw [hpq y hy]; simpa using ih
      | false => cases p y <;> simp <;> omega

theorem getD_set {l : Array Bool} {i : Nat} (hi : i < l.size) (k : Nat) : (l.setIfInBounds i true).getD k false = (l.getD k false || decide (k = i)) := by
  by_cases e : k = i
  · subst e; simp [hi]
  · have : ¬ i = k := fun h => e h.symm
    simp [Array.getD_eq_getD_getElem?, Array.getElem?_setIfInBounds_ne this, e]

theorem ready_iff {listed : Array Bool} {i : Nat} (hs : listed.size = ops.size) : i ∈ Region.ready .any ops listed ↔ i < ops.size ∧ listed.getD i false = false ∧ ∀ o, ops[i]? = some o → ∀ k ∈ dirs o, listed.getD k false = true := by
  unfold Region.ready
  simp only [List.mem_filter, List.mem_range, Bool.and_eq_true, Bool.not_eq_true']
  constructor
  · rintro ⟨h1, h2, h3⟩
    refine ⟨h1, by simpa [hs, h1, Array.getD_eq_getD_getElem?] using h2, fun o ho k hk => ?_⟩
    rw [ho] at h3
    simp only [Option.map_some, Option.getD_some] at h3
    rw [← Array.all_toList] at h3
    obtain ⟨e, he, hb⟩ := List.mem_filterMap.1 hk
    split at hb
    · rename_i hbd
      cases hb
      have := (List.all_eq_true.1 h3) e he
      simpa [hbd] using this
    · cases hb
  · rintro ⟨h1, h2, h3⟩
    refine ⟨h1, by simpa [hs, h1, Array.getD_eq_getD_getElem?] using h2, ?_⟩
    have ho : ops[i]? = some ops[i] := Array.getElem?_eq_getElem h1
    rw [ho]
    simp only [Option.map_some, Option.getD_some]
    rw [← Array.all_toList, List.all_eq_true]
    intro e he
    cases hb : Region.binds .any e with
    | false => simp
    | true =>
      have := h3 _ ho e.on (List.mem_filterMap.2 ⟨e, he, by simp [hb]⟩)
      simpa using this

theorem all_listed (hp : preOk ops.toList pr = true) {listed : Array Bool} (hs : listed.size = ops.size) (h : Region.ready .any ops listed = []) : ∀ i, i < ops.size → listed.getD i false = true := by
  intro i
  induction i using Nat.strongRecOn with
  | _ i ih =>
    intro hi
    cases hl : listed.getD i false with
    | true => rfl
    | false =>
      have : i ∈ Region.ready .any ops listed := (ready_iff hs).2 ⟨hi, hl, fun o ho k hk => by
        have hq := (List.all_eq_true.1 hp) i (by simpa using hi)
        have ho' : ops.toList[i]? = some o := by simpa using ho
        rw [ho'] at hq
        simp only [Bool.and_eq_true] at hq
        have hlt : k < i := by simpa using (List.all_eq_true.1 hq.1) k hk
        exact ih k hlt (by omega)⟩
      rw [h] at this; simp at this

theorem dr_sound {n : Nat} (C : Ctx P cl E ops s s' rs pr n) {φ0 : FM} {m0 : LM} {g0 : Nat → Option Ob} {w0 : World} {Q : Exit → Act → World → Prop}
    (hq : ∀ a w, Rel P n φ0 m0 g0 w0 s' a w → Q .normal a w) : ∀ (fuel : Nat) (listed : Array Bool) (a : Act) (w : World), listed.size = ops.size → cnt listed ops.size ≤ fuel →
    (∀ (i : Nat) (o : Oper), listed.getD i false = true → ops[i]? = some o → ∀ k ∈ dirs o, listed.getD k false = true) →
    (∃ φ m, (a.tmps.size = n ∧ a.defers = []) ∧ (∀ t, VR φ m (Fw (fun i => listed.getD i false) (WT rs) (lk s.tm) ops.size t) (a.tmps.getD t undef)) ∧
      Inv φ m (fun x => Fw (fun i => listed.getD i false) (WG rs) (lkp s.hp) ops.size x) w ∧
      Fr φ0 m0 g0 w0 φ m (fun x => Fw (fun i => listed.getD i false) (WG rs) (lkp s.hp) ops.size x) w ∧
      (∀ (k : Nat) (r : Rec), rs[k]? = some r → listed.getD k false = false → ∀ x, r.s.nx ≤ x → x < r.e.nx → m x = none) ∧ ∀ x, s'.nx ≤ x → m x = none) →
    wpAny P .any ops Q fuel listed a w := by
  have fin : ∀ (listed : Array Bool) (a : Act) (w : World), listed.size = ops.size → Region.ready .any ops listed = [] →
      (∃ φ m, (a.tmps.size = n ∧ a.defers = []) ∧ (∀ t, VR φ m (Fw (fun i => listed.getD i false) (WT rs) (lk s.tm) ops.size t) (a.tmps.getD t undef)) ∧
      Inv φ m (fun x => Fw (fun i => listed.getD i false) (WG rs) (lkp s.hp) ops.size x) w ∧
      Fr φ0 m0 g0 w0 φ m (fun x => Fw (fun i => listed.getD i false) (WG rs) (lkp s.hp) ops.size x) w ∧
      (∀ (k : Nat) (r : Rec), rs[k]? = some r → listed.getD k false = false → ∀ x, r.s.nx ≤ x → x < r.e.nx → m x = none) ∧ ∀ x, s'.nx ≤ x → m x = none) → Q .normal a w := by
    intro listed a w hs hr ⟨φ, m, h1, h2, h3, h4, h5, h6⟩
    have hall := all_listed C.pre hs hr
    have e1 : ∀ t, Fw (fun i => listed.getD i false) (WT rs) (lk s.tm) ops.size t = lk s'.tm t := fun t => by
      rw [← (last_state C.hdr).1 t]; exact Fw_agree fun k hk _ => hall k hk
    have e2 : (fun x => Fw (fun i => listed.getD i false) (WG rs) (lkp s.hp) ops.size x) = lkp s'.hp := by
      funext x
      rw [← (last_state C.hdr).2 x]; exact Fw_agree fun k hk _ => hall k hk
    rw [e2] at h3 h4
    exact hq a w ⟨φ, m, ⟨h1.1, fun t => by rw [← e1 t]; exact h2 t, h3, h6, h1.2⟩, h4⟩
  intro fuel
  induction fuel with
  | zero =>
    intro listed a w hs hc hcl hJ
    have hr : Region.ready .any ops listed = [] := by
      cases hq : Region.ready .any ops listed with
      | nil => rfl
      | cons i l =>
        have hi : i ∈ Region.ready .any ops listed := by rw [hq]; simp
        obtain ⟨h1, h2, _⟩ := (ready_iff hs).1 hi
        have : i ∈ (List.range ops.size).filter fun k => !listed.getD k false := List.mem_filter.2 ⟨List.mem_range.2 h1, by rw [h2]; rfl⟩
        have hlen := List.length_pos_of_mem this
        unfold cnt at hc; omega
    exact ⟨hr, fin listed a w hs hr hJ⟩
  | succ fuel ih =>
    intro listed a w hs hc hcl hJ
    refine ⟨fun hr => fin listed a w hs hr hJ, fun i hi => ?_⟩
    obtain ⟨hi1, hi2, hi3⟩ := (ready_iff hs).1 hi
    obtain ⟨r, hr, ho, hst⟩ := rec_at C.hdr hi1
    have hd := hi3 r.o ho
    obtain ⟨φ, m, h1, h2, h3, h4, h5, h6⟩ := hJ
    have hmem : r.o ∈ ops.toList := List.mem_of_getElem? (i := i) (by simpa using ho)
    have hslot : ∀ {t : Nat}, t ∈ r.o.looksAt ops → Fw (fun i => listed.getD i false) (WT rs) (lk s.tm) ops.size t = lk r.s.tm t := fun ht => same_slot C hcl hr ho hi2 hd ht
    refine stp_sound (n := n) C.hcls ho hst ?_ ?_ (fun j hj => same_heap C hcl hr ho hi2 hd hj) h1.1 (C.dst r.o hmem) h2 h3 (fun x hx1 hx2 => ⟨h3.free (h5 i r hr hi2 x hx1 hx2), h5 i r hr hi2 x hx1 hx2⟩) ?_
    · unfold gdA
      cases hg : r.o.guard with
      | none => rfl
      | some p =>
        obtain ⟨j, want⟩ := p
        simp only
        cases hdj : (ops[j]?).bind (·.dst) with
        | none => rfl
        | some d =>
          simp only
          rw [hslot (by unfold Oper.looksAt; simp [hg, hdj])]
    · refine opv_congr fun x hx => ?_
      cases x with
      | tmp t =>
        show Fw _ _ _ _ t = lk r.s.tm t
        exact hslot (by unfold Oper.looksAt; refine List.mem_append.2 (.inl (List.mem_filterMap.2 ⟨.tmp t, hx, rfl⟩)))
      | _ => rfl
    · intro cv w' hp
      obtain ⟨φ', m', p1, p2, p3, p4⟩ := hp
      have hsl : i < listed.size := by omega
      have hL' : (fun k => (listed.setIfInBounds i true).getD k false) = fun k => listed.getD k false || decide (k = i) := by funext k; exact getD_set hsl k
      have hWT : ∀ t, Fw (fun k => (listed.setIfInBounds i true).getD k false) (WT rs) (lk s.tm) ops.size t = match r.o.dst with | some d => if d = t then r.e.v else Fw (fun i => listed.getD i false) (WT rs) (lk s.tm) ops.size t | none => Fw (fun i => listed.getD i false) (WT rs) (lk s.tm) ops.size t := by
        intro t
        rw [hL', Fw_add hi1 hi2 fun k hk hik hLk hw => late_slot C hcl hr ho hi2 hk hik hLk hw]
        have : WT rs i t = if r.o.dst = some t then some r.e.v else none := by unfold WT; rw [hr]
        rw [this]
        cases hdd : r.o.dst with
        | none => simp
        | some d =>
          by_cases e : d = t
          · simp [e]
          · simp [e]
      have hWG : (fun x => Fw (fun k => (listed.setIfInBounds i true).getD k false) (WG rs) (lkp s.hp) ops.size x) = upd (fun x => Fw (fun i => listed.getD i false) (WG rs) (lkp s.hp) ops.size x) r.e.wr := by
        funext x
        rw [hL', Fw_add hi1 hi2 fun k hk hik hLk hw => late_heap C hcl hr ho hi2 hk hik hLk hw]
        have : WG rs i x = (lkp r.e.wr x).map some := by unfold WG; rw [hr]
        rw [this, upd_get]
        cases lkp r.e.wr x <;> rfl
      obtain ⟨q1, q2⟩ := put_VR h1.1 (C.dst r.o hmem) h2 p3.φle p3.ext p1
      refine ih (listed.setIfInBounds i true) _ _ (by simpa using hs) ?_ ?_ ⟨φ', m', ⟨q1, by rw [put_df]; exact h1.2⟩, fun t => by rw [hWT t]; exact q2 t, by rw [hWG]; exact p2, by rw [hWG]; exact h4.trans p3, ?_, ?_⟩
      · have : cnt (listed.setIfInBounds i true) ops.size < cnt listed ops.size := by
          unfold cnt
          refine filter_lt (x := i) (by simpa using hi1) (fun y hy => ?_) (by rw [hi2]; rfl) (by rw [getD_set hsl]; simp)
          rw [getD_set hsl] at hy
          simp only [Bool.not_or, Bool.and_eq_true] at hy
          exact hy.1
        omega
      · intro k o hk hko j hj
        rw [getD_set hsl] at hk ⊢
        simp only [Bool.or_eq_true, decide_eq_true_eq] at hk ⊢
        rcases hk with hk | rfl
        · exact .inl (hcl k o hk hko j hj)
        · rw [ho] at hko; cases hko
          exact .inl (hd j hj)
      · intro k rk hrk hLk x hx1 hx2
        rw [getD_set hsl] at hLk
        simp only [Bool.or_eq_false_iff, decide_eq_false_iff_not] at hLk
        refine p4 x ?_ (h5 k rk hrk hLk.1 x hx1 hx2)
        rcases Nat.lt_trichotomy k i with h | h | h
        · right
          cases hq : lkp r.e.wr x with
          | none => rfl
          | some ob =>
            have hm1 : x ∈ r.e.wr.map (·.1) := lkp_mem.1 (by rw [hq]; simp)
            have hm2 : x ∈ rk.e.wr.map (·.1) := lkp_mem.1 (new_mem C.new hrk hx1 hx2)
            have hri : (rs.map Rec.ids)[i]? = some r.ids := by simp [hr]
            have hrk' : (rs.map Rec.ids)[k]? = some rk.ids := by simp [hrk]
            rcases heap_at C.heap h hrk' hri with hp | hp
            · have := pre_closed C.pre hcl (i + 1) i r.o (by omega) ho hd k hp
              rw [hLk.1] at this; cases this
            · simp only [apartH, Bool.and_eq_true] at hp
              exact absurd hm1 (disj_spec hp.1.2 hm2)
        · exact absurd h hLk.2
        · left
          have := nx_mono C.hdr i k r rk hr hrk h
          omega
      · intro x hx
        exact p4 x (.inl (Nat.le_trans (nx_last C.hdr i r hr) hx)) (h6 x hx)
end
end Go.Proofs.YtapchldnmkfkoabDoor.Am
