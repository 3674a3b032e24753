import Derived.Test.YtfhglldoejeedaaAmI
import Derived.Great.FillDense
namespace Go.Proofs.Ytfhglldoejeedaa.Am
open Go

variable {P : Program}

section
variable {φ : FM} {m : LM} {g gi : Nat → Option Ob} {w w' : World}

def putM (m : LM) (id : Nat) (l : Loc) : LM := fun i => if i = id then some l else m i

theorem put_new {m : LM} {id n : Nat} {l : Loc} {wr : Hp} (h : id < n) (hw : lkp wr id ≠ Option.none) : ∀ i, (n ≤ i ∨ lkp wr i = Option.none) → m i = Option.none → putM m id l i = Option.none := by
  intro i hi hm
  unfold putM
  rw [if_neg]
  · exact hm
  · rintro rfl
    rcases hi with hi | hi
    · omega
    · exact hw hi

theorem put_old {m : LM} {id : Nat} {l l0 : Loc} (h : m id = some l0) : ∀ i, m i = Option.none → putM m id l i = Option.none := by
  intro i hm
  unfold putM
  rw [if_neg (by rintro rfl; rw [h] at hm; cases hm)]; exact hm

theorem Ext.put {m : LM} {id : Nat} {l : Loc} (h : m id = Option.none) : Ext m (putM m id l) := by
  intro i k hk
  refine ⟨k, ?_, Nat.le_refl _, fun _ => rfl⟩
  unfold putM
  rw [if_neg (by rintro rfl; rw [h] at hk; cases hk)]; exact hk

/-- A new block, and the object that it is. -/
theorem inv_new (hi : Inv φ m g w) {id : Nat} {ob : Ob} {o : Obj} {l : Loc} (hm : m id = none) (hg : g id = none)
    (hos : w'.os = w.os) (htape : w'.tape = w.tape) (hout : w'.output = w.output) (hh : w'.heap = w.heap.push o) (hb : l.blk = w.heap.size)
    (hr : ObR φ (putM m id l) w' l ob) :
    Inv φ (putM m id l) (upd g [(id, ob)]) w' ∧ Fr φ m g w φ (putM m id l) (upd g [(id, ob)]) w' := by
  have hold : ∀ b, b < w.heap.size → w'.heap[b]? = w.heap[b]? := by
    intro b hb; rw [hh, Array.getElem?_push, if_neg (by omega)]
  have hlt : ∀ i ob k, g i = some ob → m i = some k → 0 < k.cap → k.blk < w.heap.size := fun i ob k h1 h2 h3 => hi.lt ⟨i, ob, k, h1, h2, h3, rfl⟩
  have hne : ∀ i ob, g i = some ob → i ≠ id := by rintro i ob h rfl; rw [hg] at h; cases h
  refine ⟨⟨fun b o hb => ?_, fun i ob' h => ?_, fun i i' o1 o2 k k' h1 h2 h3 h4 h5 h6 h7 => ?_⟩, ⟨FM.le_refl _, Ext.put hm, hos, htape, hout, by rw [hh]; simp, fun b hb _ => hold b hb, fun b o h => .inl h, ?_⟩⟩
  · have := hi.fz b o hb
    rw [hold b (Array.getElem?_eq_some_iff.1 this).1]; exact this
  · rw [upd_one] at h
    split at h
    · rename_i e; subst e; cases h
      exact ⟨l, by simp [putM], hr⟩
    · have hn := hne i ob' h
      obtain ⟨k, hk, hkr⟩ := hi.own i ob' h
      refine ⟨k, by simp [putM, hn, hk], hkr.top, fun cs e => ?_, fun esz es ro e => ?_⟩
      · obtain ⟨a1, a2, a3, a4, a, t, a5, a6⟩ := hkr.box cs e
        exact ⟨a1, a2, a3, a4, a, t, by rw [hold _ (hlt i _ k h hk a2.2)]; exact a5, VRL.mono (FM.le_refl _) _ (Ext.put hm) a6⟩
      · obtain ⟨a1, a2, a3, a4, a5⟩ := hkr.arr esz es ro e
        refine ⟨a1, a2, a3, a4, ?_⟩
        rcases a5 with h0 | ⟨a, t, a5, a6⟩
        · exact .inl h0
        · by_cases hz : k.cap = 0
          · exact .inl hz
          · exact .inr ⟨a, t, by rw [hold _ (hlt i _ k h hk (by omega))]; exact a5, a6⟩
  · rw [upd_one] at h1 h2
    split at h1 <;> split at h2
    · omega
    · rename_i e1 e2
      subst e1
      simp only [putM, if_true] at h3; cases h3
      have hn := hne i' o2 h2
      simp only [putM, if_neg hn] at h4
      have := hlt i' o2 k' h2 h4 h7
      omega
    · rename_i e1 e2
      subst e2
      simp only [putM, if_true] at h4; cases h4
      have hn := hne i o1 h1
      simp only [putM, if_neg hn] at h3
      have := hlt i o1 k h1 h3 h6
      omega
    · have hn := hne i o1 h1
      have hn' := hne i' o2 h2
      simp only [putM, if_neg hn] at h3
      simp only [putM, if_neg hn'] at h4
      exact hi.sep _ _ _ _ _ _ h1 h2 h3 h4 h5 h6 h7
  · rintro b ⟨i, o1, k, h1, h2, h3, rfl⟩
    rw [upd_one] at h1
    split at h1
    · rename_i e; subst e
      simp only [putM, if_true] at h2; cases h2
      exact .inl (by omega)
    · have hn := hne i o1 h1
      simp only [putM, if_neg hn] at h2
      exact .inr ⟨i, o1, k, h1, h2, h3, rfl⟩

/-- A new box. -/
theorem new_box (hi : Inv φ m g w) {id : Nat} {cs : List AV} {vs : Array Value} {t : TypeId} (hm : m id = none) (hg : g id = none) (hv : VRL φ m cs vs.toList) (h1 : cs.all AV.one = true) (h0 : 0 < cs.length) :
    let l : Loc := ⟨w.heap.size, 1, cs.length, cs.length⟩
    VR φ (putM m id l) (.optr id 0 cs.length) (.pointer (some ⟨w.heap.size, 0, none⟩)) ∧
    Inv φ (putM m id l) (upd g [(id, .box cs)]) (w.alloc (.cells vs t)) ∧ Fr φ m g w φ (putM m id l) (upd g [(id, .box cs)]) (w.alloc (.cells vs t)) := by
  intro l
  refine ⟨?_, inv_new hi hm hg rfl rfl rfl rfl rfl ⟨rfl, fun cs' e => ?_, fun _ _ _ e => (by cases e)⟩⟩
  · simp only [VR]
    exact ⟨rfl, l, by simp [putM], Nat.le_refl _, fun _ => rfl⟩
  · cases e
    refine ⟨rfl, ⟨rfl, h0⟩, ?_, h1, vs, t, ?_, VRL.mono (FM.le_refl _) _ (Ext.put hm) hv⟩
    · cases hp : φ l.blk with
      | none => rfl
      | some o => have := (Array.getElem?_eq_some_iff.1 (hi.fz _ _ hp)).1; simp [l] at this
    · show (w.heap.push _)[w.heap.size]? = _
      simp

theorem ofV_cells {φ : FM} {m : LM} {z : Value} (h : (ofV z).cells.all AV.one = true) : VRL φ m (ofV z).cells z.cells.toList := VR_cells (ofV_VR φ m z) h

theorem zer_run {t : TypeId} {z : AV} (h : zer P t = some z) (w : World) : ∃ i v, P.info? t = some i ∧ i.zero = some v ∧ z = ofV v ∧ (zeroValue t).run P w = .ok v w := by
  unfold zer at h
  simp only [Option.map_eq_some_iff, Option.bind_eq_some_iff] at h
  obtain ⟨v, ⟨i, hi, hz⟩, rfl⟩ := h
  exact ⟨i, v, hi, hz, rfl, by simp [zeroValue, typeInfo, hi, hz]⟩

theorem fill_step {cs : List AV} {v : AV} {cells : Array Value} {cv : Value} {off : Nat} (h : VRL φ m cs cells.toList) (hv : VRL φ m v.cells cv.cells.toList) (hle : off + v.cells.length ≤ cs.length) :
    VRL φ m (spl cs off v.cells) (cv.cells.zipIdx.foldl (fun cs (x : Value × Nat) => cs.setIfInBounds (off + x.2) x.1) cells).toList := by
  have hl := VRL_len h
  have hvl := VRL_len hv
  obtain ⟨g1, g2⟩ := Go.Great.foldl_set off cv.cells.toList 0 cells
  have e : (cv.cells.zipIdx.foldl (fun cs (x : Value × Nat) => cs.setIfInBounds (off + x.2) x.1) cells) =
      ((cv.cells.toList.zipIdx 0).foldl (fun cs (x : Value × Nat) => cs.setIfInBounds (off + x.2) x.1) cells) := by
    rw [← Array.foldl_toList, Array.toList_zipIdx]
  rw [e]
  have e2 : ((cv.cells.toList.zipIdx 0).foldl (fun cs (x : Value × Nat) => cs.setIfInBounds (off + x.2) x.1) cells).toList =
      cells.toList.take off ++ cv.cells.toList ++ cells.toList.drop (off + cv.cells.toList.length) := by
    apply List.ext_getElem?
    intro k
    have := g2 k
    rw [Array.getElem?_toList, this]
    simp only [List.getElem?_append, List.length_append, List.length_take, List.getElem?_take, List.getElem?_drop, Nat.add_zero, Nat.min_eq_left (show off ≤ cells.toList.length by omega)]
    simp only [Array.length_toList] at hl hvl ⊢
    by_cases h1 : k < off
    · rw [if_neg (by omega), if_pos (by omega), if_pos (by omega), if_pos (by omega)]; simp
    · by_cases h2 : k < off + cv.cells.size
      · rw [if_pos (by omega), if_pos (by omega), if_neg (by omega)]
      · rw [if_neg (by omega), if_neg (by omega)]
        rw [show off + cv.cells.size + (k - (off + cv.cells.size)) = k by omega]; simp
  rw [e2]
  exact VRL_spl h hv off

theorem fil_sound {pl : Nat → Option (Nat × Nat)} : ∀ {ps : List (Nat × AV)} {qs : List (Nat × Value)} {cs cs' : List AV} {cells : Array Value},
    filA pl cs ps = some cs' → VRL φ m cs cells.toList → ps.map (·.1) = qs.map (·.1) → (∀ (j : Nat) (p : Nat × AV) (q : Nat × Value), ps[j]? = some p → qs[j]? = some q → VR φ m p.2 q.2) → cs.all AV.one = true →
    ∃ cells', Instr.fill pl cells qs = some cells' ∧ VRL φ m cs' cells'.toList ∧ cs'.all AV.one = true
  | [], qs, cs, cs', cells, h, hv, he, _, h1 => by
    simp only [filA, Option.some.injEq] at h; subst h
    cases qs with
    | nil => exact ⟨cells, rfl, hv, h1⟩
    | cons _ _ => simp at he
  | (i, v) :: ps, [], cs, cs', cells, h, hv, he, _, h1 => by simp at he
  | (i, v) :: ps, (i', cv) :: qs, cs, cs', cells, h, hv, he, hr, h1 => by
    simp only [List.map_cons, List.cons.injEq] at he
    obtain ⟨rfl, he⟩ := he
    simp only [filA] at h
    split at h
    · cases h
    rename_i off size hpl
    split at h
    · rename_i hb
      have hvr := hr 0 (i, v) (i, cv) (by simp) (by simp)
      have hvc := VR_cells hvr hb.2.2
      have hcl : cv.cells.size = v.cells.length := by simpa using VRL_len hvc
      have hl : cells.size = cs.length := by simpa using VRL_len hv
      have hstep := fill_step hv hvc (off := off) (by simp only; omega)
      obtain ⟨cells', k1, k2, k3⟩ := fil_sound h hstep he (fun j p q hp hq => hr (j + 1) p q (by simpa using hp) (by simpa using hq)) (spl_one h1 hb.2.2)
      refine ⟨cells', ?_, k2, k3⟩
      unfold Instr.fill
      rw [hpl]
      simp only
      rw [if_neg (by simp; omega)]
      exact k1
    · cases h
end
end Go.Proofs.Ytfhglldoejeedaa.Am
