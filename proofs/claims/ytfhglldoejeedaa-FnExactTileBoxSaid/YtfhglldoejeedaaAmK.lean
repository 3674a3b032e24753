import Derived.Test.YtfhglldoejeedaaAmJ
namespace Go.Proofs.Ytfhglldoejeedaa.Am
open Go

variable {P : Program}

section
variable {φ : FM} {m : LM} {g gi : Nat → Option Ob} {w w' : World}

theorem elt_some {t e : TypeId} {ts : TS} {bytes : Nat} (h : elt P t = some (e, ts, bytes)) :
    P.underlying t = some (.slice e) ∧ tsh P e = some ts ∧ ∃ i, P.info? e = some i ∧ i.size = ts.size ∧ i.bytes = bytes ∧ 0 < i.size := by
  unfold elt at h
  split at h
  · rename_i e' hu
    split at h
    · rename_i ts' i hts hi
      split at h
      · cases h
      · rename_i h0
        simp only [Option.some.injEq, Prod.mk.injEq] at h
        obtain ⟨rfl, rfl, rfl⟩ := h
        obtain ⟨i', hi', hs⟩ := tsh_size hts
        rw [hi] at hi'; cases hi'
        exact ⟨hu, hts, i, hi, hs, rfl, by omega⟩
    · cases h
  · cases h

/-- A new array in a block of its own, with room for more. -/
theorem new_arr (hi : Inv φ m g w) {id esz cap : Nat} {es : List AV} {a : Array Value} {t : TypeId} (hm : m id = none) (hg : g id = none) (hpos : 0 < esz)
    (hw : ∀ e ∈ es, e.cells.length = esz ∧ e.cells.all AV.one = true) (hcap : es.length ≤ cap) (ha : a.size = cap * esz)
    (hv : VRL φ LM.none (es.flatMap AV.cells) (a.toList.take (es.length * esz)))
    (hos : w'.os = w.os) (htape : w'.tape = w.tape) (hout : w'.output = w.output) (hh : w'.heap = w.heap.push (.cells a t (0, 0))) :
    let l : Loc := ⟨w.heap.size, esz, cap, es.length⟩
    VR φ (putM m id l) (.osl id 0 es.length es.length) (.slice (some ⟨w.heap.size, 0, none⟩) es.length cap) ∧
    Inv φ (putM m id l) (upd g [(id, .arr esz es false)]) w' ∧ Fr φ m g w φ (putM m id l) (upd g [(id, .arr esz es false)]) w' := by
  intro l
  refine ⟨?_, inv_new hi hm hg hos htape hout hh rfl ⟨rfl, fun cs' e => (by cases e), fun _ _ _ e => ?_⟩⟩
  · simp only [VR]
    exact ⟨rfl, l, by simp [putM], Nat.le_refl _, fun _ => ⟨_, rfl, fun _ => by simp [l]⟩⟩
  · cases e
    refine ⟨rfl, hpos, hw, hcap, ?_⟩
    by_cases h0 : cap = 0
    · exact .inl h0
    · refine .inr ⟨a, t, ?_, ha, ?_, hv⟩
      · show w'.heap[w.heap.size]? = _
        rw [hh]; simp
      · simp only [if_neg (by simp : ¬ (false = true))]
        cases hp : φ l.blk with
        | none => rfl
        | some o => have := (Array.getElem?_eq_some_iff.1 (hi.fz _ _ hp)).1; simp [l] at this

/-- A slice without room becomes an object: it may be nil. -/
theorem new_nil (hi : Inv φ m g w) {id esz : Nat} {ad : Option Addr} (hm : m id = none) (hg : g id = none) (hpos : 0 < esz) :
    let l : Loc := ⟨w.heap.size, esz, 0, 0⟩
    VR φ (putM m id l) (.osl id 0 0 0) (.slice ad 0 0) ∧
    Inv φ (putM m id l) (upd g [(id, .arr esz [] false)]) w ∧ Fr φ m g w φ (putM m id l) (upd g [(id, .arr esz [] false)]) w := by
  intro l
  have hne : ∀ i ob, g i = some ob → i ≠ id := by rintro i ob h rfl; rw [hg] at h; cases h
  refine ⟨?_, ⟨hi.fz, fun i ob' h => ?_, fun i i' o1 o2 k k' h1 h2 h3 h4 h5 h6 h7 => ?_⟩, ⟨FM.le_refl _, Ext.put hm, rfl, rfl, rfl, Nat.le_refl _, fun b hb _ => rfl, fun b o h => .inl h, ?_⟩⟩
  · simp only [VR]
    exact ⟨rfl, l, by simp [putM], Nat.le_refl _, fun _ => ⟨_, rfl, fun h => by simp [l] at h⟩⟩
  · rw [upd_one] at h
    split at h
    · rename_i e; subst e; cases h
      exact ⟨l, by simp [putM], rfl, fun cs' e => (by cases e), fun _ _ _ e => by cases e; exact ⟨rfl, hpos, by simp, by simp, .inl rfl⟩⟩
    · have hn := hne i ob' h
      obtain ⟨k, hk, hkr⟩ := hi.own i ob' h
      refine ⟨k, by simp [putM, hn, hk], hkr.top, fun cs e => ?_, hkr.arr⟩
      obtain ⟨a1, a2, a3, a4, a, t, a5, a6⟩ := hkr.box cs e
      exact ⟨a1, a2, a3, a4, a, t, a5, VRL.mono (FM.le_refl _) _ (Ext.put hm) a6⟩
  · rw [upd_one] at h1 h2
    split at h1 <;> split at h2
    · omega
    · rename_i e1 e2
      subst e1
      simp only [putM, if_true] at h3; cases h3
      simp [l] at h6
    · rename_i e1 e2
      subst e2
      simp only [putM, if_true] at h4; cases h4
      simp [l] at h7
    · have hn := hne i o1 h1
      have hn' := hne i' o2 h2
      simp only [putM, if_neg hn] at h3
      simp only [putM, if_neg hn'] at h4
      exact hi.sep _ _ _ _ _ _ h1 h2 h3 h4 h5 h6 h7
  · rintro b ⟨i, o1, k, h1, h2, h3, rfl⟩
    rw [upd_one] at h1
    split at h1
    · rename_i e; subst e
      simp only [putM, if_true] at h2; cases h2
      simp [l] at h3
    · have hn := hne i o1 h1
      simp only [putM, if_neg hn] at h2
      exact .inr ⟨i, o1, k, h1, h2, h3, rfl⟩

theorem VRL_rep {φ : FM} {m : LM} {cs : List AV} {vs : List Value} (h : VRL φ m cs vs) : ∀ n, VRL φ m (List.replicate n cs).flatten (List.replicate n vs).flatten
  | 0 => by simp [VRL]
  | n + 1 => by simpa [List.replicate_succ] using VRL_append h (VRL_rep h n)

theorem rep_flat (z : AV) : ∀ n, (List.replicate n z).flatMap AV.cells = (List.replicate n z.cells).flatten
  | 0 => by simp
  | n + 1 => by simp [List.replicate_succ, rep_flat z n]

theorem range_mod (zs : Array Value) (h0 : 0 < zs.size) : ∀ n, ((Array.range (n * zs.size)).map fun i => zs[i % zs.size]!).toList = (List.replicate n zs.toList).flatten := by
  intro n
  apply List.ext_getElem?
  intro j
  have hl : (List.replicate n zs.toList).flatten.length = n * zs.size := by simp
  by_cases hj : j < n * zs.size
  · have hm : j % zs.size < zs.size := Nat.mod_lt _ h0
    have hd : j / zs.size < n := (Nat.div_lt_iff_lt_mul h0).2 hj
    have e : (List.replicate n zs.toList).flatten[j]? = zs.toList[j % zs.size]? := by
      clear hl
      induction n generalizing j with
      | zero => simp at hj
      | succ n ih =>
        rw [List.replicate_succ, List.flatten_cons, List.getElem?_append]
        split
        · rename_i h
          simp only [Array.length_toList] at h
          rw [Nat.mod_eq_of_lt h]
        · rename_i h
          simp only [Array.length_toList, Nat.not_lt] at h ⊢
          have hj' : j - zs.size < n * zs.size := by rw [Nat.add_mul] at hj; omega
          rw [ih (j - zs.size) hj' (Nat.mod_lt _ h0) ((Nat.div_lt_iff_lt_mul h0).2 hj')]
          rw [← Nat.mod_eq_sub_mod h]
    rw [e]
    simp [hj, hm]
  · rw [List.getElem?_eq_none (by simpa using hj), List.getElem?_eq_none (by rw [hl]; omega)]
end
end Go.Proofs.Ytfhglldoejeedaa.Am
