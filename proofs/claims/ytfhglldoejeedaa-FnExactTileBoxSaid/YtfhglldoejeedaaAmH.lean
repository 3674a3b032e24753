import Derived.Test.YtfhglldoejeedaaAmG
import Derived.Laws.CopyRow
namespace Go.Proofs.Ytfhglldoejeedaa.Am
open Go

variable {P : Program}

theorem mem_addTo : ∀ (xs l : List Nat) (i : Nat), i ∈ addTo l xs ↔ i ∈ l ∨ i ∈ xs
  | [], l, i => by simp [addTo]
  | x :: xs, l, i => by
    simp only [addTo]
    split
    · rename_i h
      rw [mem_addTo xs l i]
      simp only [List.contains_eq_mem, decide_eq_true_eq] at h
      simp only [List.mem_cons]
      constructor
      · rintro (h1 | h1) <;> simp [h1]
      · rintro (h1 | h1 | h1)
        · exact .inl h1
        · subst h1; exact .inl h
        · exact .inr h1
    · rw [mem_addTo xs _ i]
      simp [or_assoc]

theorem nodup_addTo : ∀ (xs l : List Nat), l.Nodup → (addTo l xs).Nodup
  | [], l, h => by simpa [addTo] using h
  | x :: xs, l, h => by
    simp only [addTo]
    split
    · exact nodup_addTo xs l h
    · rename_i hc
      refine nodup_addTo xs _ ?_
      simp only [List.contains_eq_mem, decide_eq_true_eq] at hc
      rw [List.nodup_append]
      refine ⟨h, by simp, ?_⟩
      intro a ha b hb
      simp at hb
      subst hb
      rintro rfl
      exact hc ha

theorem setRow_other (w : World) (g : Nat) (a : Array Value) {b : Nat} (h : b ≠ g) : (w.setRow g a).heap[b]? = w.heap[b]? := by
  simp only [World.setRow, Array.getElem?_modify]
  rw [if_neg (by omega)]

theorem setRow_size (w : World) (g : Nat) (a : Array Value) : (w.setRow g a).heap.size = w.heap.size := by
  simp [World.setRow]

/-- A store of as many cells as the type has, into a block of plain cells. -/
theorem run_store_at {w : World} {t ty : TypeId} {ts : TS} {b o : Nat} {cur : Array Value} {v : Value} (ht : tsh P t = some ts) (hs : v.cells.size = ts.size)
    (hh : w.heap[b]? = some (.cells cur ty (0, 0))) (hle : o + v.cells.size ≤ cur.size) (h1 : ∀ x ∈ v.cells.toList, x.oneCell' = true) :
    (Instr.storeAt t (.pointer (some ⟨b, o, none⟩)) v).run P w = .ok () (w.setRow b (cur.toList.take o ++ v.cells.toList ++ cur.toList.drop (o + v.cells.size)).toArray) := by
  obtain ⟨i, hi, hsz⟩ := tsh_size ht
  have := run_storeCells_at P b o ty v.cells.toList 0 cur w hh (by simpa using hle) h1
  simp only [Instr.storeAt, Instr.sureAddr, storeVar, pure_bind, Sem.run_bind, run_sizeOf hi, Result.andThen_ok, Sem.run_ite]
  rw [if_neg (by omega)]
  simpa using this

theorem spl_len {cs new : List AV} {off : Nat} (h : off + new.length ≤ cs.length) : (spl cs off new).length = cs.length := by
  simp [spl]; omega

theorem spl_one {cs new : List AV} {off : Nat} (h : cs.all AV.one = true) (h' : new.all AV.one = true) : (spl cs off new).all AV.one = true := by
  simp only [spl, List.all_append, all_take h, all_drop h, h', Bool.and_self]

theorem lkp_append (a b : Hp) (i : Nat) : lkp (a ++ b) i = match lkp a i with | some o => some o | none => lkp b i := by
  have := congrFun (upd_append (fun i => none) a b) i
  unfold upd at this
  cases h : lkp (a ++ b) i <;> cases h1 : lkp a i <;> cases h2 : lkp b i <;> simp_all

section
variable {φ : FM} {m : LM} {g gi : Nat → Option Ob} {w : World}

theorem no_box (hi : Inv φ m g w) : ∀ (bx : List AV → Option (List AV)), ∀ id cs cs' l, g id = some (.box cs) → m id = some l → φ l.blk = w.heap[l.blk]? → bx cs = some cs' → VRC φ cs' l.blk 0 := by
  intro bx id cs cs' l hg hm hb _
  obtain ⟨l', hm', hr⟩ := hi.own id _ hg
  rw [hm] at hm'; cases hm'
  obtain ⟨_, _, h3, _, a, t, h5, _⟩ := hr.box cs rfl
  rw [h3, h5] at hb; cases hb

theorem ids_mem {is : List Nat} {x : Nat} : x ∈ addTo [] is ↔ x ∈ is := by rw [mem_addTo]; simp

theorem set_flat {n : Nat} : ∀ {es : List AV}, (∀ e ∈ es, e.cells.length = n) → ∀ {ix : Nat} {e' : AV}, ix < es.length → e'.cells.length = n →
    (es.set ix e').flatMap AV.cells = spl (es.flatMap AV.cells) (ix * n) e'.cells
  | [], _, ix, e', h, _ => by simp at h
  | x :: xs, hw, 0, e', _, h' => by
    have hx := hw x (by simp)
    simp [spl, h', ← hx]
  | x :: xs, hw, ix + 1, e', h, h' => by
    have hx := hw x (by simp)
    have ih := set_flat (es := xs) (fun e he => hw e (by simp [he])) (ix := ix) (e' := e') (by simpa using h) h'
    simp only [List.set_cons_succ, List.flatMap_cons, ih, spl, Nat.add_mul, Nat.one_mul]
    rw [List.take_append, List.drop_append]
    rw [List.take_of_length_le (by omega : x.cells.length ≤ ix * n + n), List.drop_eq_nil_of_le (by omega : x.cells.length ≤ ix * n + n + e'.cells.length)]
    have e1 : ix * n + n - x.cells.length = ix * n := by omega
    have e2 : ix * n + n + e'.cells.length - x.cells.length = ix * n + e'.cells.length := by omega
    simp [e1, e2]

theorem sve_cells {e e' : AV} {off : Nat} {new : List AV} (h : sve e off new = some e') (h1 : e.cells.all AV.one = true) (h2 : new.all AV.one = true) :
    off + new.length ≤ e.cells.length ∧ e'.cells = spl e.cells off new ∧ e'.cells.all AV.one = true := by
  cases e with
  | agg cs =>
    simp only [sve] at h
    split at h
    · rename_i hl
      cases h
      exact ⟨hl, rfl, spl_one h1 h2⟩
    · cases h
  | _ =>
    simp only [sve] at h
    split at h
    · cases h
      simp only [List.all_cons, List.all_nil, Bool.and_true] at h2
      have hc : e'.cells = [e'] := by cases e' <;> simp_all [AV.cells, AV.one]
      refine ⟨by simp [AV.cells], by rw [hc]; simp [spl, AV.cells], by rw [hc]; simpa using h2⟩
    · cases h
end
end Go.Proofs.Ytfhglldoejeedaa.Am
