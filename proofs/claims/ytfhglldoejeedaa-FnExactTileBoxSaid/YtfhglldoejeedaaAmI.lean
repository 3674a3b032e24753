import Derived.Test.YtfhglldoejeedaaAmH
namespace Go.Proofs.Ytfhglldoejeedaa.Am
open Go

variable {P : Program}

section
variable {φ : FM} {m : LM} {g gi : Nat → Option Ob} {w : World}

theorem setRow_heap' {w : World} {b : Nat} {cur : Array Value} {ty : TypeId} {fr : Nat × Nat} (hh : w.heap[b]? = some (.cells cur ty fr)) (a : Array Value) :
    (w.setRow b a).heap[b]? = some (.cells a ty fr) := setRow_heap w b cur a ty fr hh

/-- An own block's cells are written over: what is left of the object. -/
theorem put_box (hi : Inv φ m g w) {id : Nat} {cs new : List AV} {off : Nat} {nv : List Value} {l : Loc} (hg : g id = some (.box cs)) (hm : m id = some l)
    (hn : VRL φ m new nv) (h1 : new.all AV.one = true) (hle : off + new.length ≤ cs.length) {a : Array Value} {ty : TypeId} (hh : w.heap[l.blk]? = some (.cells a ty (0, 0)))
    (hv : VRL φ m cs a.toList) :
    let w' := w.setRow l.blk (a.toList.take off ++ nv ++ a.toList.drop (off + nv.length)).toArray
    Inv φ m (upd g [(id, .box (spl cs off new))]) w' ∧ Fr φ m g w φ m (upd g [(id, .box (spl cs off new))]) w' := by
  intro w'
  obtain ⟨l', hm', hr⟩ := hi.own id _ hg
  rw [hm] at hm'; cases hm'
  obtain ⟨b1, b2, b3, b4, _⟩ := hr.box cs rfl
  refine inv_put hi hg hm b2.2 b3 rfl rfl rfl (setRow_size ..) (fun b hb => setRow_other _ _ _ hb) ⟨?_, fun cs' e => ?_, fun _ _ _ e => (by cases e)⟩
  · rw [hr.top]; simp only [Ob.len, spl_len hle]
  · cases e
    exact ⟨b1, ⟨by rw [spl_len hle]; exact b2.1, b2.2⟩, b3, spl_one b4 h1, _, ty, setRow_heap' hh _, by simpa using VRL_spl hv hn off⟩

theorem put_arr (hi : Inv φ m g w) {id : Nat} {esz : Nat} {es es' : List AV} {l : Loc} (hg : g id = some (.arr esz es false)) (hm : m id = some l) (hc : 0 < l.cap)
    (hlen : es'.length = es.length) (hw' : ∀ e ∈ es', e.cells.length = esz ∧ e.cells.all AV.one = true)
    {a : Array Value} {ty : TypeId} (hh : w.heap[l.blk]? = some (.cells a ty (0, 0))) {k : Nat} {new : List AV} {nv : List Value} (hn : VRL φ LM.none new nv)
    (hk : k + new.length ≤ es.length * esz) (hes : es'.flatMap AV.cells = spl (es.flatMap AV.cells) k new) :
    let w' := w.setRow l.blk (a.toList.take k ++ nv ++ a.toList.drop (k + nv.length)).toArray
    Inv φ m (upd g [(id, .arr esz es' false)]) w' ∧ Fr φ m g w φ m (upd g [(id, .arr esz es' false)]) w' := by
  intro w'
  obtain ⟨l', hm', hr⟩ := hi.own id _ hg
  rw [hm] at hm'; cases hm'
  obtain ⟨b1, b2, b3, b4, b5⟩ := hr.arr esz es false rfl
  obtain ⟨a', ty', c1, c2, c3, c4⟩ := b5.resolve_left (by omega)
  rw [hh] at c1; cases c1
  simp only [if_neg (by simp : ¬ (false = true))] at c3
  have hnl := VRL_len hn
  have hal : a.toList.length = l.cap * esz := by simpa using c2
  have hle : es.length * esz ≤ l.cap * esz := Nat.mul_le_mul_right _ b4
  refine inv_put hi hg hm hc c3 rfl rfl rfl (setRow_size ..) (fun b hb => setRow_other _ _ _ hb) ⟨?_, fun cs' e => (by cases e), fun esz' es'' ro' e => ?_⟩
  · rw [hr.top]; simp only [Ob.len, hlen]
  · cases e
    refine ⟨b1, b2, hw', by omega, .inr ⟨_, ty, setRow_heap' hh _, ?_, by simpa using c3, ?_⟩⟩
    · simp; omega
    · rw [hes, hlen]
      have := VRL_spl c4 hn k
      have e1 : (a.toList.take k ++ nv ++ a.toList.drop (k + nv.length)).take (es.length * esz) =
          (a.toList.take (es.length * esz)).take k ++ nv ++ (a.toList.take (es.length * esz)).drop (k + nv.length) := by
        apply List.ext_getElem?
        intro j
        simp only [List.getElem?_take, List.getElem?_append, List.length_append, List.length_take, List.getElem?_drop]
        by_cases h1 : j < es.length * esz
        · simp only [h1, if_true]
          have e2 : min k a.toList.length = k := by omega
          have e3 : min k (min (es.length * esz) a.toList.length) = k := by omega
          rw [e2, e3]
          by_cases h2 : j < k + nv.length
          · simp only [h2, if_true]
            first | done | (by_cases h3 : j < k <;> simp [h3, h1])
          · simp only [h2, if_false]
            rw [if_pos (by omega)]
        · simp only [h1, if_false]
          have e2 : min k a.toList.length = k := by omega
          have e3 : min k (min (es.length * esz) a.toList.length) = k := by omega
          rw [e3]
          rw [if_neg (by omega), if_neg (by omega)]
      rw [e1]; exact this

theorem frz_cells_one {g : Nat → Option Ob} {bx : List AV → Option (List AV)} {a a' : AV} (h : frzW g bx a = some a') (h1 : a.cells.all AV.one = true) : a'.cells.all AV.one = true := by
  cases a with
  | agg cs =>
    simp only [frzW, Option.map_eq_some_iff] at h
    obtain ⟨cs', h, rfl⟩ := h
    exact frzWL_one h h1
  | any => simp [AV.cells, AV.one] at h1
  | tup => simp [AV.cells, AV.one] at h1
  | _ =>
    have := frzW_one h (by simp [AV.one])
    have hc : a'.cells = [a'] := by cases a' <;> simp_all [AV.cells, AV.one]
    rw [hc]; simpa using this

theorem frz_ro_sound {φ1 : FM} {is : List Nat} {ro : Hp} (hi : Inv φ m g w) (hle : φ.le φ1) (i1 : Inv φ1 m (upd g ro) w) (c1 : Cov φ1 m (upd g ro) w (addTo [] is))
    (t1 : ∀ i ob, g i = some ob → upd g ro i = some ob ∨ ∃ esz es r, ob = .arr esz es r ∧ upd g ro i = some (.arr esz es true))
    {bx : List AV → Option (List AV)} {x x' : AV} {cx : Value} (hfz : frzW gi bx x = some x') (hg : ∀ i ∈ ids x, g i = gi i) (hs : ∀ i ∈ ids x, i ∈ is) (hx : VR φ m x cx) : VR φ1 LM.none x' cx := by
  refine frzW_sound hi hle bx ?_ x hfz hg ?_ hx
  · intro id cs cs' l h1 h2 h3 _
    have h4 : upd g ro id = some (.box cs) := by
      rcases t1 id _ h1 with h | ⟨_, _, _, h, _⟩
      · exact h
      · cases h
    exact no_box i1 (fun _ => some cs') id cs cs' l h4 h2 h3 rfl
  · intro i hi' ob l h1 h2 h3
    rcases t1 i _ h1 with h | ⟨_, _, _, _, h⟩
    · exact c1 i (ids_mem.2 (hs i hi')) _ l h h2 h3
    · exact c1 i (ids_mem.2 (hs i hi')) _ l h h2 h3

theorem spl_spl {l c new : List AV} {k n off : Nat} (h : (l.drop k).take n = c) (hl : k + n ≤ l.length) (hc : c.length = n) (hn : off + new.length ≤ c.length) :
    spl l k (spl c off new) = spl l (k + off) new := by
  have hlen : (spl c off new).length = n := by rw [spl_len hn]; exact hc
  have e1 : l.take (k + off) = l.take k ++ c.take off := by
    rw [List.take_add, ← h, List.take_take]
    congr 2; omega
  have e2 : l.drop (k + off + new.length) = c.drop (off + new.length) ++ l.drop (k + n) := by
    have a1 : c.drop (off + new.length) = ((l.drop k).drop (off + new.length)).take (n - (off + new.length)) := by rw [← h, List.drop_take]
    have a2 : l.drop (k + n) = ((l.drop k).drop (off + new.length)).drop (n - (off + new.length)) := by
      rw [List.drop_drop, List.drop_drop]; congr 1; omega
    rw [a1, a2, List.take_append_drop, List.drop_drop, Nat.add_assoc]
  unfold spl at hlen ⊢
  rw [hlen, e1, e2]
  simp [List.append_assoc]

theorem st_sound {t : TypeId} {a x : AV} {ca cx : Value} {nx : Nat} {e : Eff}
    (h : stA P t a x gi nx = some e) (hg : ∀ i ∈ e.rd, g i = gi i) (hi : Inv φ m g w) (ha : VR φ m a ca) (hx : VR φ m x cx) :
    ∃ w' φ', (Instr.storeAt t ca cx).run P w = .ok () w' ∧ Inv φ' m (upd g e.wr) w' ∧ Fr φ m g w φ' m (upd g e.wr) w' ∧ e.v = .any ∧ e.nx = nx := by
  unfold stA at h
  split at h
  · cases h
  rename_i ts hts
  split at h
  · rename_i hsz
    have hcx := VR_cells hx hsz.2
    have hcl : cx.cells.size = ts.size := by have := VRL_len hcx; rw [hsz.1] at this; simpa using this
    have hone1 : ∀ v ∈ cx.cells.toList, v.oneCell' = true := VRL_one hcx hsz.2
    cases a with
    | optr id off tot =>
      simp only at h
      split at h
      · rename_i cs hgi
        split at h
        · rename_i hb
          cases h
          have hgid := (hg id (by simp)).trans hgi
          obtain ⟨l, hm, hr⟩ := hi.own id _ hgid
          obtain ⟨b1, b2, b3, b4, arr, ty, hh, hv⟩ := hr.box cs rfl
          simp only [VR] at ha
          obtain ⟨_, l', hm', _, ha⟩ := ha
          rw [hm] at hm'; cases hm'
          obtain rfl := ha (by rw [hr.top]; exact hb.1)
          have hal := VRL_len hv
          have hrun := run_store_at (P := P) (w := w) (o := off) (v := cx) hts hcl hh (by simp at hal; omega) hone1
          have hput := put_box hi hgid hm hcx hsz.2 (off := off) (by omega) hh hv
          simp only [Array.length_toList] at hput
          exact ⟨_, φ, hrun, hput.1, hput.2, rfl, rfl⟩
        · cases h
      · cases h
    | eptr id ix off tot =>
      simp only at h
      split at h
      · rename_i x' ro hfz hro
        split at h
        · rename_i esz es hgi
          split at h
          · rename_i hb
            split at h
            · rename_i e0 he0
              split at h
              · rename_i e' hsve
                cases h
                simp only [Bool.not_eq_true', List.contains_eq_mem, decide_eq_false_iff_not] at hb
                obtain ⟨φ1, i1, f1, c1, n1, s1, t1⟩ := ro_sound hro (fun i hi => hg i (by rw [ids_mem] at hi; simp [hi])) hi (nodup_addTo _ _ (by simp))
                have hgid := (hg id (by simp)).trans hgi
                have hgid1 : upd g ro id = some (.arr esz es false) := by
                  rw [upd_get]
                  cases hl : lkp ro id with
                  | none => exact hgid
                  | some o => exact absurd (ids_mem.1 (n1 id (by simp [hl]))) hb.2
                obtain ⟨l, hm, hr⟩ := i1.own id _ hgid1
                obtain ⟨b1, b2, b3, b4, b5⟩ := hr.arr esz es false rfl
                have hlt : ix < es.length := (List.getElem?_eq_some_iff.1 he0).1
                obtain ⟨arr, ty, hh, hsza, hphi, hv⟩ := b5.resolve_left (by omega)
                simp only [VR] at ha
                obtain ⟨_, l', hm', _, ha⟩ := ha
                rw [hm] at hm'; cases hm'
                obtain rfl := ha (by rw [hr.top]; exact hb.1)
                have hx1 : VR φ1 m x cx := VR.mono f1.φle x (Ext.refl _) hx
                have hcov : Cov φ1 m (upd g ro) w (ids x) := fun i hi => c1 i (ids_mem.2 hi)
                have hx' : VR φ1 LM.none x' cx := frz_ro_sound hi f1.φle i1 c1 t1 hfz (fun i hi => hg i (by simp [hi])) (fun _ h => h) hx
                have hone' : x'.cells.all AV.one = true := frz_cells_one hfz hsz.2
                have hxc := VR_cells hx' hone'
                obtain ⟨s1', s2', s3'⟩ := sve_cells hsve (b3 e0 (List.mem_of_getElem? he0)).2 hone'
                have hxl := VRL_len hxc
                have hxl0 := VRL_len hcx
                have hel := (b3 e0 (List.mem_of_getElem? he0)).1
                have hcap : 0 < l.cap := by omega
                have hk1 : ix * esz + esz ≤ es.length * esz := by rw [← Nat.succ_mul]; exact Nat.mul_le_mul_right _ hlt
                have hk2 : es.length * esz ≤ l.cap * esz := Nat.mul_le_mul_right _ b4
                simp only [Array.length_toList] at hxl hxl0
                have hrun := run_store_at (P := P) (w := w) (o := ix * esz + off) (v := cx) hts hcl hh (by omega) hone1
                have hput := put_arr (es' := es.set ix e') i1 hgid1 hm hcap (by simp) (fun e he => by
                    rcases List.mem_or_eq_of_mem_set he with h1 | h1
                    · exact b3 e h1
                    · subst h1; exact ⟨by rw [s2', spl_len s1']; exact hel, s3'⟩) hh hxc (k := ix * esz + off) (by omega)
                  (by rw [set_flat (fun e he => (b3 e he).1) hlt (by rw [s2', spl_len s1']; exact hel), s2']; exact spl_spl (flat_get (fun e he => (b3 e he).1) he0) (by rw [flat_len (fun e he => (b3 e he).1)]; omega) hel s1')
                rw [upd_cons]
                refine ⟨_, φ1, ?_, hput.1, f1.trans hput.2, rfl, rfl⟩
                rw [b1]; simpa using hrun
              · cases h
            · cases h
          · cases h
        · cases h
      · cases h
    | _ => cases h
  · cases h
end
end Go.Proofs.Ytfhglldoejeedaa.Am
