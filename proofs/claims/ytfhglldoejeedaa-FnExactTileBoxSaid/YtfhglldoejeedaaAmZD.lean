import Derived.Test.YtfhglldoejeedaaAmZC
namespace Go.Proofs.Ytfhglldoejeedaa.Am
open Go

variable {P : Program}

section
variable {cl : Cl} {E : FuncId → Md} {ops : Array Oper} {s s' : St} {rs : List Rec} {pr : List (List Nat)}

/-- The order of two operations, when one writes what the other looks at. -/
structure Ctx (P : Program) (cl : Cl) (E : FuncId → Md) (ops : Array Oper) (s s' : St) (rs : List Rec) (pr : List (List Nat)) (n : Nat) : Prop where
  hcls : ClS' P cl
  hdr : dr P cl E ops ops.toList s = some (s', rs)
  pre : preOk ops.toList pr = true
  slots : slotsOk ops pr = true
  heap : heapOk pr (rs.map Rec.ids) = true
  new : rs.all newOk = true
  dst : ∀ o ∈ ops.toList, ∀ d, o.dst = some d → d < n

theorem rec_at (h : dr P cl E ops ops.toList s = some (s', rs)) {i : Nat} (hi : i < ops.size) : ∃ r, rs[i]? = some r ∧ ops[i]? = some r.o ∧ stpE P cl E ops r.o r.s = some r.e := by
  obtain ⟨h1, h2, _, _⟩ := dr_recs h
  have hl : i < rs.length := by rw [h1]; simpa using hi
  have hr : rs[i]? = some rs[i] := List.getElem?_eq_getElem hl
  obtain ⟨a1, a2, _⟩ := h2 i _ hr
  exact ⟨rs[i], hr, by simpa using a1, a2⟩

/-- Before operation i may run, those that have run and write what it looks at are just those ahead of it in the row. -/
theorem same_slot {n : Nat} (C : Ctx P cl E ops s s' rs pr n) {L : Nat → Bool} (hcl : ∀ (i : Nat) (o : Oper), L i = true → ops[i]? = some o → ∀ k ∈ dirs o, L k = true)
    {i : Nat} {r : Rec} (hr : rs[i]? = some r) (ho : ops[i]? = some r.o) (hL : L i = false) (hd : ∀ k ∈ dirs r.o, L k = true) {t : Nat} (ht : t ∈ r.o.looksAt ops) :
    Fw L (WT rs) (lk s.tm) ops.size t = lk r.s.tm t := by
  have hi : i < ops.size := (Array.getElem?_eq_some_iff.1 ho).1
  rw [← (states C.hdr i r hr).1 t, ← Fw_lt (W := WT rs) (base := lk s.tm) (x := t) (Nat.le_of_lt hi)]
  refine Fw_agree fun k hk hw => ?_
  obtain ⟨rk, h1, h2, h3⟩ := rec_at C.hdr hk
  have hdst : rk.o.dst = some t := by
    unfold WT at hw; rw [h1] at hw
    simp only at hw
    split at hw
    · assumption
    · exact absurd rfl hw
  rcases Nat.lt_trichotomy k i with h | h | h
  · simp only [h, decide_true]
    rcases slots_at C.slots h h2 ho with hp | hp
    · exact pre_closed C.pre hcl (i + 1) i r.o (by omega) ho hd k hp
    · exact absurd ht ((apart_spec hp).1 t hdst)
  · subst h; simp [hL]
  · have : ¬ k < i := by omega
    simp only [this, decide_false]
    cases hLk : L k with
    | false => rfl
    | true =>
      rcases slots_at C.slots h ho h2 with hp | hp
      · have := pre_closed C.pre hcl (k + 1) k rk.o (by omega) h2 (fun j hj => hcl k rk.o hLk h2 j hj) i hp
        rw [hL] at this; cases this
      · exact absurd ht ((apart_spec hp).2.1 t hdst)

theorem same_heap {n : Nat} (C : Ctx P cl E ops s s' rs pr n) {L : Nat → Bool} (hcl : ∀ (i : Nat) (o : Oper), L i = true → ops[i]? = some o → ∀ k ∈ dirs o, L k = true)
    {i : Nat} {r : Rec} (hr : rs[i]? = some r) (ho : ops[i]? = some r.o) (hL : L i = false) (hd : ∀ k ∈ dirs r.o, L k = true) {x : Nat} (hx : x ∈ r.e.rd) :
    Fw L (WG rs) (lkp s.hp) ops.size x = lkp r.s.hp x := by
  have hi : i < ops.size := (Array.getElem?_eq_some_iff.1 ho).1
  rw [← (states C.hdr i r hr).2 x, ← Fw_lt (W := WG rs) (base := lkp s.hp) (x := x) (Nat.le_of_lt hi)]
  refine Fw_agree fun k hk hw => ?_
  obtain ⟨rk, h1, h2, h3⟩ := rec_at C.hdr hk
  have hmem : x ∈ rk.e.wr.map (·.1) := by
    unfold WG at hw; rw [h1] at hw
    refine lkp_mem.1 fun h => hw ?_
    simp [h]
  have hri : (rs.map Rec.ids)[i]? = some r.ids := by simp [hr]
  have hrk : (rs.map Rec.ids)[k]? = some rk.ids := by simp [h1]
  rcases Nat.lt_trichotomy k i with h | h | h
  · simp only [h, decide_true]
    rcases heap_at C.heap h hrk hri with hp | hp
    · exact pre_closed C.pre hcl (i + 1) i r.o (by omega) ho hd k hp
    · simp only [apartH, Bool.and_eq_true] at hp
      exact absurd hx (disj_spec hp.1.1 hmem)
  · subst h; simp [hL]
  · have : ¬ k < i := by omega
    simp only [this, decide_false]
    cases hLk : L k with
    | false => rfl
    | true =>
      rcases heap_at C.heap h hri hrk with hp | hp
      · have := pre_closed C.pre hcl (k + 1) k rk.o (by omega) h2 (fun j hj => hcl k rk.o hLk h2 j hj) i hp
        rw [hL] at this; cases this
      · simp only [apartH, Bool.and_eq_true] at hp
        exact absurd hx (disj_spec hp.2 hmem)

/-- What has run behind i in the row has not written what i writes. -/
theorem late_slot {n : Nat} (C : Ctx P cl E ops s s' rs pr n) {L : Nat → Bool} (hcl : ∀ (i : Nat) (o : Oper), L i = true → ops[i]? = some o → ∀ k ∈ dirs o, L k = true)
    {i : Nat} {r : Rec} (hr : rs[i]? = some r) (ho : ops[i]? = some r.o) (hL : L i = false) {t k : Nat} (hk : k < ops.size) (hik : i < k) (hLk : L k = true) (hw : WT rs i t ≠ none) : WT rs k t = none := by
  obtain ⟨rk, h1, h2, h3⟩ := rec_at C.hdr hk
  unfold WT at hw ⊢
  rw [hr] at hw; rw [h1]
  simp only at hw ⊢
  split at hw
  · rename_i hd
    rw [if_neg]
    intro hd2
    rcases slots_at C.slots hik ho h2 with hp | hp
    · have := pre_closed C.pre hcl (k + 1) k rk.o (by omega) h2 (fun j hj => hcl k rk.o hLk h2 j hj) i hp
      rw [hL] at this; cases this
    · exact (apart_spec hp).2.2 t hd hd2
  · exact absurd rfl hw

theorem late_heap {n : Nat} (C : Ctx P cl E ops s s' rs pr n) {L : Nat → Bool} (hcl : ∀ (i : Nat) (o : Oper), L i = true → ops[i]? = some o → ∀ k ∈ dirs o, L k = true)
    {i : Nat} {r : Rec} (hr : rs[i]? = some r) (ho : ops[i]? = some r.o) (hL : L i = false) {x k : Nat} (hk : k < ops.size) (hik : i < k) (hLk : L k = true) (hw : WG rs i x ≠ none) : WG rs k x = none := by
  obtain ⟨rk, h1, h2, h3⟩ := rec_at C.hdr hk
  unfold WG at hw ⊢
  rw [hr] at hw; rw [h1]
  simp only at hw ⊢
  have hmem : x ∈ r.e.wr.map (·.1) := lkp_mem.1 fun h => hw (by simp [h])
  have hri : (rs.map Rec.ids)[i]? = some r.ids := by simp [hr]
  have hrk : (rs.map Rec.ids)[k]? = some rk.ids := by simp [h1]
  have : lkp rk.e.wr x = none := by
    cases hq : lkp rk.e.wr x with
    | none => rfl
    | some o =>
      have hm2 : x ∈ rk.e.wr.map (·.1) := lkp_mem.1 (by rw [hq]; simp)
      rcases heap_at C.heap hik hri hrk with hp | hp
      · have := pre_closed C.pre hcl (k + 1) k rk.o (by omega) h2 (fun j hj => hcl k rk.o hLk h2 j hj) i hp
        rw [hL] at this; cases this
      · simp only [apartH, Bool.and_eq_true] at hp
        exact absurd hm2 (disj_spec hp.1.2 hmem)
  simp [this]

theorem new_mem (h : rs.all newOk = true) {i : Nat} {r : Rec} (hr : rs[i]? = some r) {x : Nat} (h1 : r.s.nx ≤ x) (h2 : x < r.e.nx) : lkp r.e.wr x ≠ none := by
  have := (List.all_eq_true.1 h) r (List.mem_of_getElem? hr)
  have := (List.all_eq_true.1 this) (x - r.s.nx) (by simp; omega)
  rw [show r.s.nx + (x - r.s.nx) = x by omega] at this
  exact lkp_mem.2 (by simpa using this)

def cnt (listed : Array Bool) (n : Nat) : Nat := ((List.range n).filter fun k => !listed.getD k false).length

theorem filter_lt {α : Type} {p q : α → Bool} : ∀ {l : List α} {x : α}, x ∈ l → (∀ y, q y = true → p y = true) → p x = true → q x = false → (l.filter q).length < (l.filter p).length
  | [], x, h, _, _, _ => by simp at h
  | y :: l, x, h, hpq, hp, hq => by
    have hle : (l.filter q).length ≤ (l.filter p).length := by
      clear h
      induction l with
      | nil => simp
      | cons z l ih =>
        simp only [List.filter_cons]
        cases hz : q z with
        | true => rw [hpq z hz]; simpa using ih
        | false => cases p z <;> simp <;> omega
    rcases List.mem_cons.1 h with rfl | h
    · simp only [List.filter_cons, hp, hq]; simp; omega
    · have ih := filter_lt h hpq hp hq
      simp only [List.filter_cons]
      cases hy : q y with
      | true => rw [hpq y hy]; simpa using ih
      | false => cases p y <;> simp <;> omega

theorem getD_set {l : Array Bool} {i : Nat} (hi : i < l.size) (k : Nat) : (l.setIfInBounds i true).getD k false = (l.getD k false || decide (k = i)) := by
  by_cases e : k = i
  · subst e; simp [hi]
  · have : ¬ i = k := fun h => e h.symm
    simp [Array.getD_eq_getD_getElem?, Array.getElem?_setIfInBounds_ne this, e]

theorem ready_iff {listed : Array Bool} {i : Nat} (hs : listed.size = ops.size) : i ∈ Region.ready .any ops listed ↔ i < ops.size ∧ listed.getD i false = false ∧ ∀ o, ops[i]? = some o → ∀ k ∈ dirs o, listed.getD k false = true := by
  unfold Region.ready
  simp only [List.mem_filter, List.mem_range, Bool.and_eq_true, Bool.not_eq_true']
  constructor
  · rintro ⟨h1, h2, h3⟩
    refine ⟨h1, by simpa [hs, h1, Array.getD_eq_getD_getElem?] using h2, fun o ho k hk => ?_⟩
    rw [ho] at h3
    simp only [Option.map_some, Option.getD_some] at h3
    rw [← Array.all_toList] at h3
    obtain ⟨e, he, hb⟩ := List.mem_filterMap.1 hk
    split at hb
    · rename_i hbd
      cases hb
      have := (List.all_eq_true.1 h3) e he
      simpa [hbd] using this
    · cases hb
  · rintro ⟨h1, h2, h3⟩
    refine ⟨h1, by simpa [hs, h1, Array.getD_eq_getD_getElem?] using h2, ?_⟩
    have ho : ops[i]? = some ops[i] := Array.getElem?_eq_getElem h1
    rw [ho]
    simp only [Option.map_some, Option.getD_some]
    rw [← Array.all_toList, List.all_eq_true]
    intro e he
    cases hb : Region.binds .any e with
    | false => simp
    | true =>
      have := h3 _ ho e.on (List.mem_filterMap.2 ⟨e, he, by simp [hb]⟩)
      simpa using this

theorem all_listed (hp : preOk ops.toList pr = true) {listed : Array Bool} (hs : listed.size = ops.size) (h : Region.ready .any ops listed = []) : ∀ i, i < ops.size → listed.getD i false = true := by
  intro i
  induction i using Nat.strongRecOn with
  | _ i ih =>
    intro hi
    cases hl : listed.getD i false with
    | true => rfl
    | false =>
      have : i ∈ Region.ready .any ops listed := (ready_iff hs).2 ⟨hi, hl, fun o ho k hk => by
        have hq := (List.all_eq_true.1 hp) i (by simpa using hi)
        have ho' : ops.toList[i]? = some o := by simpa using ho
        rw [ho'] at hq
        simp only [Bool.and_eq_true] at hq
        have hlt : k < i := by simpa using (List.all_eq_true.1 hq.1) k hk
        exact ih k hlt (by omega)⟩
      rw [h] at this; simp at this

theorem dr_sound {n : Nat} (C : Ctx P cl E ops s s' rs pr n) {φ0 : FM} {m0 : LM} {g0 : Nat → Option Ob} {w0 : World} {Q : Exit → Act → World → Prop}
    (hq : ∀ a w, Rel P n φ0 m0 g0 w0 s' a w → Q .normal a w) : ∀ (fuel : Nat) (listed : Array Bool) (a : Act) (w : World), listed.size = ops.size → cnt listed ops.size ≤ fuel →
    (∀ (i : Nat) (o : Oper), listed.getD i false = true → ops[i]? = some o → ∀ k ∈ dirs o, listed.getD k false = true) →
    (∃ φ m, (a.tmps.size = n ∧ a.defers = []) ∧ (∀ t, VR φ m (Fw (fun i => listed.getD i false) (WT rs) (lk s.tm) ops.size t) (a.tmps.getD t undef)) ∧
      Inv φ m (fun x => Fw (fun i => listed.getD i false) (WG rs) (lkp s.hp) ops.size x) w ∧
      Fr φ0 m0 g0 w0 φ m (fun x => Fw (fun i => listed.getD i false) (WG rs) (lkp s.hp) ops.size x) w ∧
      (∀ (k : Nat) (r : Rec), rs[k]? = some r → listed.getD k false = false → ∀ x, r.s.nx ≤ x → x < r.e.nx → m x = none) ∧ ∀ x, s'.nx ≤ x → m x = none) →
    wpAny P .any ops Q fuel listed a w := by
  have fin : ∀ (listed : Array Bool) (a : Act) (w : World), listed.size = ops.size → Region.ready .any ops listed = [] →
      (∃ φ m, (a.tmps.size = n ∧ a.defers = []) ∧ (∀ t, VR φ m (Fw (fun i => listed.getD i false) (WT rs) (lk s.tm) ops.size t) (a.tmps.getD t undef)) ∧
      Inv φ m (fun x => Fw (fun i => listed.getD i false) (WG rs) (lkp s.hp) ops.size x) w ∧
      Fr φ0 m0 g0 w0 φ m (fun x => Fw (fun i => listed.getD i false) (WG rs) (lkp s.hp) ops.size x) w ∧
      (∀ (k : Nat) (r : Rec), rs[k]? = some r → listed.getD k false = false → ∀ x, r.s.nx ≤ x → x < r.e.nx → m x = none) ∧ ∀ x, s'.nx ≤ x → m x = none) → Q .normal a w := by
    intro listed a w hs hr ⟨φ, m, h1, h2, h3, h4, h5, h6⟩
    have hall := all_listed C.pre hs hr
    have e1 : ∀ t, Fw (fun i => listed.getD i false) (WT rs) (lk s.tm) ops.size t = lk s'.tm t := fun t => by
      rw [← (last_state C.hdr).1 t]; exact Fw_agree fun k hk _ => hall k hk
    have e2 : (fun x => Fw (fun i => listed.getD i false) (WG rs) (lkp s.hp) ops.size x) = lkp s'.hp := by
      funext x
      rw [← (last_state C.hdr).2 x]; exact Fw_agree fun k hk _ => hall k hk
    rw [e2] at h3 h4
    exact hq a w ⟨φ, m, ⟨h1.1, fun t => by rw [← e1 t]; exact h2 t, h3, h6, h1.2⟩, h4⟩
  intro fuel
  induction fuel with
  | zero =>
    intro listed a w hs hc hcl hJ
    have hr : Region.ready .any ops listed = [] := by
      cases hq : Region.ready .any ops listed with
      | nil => rfl
      | cons i l =>
        have hi : i ∈ Region.ready .any ops listed := by rw [hq]; simp
        obtain ⟨h1, h2, _⟩ := (ready_iff hs).1 hi
        have : i ∈ (List.range ops.size).filter fun k => !listed.getD k false := List.mem_filter.2 ⟨List.mem_range.2 h1, by rw [h2]; rfl⟩
        have hlen := List.length_pos_of_mem this
        unfold cnt at hc; omega
    exact ⟨hr, fin listed a w hs hr hJ⟩
  | succ fuel ih =>
    intro listed a w hs hc hcl hJ
    refine ⟨fun hr => fin listed a w hs hr hJ, fun i hi => ?_⟩
    obtain ⟨hi1, hi2, hi3⟩ := (ready_iff hs).1 hi
    obtain ⟨r, hr, ho, hst⟩ := rec_at C.hdr hi1
    have hd := hi3 r.o ho
    obtain ⟨φ, m, h1, h2, h3, h4, h5, h6⟩ := hJ
    have hmem : r.o ∈ ops.toList := List.mem_of_getElem? (i := i) (by simpa using ho)
    have hslot : ∀ {t : Nat}, t ∈ r.o.looksAt ops → Fw (fun i => listed.getD i false) (WT rs) (lk s.tm) ops.size t = lk r.s.tm t := fun ht => same_slot C hcl hr ho hi2 hd ht
    refine stp_sound (n := n) C.hcls ho hst ?_ ?_ (fun j hj => same_heap C hcl hr ho hi2 hd hj) h1.1 (C.dst r.o hmem) h2 h3 (fun x hx1 hx2 => ⟨h3.free (h5 i r hr hi2 x hx1 hx2), h5 i r hr hi2 x hx1 hx2⟩) ?_
    · unfold gdA
      cases hg : r.o.guard with
      | none => rfl
      | some p =>
        obtain ⟨j, want⟩ := p
        simp only
        cases hdj : (ops[j]?).bind (·.dst) with
        | none => rfl
        | some d =>
          simp only
          rw [hslot (by unfold Oper.looksAt; simp [hg, hdj])]
    · refine opv_congr fun x hx => ?_
      cases x with
      | tmp t =>
        show Fw _ _ _ _ t = lk r.s.tm t
        exact hslot (by unfold Oper.looksAt; refine List.mem_append.2 (.inl (List.mem_filterMap.2 ⟨.tmp t, hx, rfl⟩)))
      | _ => rfl
    · intro cv w' hp
      obtain ⟨φ', m', p1, p2, p3, p4⟩ := hp
      have hsl : i < listed.size := by omega
      have hL' : (fun k => (listed.setIfInBounds i true).getD k false) = fun k => listed.getD k false || decide (k = i) := by funext k; exact getD_set hsl k
      have hWT : ∀ t, Fw (fun k => (listed.setIfInBounds i true).getD k false) (WT rs) (lk s.tm) ops.size t = match r.o.dst with | some d => if d = t then r.e.v else Fw (fun i => listed.getD i false) (WT rs) (lk s.tm) ops.size t | none => Fw (fun i => listed.getD i false) (WT rs) (lk s.tm) ops.size t := by
        intro t
        rw [hL', Fw_add hi1 hi2 fun k hk hik hLk hw => late_slot C hcl hr ho hi2 hk hik hLk hw]
        have : WT rs i t = if r.o.dst = some t then some r.e.v else none := by unfold WT; rw [hr]
        rw [this]
        cases hdd : r.o.dst with
        | none => simp
        | some d =>
          by_cases e : d = t
          · simp [e]
          · simp [e]
      have hWG : (fun x => Fw (fun k => (listed.setIfInBounds i true).getD k false) (WG rs) (lkp s.hp) ops.size x) = upd (fun x => Fw (fun i => listed.getD i false) (WG rs) (lkp s.hp) ops.size x) r.e.wr := by
        funext x
        rw [hL', Fw_add hi1 hi2 fun k hk hik hLk hw => late_heap C hcl hr ho hi2 hk hik hLk hw]
        have : WG rs i x = (lkp r.e.wr x).map some := by unfold WG; rw [hr]
        rw [this, upd_get]
        cases lkp r.e.wr x <;> rfl
      obtain ⟨q1, q2⟩ := put_VR h1.1 (C.dst r.o hmem) h2 p3.φle p3.ext p1
      refine ih (listed.setIfInBounds i true) _ _ (by simpa using hs) ?_ ?_ ⟨φ', m', ⟨q1, by rw [put_df]; exact h1.2⟩, fun t => by rw [hWT t]; exact q2 t, by rw [hWG]; exact p2, by rw [hWG]; exact h4.trans p3, ?_, ?_⟩
      · have : cnt (listed.setIfInBounds i true) ops.size < cnt listed ops.size := by
          unfold cnt
          refine filter_lt (x := i) (by simpa using hi1) (fun y hy => ?_) (by rw [hi2]; rfl) (by rw [getD_set hsl]; simp)
          rw [getD_set hsl] at hy
          simp only [Bool.not_or, Bool.and_eq_true] at hy
          exact hy.1
        omega
      · intro k o hk hko j hj
        rw [getD_set hsl] at hk ⊢
        simp only [Bool.or_eq_true, decide_eq_true_eq] at hk ⊢
        rcases hk with hk | rfl
        · exact .inl (hcl k o hk hko j hj)
        · rw [ho] at hko; cases hko
          exact .inl (hd j hj)
      · intro k rk hrk hLk x hx1 hx2
        rw [getD_set hsl] at hLk
        simp only [Bool.or_eq_false_iff, decide_eq_false_iff_not] at hLk
        refine p4 x ?_ (h5 k rk hrk hLk.1 x hx1 hx2)
        rcases Nat.lt_trichotomy k i with h | h | h
        · right
          cases hq : lkp r.e.wr x with
          | none => rfl
          | some ob =>
            have hm1 : x ∈ r.e.wr.map (·.1) := lkp_mem.1 (by rw [hq]; simp)
            have hm2 : x ∈ rk.e.wr.map (·.1) := lkp_mem.1 (new_mem C.new hrk hx1 hx2)
            have hri : (rs.map Rec.ids)[i]? = some r.ids := by simp [hr]
            have hrk' : (rs.map Rec.ids)[k]? = some rk.ids := by simp [hrk]
            rcases heap_at C.heap h hrk' hri with hp | hp
            · have := pre_closed C.pre hcl (i + 1) i r.o (by omega) ho hd k hp
              rw [hLk.1] at this; cases this
            · simp only [apartH, Bool.and_eq_true] at hp
              exact absurd hm1 (disj_spec hp.1.2 hm2)
        · exact absurd h hLk.2
        · left
          have := nx_mono C.hdr i k r rk hr hrk h
          omega
      · intro x hx
        exact p4 x (.inl (Nat.le_trans (nx_last C.hdr i r hr) hx)) (h6 x hx)
end
end Go.Proofs.Ytfhglldoejeedaa.Am
