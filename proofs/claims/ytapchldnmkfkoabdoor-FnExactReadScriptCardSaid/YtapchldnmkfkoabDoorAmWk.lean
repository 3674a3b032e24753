import Derived.Test.YtapchldnmkfkoabDoorAmTr
set_option linter.unusedVariables false
set_option linter.unusedSimpArgs false
set_option linter.unusedSectionVars false
namespace Go.Proofs.YtapchldnmkfkoabDoor.Am
open Go

/-! ## A state in a plainer form: temporaries forgotten, objects renumbered or forgotten, nil rows as empty own ones -/
mutual
/-- The first value says no more than the second one. -/
def wv (fl : List Nat) (z : Nat) : AV → AV → Prop
  | .any, _ => True
  | .agg cs, v => match v with | .agg ds => cs.all AV.one = true ∧ wvL fl z cs ds | _ => False
  | .tup cs, v => match v with | .tup ds => wvL fl z cs ds | _ => False
  | .func fn a c, v => match v with | .func fn' a' c' => fn = fn' ∧ wvL fl z a a' ∧ wvL fl z c c' | _ => False
  | .osl j o l t, v => match v with
    | .osl i o' l' t' => fl[j]? = some i ∧ o = o' ∧ l = l' ∧ t = t'
    | .nilsl => (∃ i, fl[j]? = some i ∧ z ≤ i) ∧ o = 0 ∧ l = 0 ∧ t = 0
    | _ => False
  | .optr j o t, v => match v with | .optr i o' t' => fl[j]? = some i ∧ o = o' ∧ t = t' | _ => False
  | .eptr j x o t, v => match v with | .eptr i x' o' t' => fl[j]? = some i ∧ x = x' ∧ o = o' ∧ t = t' | _ => False
  | .fsl es, v => match v with | .fsl es' => es = es' | .nilsl => es = [] | _ => False
  | .slf j t, v => match v with | .slf i t' => fl[j]? = some i ∧ t = t' | .nilp => True | .optr i o t' => fl[j]? = some i ∧ o = 0 ∧ t = t' | _ => False
  | .bool b, v => AV.bool b = v
  | .int k n, v => AV.int k n = v
  | .str s, v => AV.str s = v
  | .fptr cs o, v => AV.fptr cs o = v
  | .nilf, v => .nilf = v
  | .nilp, v => .nilp = v
  | .nilsl, v => .nilsl = v
  | .nili, v => .nili = v
  | .raw u, v => .raw u = v
def wvL (fl : List Nat) (z : Nat) : List AV → List AV → Prop
  | [], ds => ds = []
  | c :: cs, ds => match ds with | d :: ds => wv fl z c d ∧ wvL fl z cs ds | [] => False
end

def wo (fl : List Nat) (z : Nat) : Ob → Option Ob → Prop
  | .box cs, o => match o with | some (.box ds) => cs.all AV.one = true ∧ wvL fl z cs ds | _ => False
  | .arr e es r, o => o = some (.arr e es r)
  | .gone n, o => o = some (.gone n)
  | .nar z es zs, o => match o with | some (.nar z' es' zs') => z = z' ∧ zs = zs' ∧ es = es' ∧ idsL es = [] | _ => False
  | .bld t c, o => match o with | some (.bld t' d) => t = t' ∧ c.one = true ∧ wv fl z c d | _ => False

/-- An object, at its old number; past all old numbers: an empty row. -/
def wob (g : Nat → Option Ob) (fl : List Nat) (z : Nat) (j : Nat) (o : Ob) : Prop := match fl[j]? with
  | some i => if z ≤ i then (match o with | .arr e [] false => 0 < e | .nar e [] _ => 0 < e | _ => False) else wo fl z o (g i)
  | none => False

def wtm (s : St) (fl : List Nat) : List (Nat × AV) → Prop
  | [] => True
  | (t, v) :: m => wv fl s.nx v (lk s.tm t) ∧ wtm s fl m
def whp (s : St) (fl : List Nat) : Hp → Prop
  | [] => True
  | (j, o) :: m => wob (lkp s.hp) fl s.nx j o ∧ whp s fl m

def pre (k : Nat) (fl : List Nat) : Bool := (List.range k).all fun i => fl[i]? == some i
def nodup : List Nat → Bool
  | [] => true
  | x :: xs => !xs.contains x && nodup xs

section
variable {P : Program} {φ : FM} {m m' : LM} {fl : List Nat} {z : Nat}
mutual
theorem wv_VR (hz : ∀ i, z ≤ i → m i = none) (hm : ∀ j i, fl[j]? = some i → (i < z → m' j = m i) ∧ (z ≤ i → ∃ e, m' j = some ⟨0, e, 0, 0, []⟩)) : ∀ (v' : AV) {v : AV} {cv : Value}, wv fl z v' v → VR φ m v cv → VR φ m' v' cv
  | .any, v, cv, _, _ => by simp [VR]
  | .agg cs, v, cv, h, r => by
    cases v <;> simp only [wv] at h <;> try exact h.elim
    simp only [VR] at r ⊢
    obtain ⟨_, a, rfl, r⟩ := r
    exact ⟨h.1, a, rfl, wvL_VR hz hm cs h.2 r⟩
  | .tup cs, v, cv, h, r => by
    cases v <;> simp only [wv] at h <;> try exact h.elim
    simp only [VR] at r ⊢
    obtain ⟨a, rfl, r⟩ := r
    exact ⟨a, rfl, wvL_VR hz hm cs h r⟩
  | .func fn a c, v, cv, h, r => by
    cases v <;> simp only [wv] at h <;> try exact h.elim
    simp only [VR] at r ⊢
    obtain ⟨f', c', rfl, r1, r2⟩ := r
    obtain ⟨rfl, h1, h2⟩ := h
    exact ⟨f', c', rfl, wvL_VR hz hm a h1 r1, wvL_VR hz hm c h2 r2⟩
  | .osl j o l t, v, cv, h, r => by
    cases v <;> simp only [wv] at h <;> try exact h.elim
    · obtain ⟨h1, rfl, rfl, rfl⟩ := h
      rename_i i
      simp only [VR] at r ⊢
      obtain ⟨r0, lc, r1, r2⟩ := r
      have hi : i < z := Nat.lt_of_not_le fun hc => by rw [hz i hc] at r1; cases r1
      exact ⟨r0, lc, by rw [(hm j i h1).1 hi]; exact r1, r2⟩
    · obtain ⟨⟨i, h1, h2⟩, rfl, rfl, rfl⟩ := h
      simp only [VR] at r ⊢
      obtain ⟨ad, rfl⟩ := r
      obtain ⟨e, he⟩ := (hm j i h1).2 h2
      exact ⟨rfl, _, he, Nat.le_refl _, fun _ => ⟨ad, rfl, fun hc => by simp at hc⟩⟩
  | .optr j o t, v, cv, h, r => by
    cases v <;> simp only [wv] at h <;> try exact h.elim
    obtain ⟨h1, rfl, rfl⟩ := h
    rename_i i
    simp only [VR] at r ⊢
    obtain ⟨r0, lc, r1, r2⟩ := r
    have hi : i < z := Nat.lt_of_not_le fun hc => by rw [hz i hc] at r1; cases r1
    exact ⟨r0, lc, by rw [(hm j i h1).1 hi]; exact r1, r2⟩
  | .eptr j x o t, v, cv, h, r => by
    cases v <;> simp only [wv] at h <;> try exact h.elim
    obtain ⟨h1, rfl, rfl, rfl⟩ := h
    rename_i i
    simp only [VR] at r ⊢
    obtain ⟨r0, lc, r1, r2⟩ := r
    have hi : i < z := Nat.lt_of_not_le fun hc => by rw [hz i hc] at r1; cases r1
    exact ⟨r0, lc, by rw [(hm j i h1).1 hi]; exact r1, r2⟩
  | .fsl es, v, cv, h, r => by
    cases v <;> simp only [wv] at h <;> try exact h.elim
    · subst h; simpa [VR] using r
    · subst h
      simp only [VR] at r ⊢
      obtain ⟨ad, rfl⟩ := r
      exact ⟨ad, 0, rfl, Nat.le_refl _, .inl rfl⟩
  | .slf j t, v, cv, h, r => by
    cases v <;> simp only [wv] at h <;> try exact h.elim
    · obtain ⟨h1, rfl, rfl⟩ := h
      rename_i i
      simp only [VR] at r ⊢
      obtain ⟨r0, lc, r1, r2, r3⟩ := r
      have hi : i < z := Nat.lt_of_not_le fun hc => by rw [hz i hc] at r1; cases r1
      exact ⟨r0, .inr ⟨lc, by rw [(hm j i h1).1 hi]; exact r1, r2, r3⟩⟩
    · simp only [VR] at r ⊢
      subst r
      exact ⟨rfl, .inl rfl⟩
    · obtain ⟨h1, rfl⟩ := h
      rename_i i
      simp only [VR] at r ⊢
      obtain ⟨r0, r⟩ := r
      refine ⟨r0, r.imp (fun h => h) ?_⟩
      rintro ⟨lc, r1, r2⟩
      have hi : i < z := Nat.lt_of_not_le fun hc => by rw [hz i hc] at r1; cases r1
      exact ⟨lc, by rw [(hm j i h1).1 hi]; exact r1, r2⟩
  | .bool b, v, cv, h, r => by simp only [wv] at h; subst h; simpa [VR] using r
  | .int k n, v, cv, h, r => by simp only [wv] at h; subst h; simpa [VR] using r
  | .str s, v, cv, h, r => by simp only [wv] at h; subst h; simpa [VR] using r
  | .fptr cs o, v, cv, h, r => by simp only [wv] at h; subst h; simpa [VR] using r
  | .nilf, v, cv, h, r => by simp only [wv] at h; subst h; simpa [VR] using r
  | .nilp, v, cv, h, r => by simp only [wv] at h; subst h; simpa [VR] using r
  | .nilsl, v, cv, h, r => by simp only [wv] at h; subst h; simpa [VR] using r
  | .nili, v, cv, h, r => by simp only [wv] at h; subst h; simpa [VR] using r
  | .raw _, v, cv, h, r => by simp only [wv] at h; subst h; simpa [VR] using r
theorem wvL_VR (hz : ∀ i, z ≤ i → m i = none) (hm : ∀ j i, fl[j]? = some i → (i < z → m' j = m i) ∧ (z ≤ i → ∃ e, m' j = some ⟨0, e, 0, 0, []⟩)) : ∀ (cs : List AV) {ds : List AV} {vs : List Value}, wvL fl z cs ds → VRL φ m ds vs → VRL φ m' cs vs
  | [], ds, vs, h, r => by simp only [wvL] at h; subst h; simpa [VRL] using r
  | c :: cs, ds, vs, h, r => by
    cases ds with
    | nil => simp [wvL] at h
    | cons d ds =>
      simp only [wvL] at h
      simp only [VRL] at r ⊢
      obtain ⟨v, vs, rfl, r1, r2⟩ := r
      exact ⟨v, vs, rfl, wv_VR hz hm c h.1 r1, wvL_VR hz hm cs h.2 r2⟩
end
end

theorem wtm_lk {s : St} {fl : List Nat} : ∀ {tm : List (Nat × AV)}, wtm s fl tm → ∀ t, wv fl s.nx (lk tm t) (lk s.tm t)
  | [], _, t => by simp [lk, lkp, wv]
  | (t', v) :: tm, h, t => by
    simp only [wtm] at h
    rw [lk_cons]
    split
    · rename_i e; subst e; exact h.1
    · exact wtm_lk h.2 t
theorem whp_lkp {s : St} {fl : List Nat} : ∀ {hp : Hp}, whp s fl hp → ∀ j o, lkp hp j = some o → wob (lkp s.hp) fl s.nx j o
  | [], _, j, o, h => by simp at h
  | (j', o') :: hp, h, j, o, hj => by
    simp only [whp] at h
    rw [lkp_cons] at hj
    split at hj
    · rename_i e; subst e; cases hj; exact h.1
    · exact whp_lkp h.2 j o hj

theorem nodup_inj : ∀ {fl : List Nat}, nodup fl = true → ∀ (i j x : Nat), fl[i]? = some x → fl[j]? = some x → i = j
  | [], _, i, j, x, h, _ => by simp at h
  | y :: ys, hn, i, j, x, h1, h2 => by
    simp only [nodup, Bool.and_eq_true, Bool.not_eq_true', List.contains_eq_mem, decide_eq_false_iff_not] at hn
    cases i with
    | zero => cases j with
      | zero => rfl
      | succ j =>
        simp at h1 h2; subst h1
        exact absurd (List.mem_of_getElem? h2) hn.1
    | succ i => cases j with
      | zero =>
        simp at h1 h2; subst h2
        exact absurd (List.mem_of_getElem? h1) hn.1
      | succ j =>
        have := nodup_inj hn.2 i j x (by simpa using h1) (by simpa using h2)
        omega

theorem pre_get {k : Nat} {fl : List Nat} (h : pre k fl = true) {i : Nat} (hi : i < k) : fl[i]? = some i := by
  unfold pre at h
  rw [List.all_eq_true] at h
  simpa using h i (List.mem_range.2 hi)

def eszOf (hp : Hp) (j : Nat) : Nat := match lkp hp j with | some (.arr e _ _) => e | some (.nar e _ _) => e | _ => 1

/-- The plainer state: 'fl' tells the old number of each object (past all: an empty row). -/
theorem Wk.of {P : Program} {Γ : Cx} {s s' : St} (fl : List Nat) (hnx : fl.length ≤ s'.nx) (hpre : pre Γ.k fl = true) (hk : Γ.k ≤ s.nx) (hnd : nodup fl = true) (htm : wtm s fl s'.tm) (hhp : whp s fl s'.hp) : Wk P Γ s s' := by
  intro a w ⟨φ, m, h1, h2⟩
  let m' : LM := fun j => match fl[j]? with
    | some i => if s.nx ≤ i then some ⟨0, eszOf s'.hp j, 0, 0, []⟩ else m i
    | none => none
  have hm : ∀ j i, fl[j]? = some i → (i < s.nx → m' j = m i) ∧ (s.nx ≤ i → ∃ e, m' j = some ⟨0, e, 0, 0, []⟩) := by
    intro j i hj
    refine ⟨fun hi => ?_, fun hi => ⟨eszOf s'.hp j, ?_⟩⟩
    · have : ¬ s.nx ≤ i := by omega
      simp [m', hj, this]
    · simp [m', hj, hi]
  have obr : ∀ j o, lkp s'.hp j = some o → ∃ l, m' j = some l ∧ ObR φ m' w l o ∧ (∀ b, o.fp l b → ∃ i o', fl[j]? = some i ∧ i < s.nx ∧ lkp s.hp i = some o' ∧ m i = some l ∧ o'.fp l b) := by
    intro j o hj
    have hw := whp_lkp hhp j o hj
    unfold wob at hw
    cases hf : fl[j]? with
    | none => rw [hf] at hw; exact hw.elim
    | some i =>
      rw [hf] at hw
      dsimp only at hw
      by_cases hi : s.nx ≤ i
      · rw [if_pos hi] at hw
        split at hw
        · rename_i e
          refine ⟨⟨0, eszOf s'.hp j, 0, 0, []⟩, by simp [m', hf, hi], ?_, fun b h => by have := h.1; simp at this⟩
          have he : eszOf s'.hp j = e := by simp [eszOf, hj]
          rw [he]
          refine ⟨rfl, (fun cs h => by cases h), fun esz es ro h => ?_, trivial⟩
          cases h; exact ⟨rfl, hw, by simp, Nat.le_refl _, .inl rfl⟩
        · rename_i e zs
          refine ⟨⟨0, eszOf s'.hp j, 0, 0, []⟩, by simp [m', hf, hi], ?_, fun b h => by
            rcases h with h | h
            · have := h.1; simp at this
            · simp at h⟩
          have he : eszOf s'.hp j = e := by simp [eszOf, hj]
          rw [he]
          exact ⟨rfl, (fun cs h => by cases h), (fun _ _ _ h => by cases h), ⟨rfl, hw, by simp, Nat.le_refl _, by simp, [], fun _ => none, ⟨rfl, by simp, by simp, fun _ _ => rfl⟩, by simp, .inl rfl⟩⟩
        · exact hw.elim
      · rw [if_neg hi] at hw
        cases o with
        | box cs =>
          unfold wo at hw
          cases hg : lkp s.hp i with
          | none => rw [hg] at hw; exact hw.elim
          | some o2 =>
          rw [hg] at hw
          cases o2 with
          | arr _ _ _ => exact hw.elim
          | gone _ => exact hw.elim
          | bld _ _ => exact hw.elim
          | nar _ _ _ => exact hw.elim
          | box ds =>
            dsimp only at hw
            obtain ⟨l, hl, hr⟩ := h1.inv.own i _ hg
            refine ⟨l, by rw [(hm j i hf).1 (by omega)]; exact hl, ?_, fun _ hb => ⟨i, _, rfl, by omega, hg, hl, hb⟩⟩
            obtain ⟨q1, ⟨q2, q3⟩, q4, q5, ar, t, q6, q7⟩ := hr.box ds rfl
            have hlen : cs.length = ds.length := by
              have a1 := VRL_len q7
              have a2 := VRL_len (wvL_VR h1.fr hm cs hw.2 q7)
              omega
            refine ⟨by rw [hr.top]; simp only [Ob.len]; exact hlen.symm, fun cs' h => ?_, (fun _ _ _ h => by cases h), trivial⟩
            cases h
            exact ⟨q1, ⟨by rw [q2, hlen], q3⟩, q4, hw.1, ar, t, q6, wvL_VR h1.fr hm cs hw.2 q7⟩
        | arr e es r =>
          unfold wo at hw
          obtain ⟨l, hl, hr⟩ := h1.inv.own i _ hw
          refine ⟨l, by rw [(hm j i hf).1 (by omega)]; exact hl, ⟨hr.top, (fun _ h => by cases h), fun e' es' r' h => ?_, trivial⟩, fun _ hb => ⟨i, _, rfl, by omega, hw, hl, hb⟩⟩
          cases h
          exact hr.arr e es r rfl
        | gone n =>
          unfold wo at hw
          obtain ⟨l, hl, hr⟩ := h1.inv.own i _ hw
          exact ⟨l, by rw [(hm j i hf).1 (by omega)]; exact hl, ⟨hr.top, (fun _ h => by cases h), (fun _ _ _ h => by cases h), hr.oth⟩, fun _ hb => ⟨i, _, rfl, by omega, hw, hl, hb⟩⟩
        | nar z es zs =>
          unfold wo at hw
          cases hg : lkp s.hp i with
          | none => rw [hg] at hw; exact hw.elim
          | some o2 =>
          rw [hg] at hw
          cases o2 with
          | nar z2 es2 zs2 =>
            dsimp only at hw
            obtain ⟨rfl, rfl, rfl, hno⟩ := hw
            obtain ⟨l, hl, hr⟩ := h1.inv.own i _ hg
            obtain ⟨a1, a2, a3, a4, a5, vs, F, a6, a7, a8⟩ := hr.oth
            refine ⟨l, by rw [(hm j i hf).1 (by omega)]; exact hl, ⟨hr.top, (fun _ h => by cases h), (fun _ _ _ h => by cases h), ⟨a1, a2, a3, a4, a5, vs, F, ⟨a6.1, fun k c v hc hv => ?_, a6.2.2⟩, a7, a8⟩⟩, fun _ hb => ⟨i, _, rfl, by omega, hg, hl, hb⟩⟩
            rcases a6.2.1 k c v hc hv with ⟨h1, h2, h3⟩ | h
            · refine .inl ⟨h1, ?_, h3⟩
              have hci : ids c = [] := by
                apply List.eq_nil_iff_forall_not_mem.2
                intro x hx
                have := idsL_cells (idsL_get hc hx)
                rw [hno] at this; simp at this
              exact VR.mono (FM.le_refl _) c (Ext.none m') (noids_VR (FM.le_refl _) c hci h2)
            · exact .inr h
          | _ => exact hw.elim
        | bld t c =>
          unfold wo at hw
          cases hg : lkp s.hp i with
          | none => rw [hg] at hw; exact hw.elim
          | some o2 =>
          rw [hg] at hw
          cases o2 with
          | bld t2 d =>
            dsimp only at hw
            obtain ⟨rfl, hc1, hw⟩ := hw
            obtain ⟨l, hl, hr⟩ := h1.inv.own i _ hg
            obtain ⟨a1, a2, a3, a4, v0, v1, a5, a6, a7⟩ := hr.oth
            exact ⟨l, by rw [(hm j i hf).1 (by omega)]; exact hl, ⟨hr.top, (fun _ h => by cases h), (fun _ _ _ h => by cases h), ⟨a1, a2, a3, hc1, v0, v1, a5, a6, wv_VR h1.fr hm c hw a7⟩⟩, fun _ hb => ⟨i, _, rfl, by omega, hg, hl, hb⟩⟩
          | _ => exact hw.elim
  refine ⟨φ, m', ⟨h1.sz, fun t => wv_VR h1.fr hm _ (wtm_lk htm t) (h1.vr t), ⟨h1.inv.fz, fun j o hj => ?_, ?_⟩, fun j hj => ?_, h1.df⟩, ?_⟩
  · obtain ⟨l, q1, q2, _⟩ := obr j o hj
    exact ⟨l, q1, q2⟩
  · intro id id' ob ob' l l' b hg hg' hl hl' hne hc hc'
    obtain ⟨k1, a1, _, a3⟩ := obr id ob hg
    obtain ⟨k2, b1, _, b3⟩ := obr id' ob' hg'
    rw [hl] at a1; cases a1
    rw [hl'] at b1; cases b1
    obtain ⟨i, o, e1, e2, e3, e4, e5⟩ := a3 b hc
    obtain ⟨i', o', f1, f2, f3, f4, f5⟩ := b3 b hc'
    refine h1.inv.sep i i' o o' l l' b e3 f3 e4 f4 (fun e => hne ?_) e5 f5
    subst e
    exact nodup_inj hnd id id' i e1 f1
  · have : fl[j]? = none := by rw [List.getElem?_eq_none_iff]; omega
    simp [m', this]
  · refine ⟨h2.φle, ?_, h2.os, h2.tape, h2.output, h2.size, h2.old, h2.newφ, ?_⟩
    · intro id l hl
      have hid : id < Γ.k := Nat.lt_of_not_le fun hc => by rw [Γ.hk id hc] at hl; cases hl
      obtain ⟨l', q1, q2, q3⟩ := h2.ext id l hl
      refine ⟨l', ?_, q2, q3⟩
      rw [(hm id id (pre_get hpre hid)).1 (by omega)]; exact q1
    · rintro b ⟨id, ob, l, hg, hl, hc⟩
      obtain ⟨k1, a1, _, a3⟩ := obr id ob hg
      rw [hl] at a1; cases a1
      obtain ⟨i, o, e1, e2, e3, e4, e5⟩ := a3 b hc
      exact h2.newm _ ⟨i, o, l, e3, e4, e5⟩

@[simp] theorem wtm_nil {s fl} : wtm s fl [] = True := rfl
@[simp] theorem wtm_cons {s fl t v m} : wtm s fl ((t, v) :: m) = (wv fl s.nx v (lk s.tm t) ∧ wtm s fl m) := rfl
@[simp] theorem whp_nil {s fl} : whp s fl [] = True := rfl
@[simp] theorem whp_cons {s fl j o m} : whp s fl ((j, o) :: m) = (wob (lkp s.hp) fl s.nx j o ∧ whp s fl m) := rfl
attribute [simp] wv wvL wo wob
theorem Wk.ofk {P : Program} {Γ : Cx} {s s' : St} {k : Nat} (fl : List Nat) (hk : Γ.k = k) (hc : (pre k fl && (decide (k ≤ s.nx) && (nodup fl && decide (fl.length ≤ s'.nx)))) = true) (htm : wtm s fl s'.tm) (hhp : whp s fl s'.hp) : Wk P Γ s s' := by
  simp only [Bool.and_eq_true, decide_eq_true_eq] at hc
  exact Wk.of fl hc.2.2.2 (by rw [hk]; exact hc.1) (by rw [hk]; exact hc.2.1) hc.2.2.1 htm hhp
end Go.Proofs.YtapchldnmkfkoabDoor.Am
