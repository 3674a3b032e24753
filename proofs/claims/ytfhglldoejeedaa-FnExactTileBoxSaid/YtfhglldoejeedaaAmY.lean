import Derived.Test.YtfhglldoejeedaaAmX
namespace Go.Proofs.Ytfhglldoejeedaa.Am
open Go

variable {P : Program}

def ClS' (P : Program) (cl : Cl) : Prop := ∀ f args obs v obs', cl f args obs = some (v, obs') → Bodied P f ∧ CallOK P f args obs v obs'

section
variable {φ : FM} {m : LM} {g gi : Nat → Option Ob} {w w' : World}

mutual
theorem plain_none {φ φ2 : FM} {m : LM} (hm : ∀ i, m i = none) : ∀ (v : AV) {cv : Value}, plain v = true → VR φ m v cv → VR φ2 LM.none v cv
  | .any, _, h, _ => by simp [plain] at h
  | .bool _, _, _, h => by simpa [VR] using h
  | .int _ _, _, _, h => by simpa [VR] using h
  | .str _, _, _, h => by simpa [VR] using h
  | .agg cs, _, hp, h => by
    simp only [plain] at hp
    simp only [VR] at h ⊢
    obtain ⟨h1, a, rfl, h2⟩ := h
    exact ⟨h1, a, rfl, plainL_none hm cs hp h2⟩
  | .tup cs, _, hp, h => by
    simp only [plain] at hp
    simp only [VR] at h ⊢
    obtain ⟨a, rfl, h2⟩ := h
    exact ⟨a, rfl, plainL_none hm cs hp h2⟩
  | .fsl _, _, h, _ => by simp [plain] at h
  | .fptr _ _, _, h, _ => by simp [plain] at h
  | .func _ _ _, _, h, _ => by simp [plain] at h
  | .osl id _ _ _, _, _, h => by simp only [VR] at h; obtain ⟨_, l, h1, _⟩ := h; rw [hm] at h1; cases h1
  | .optr id _ _, _, _, h => by simp only [VR] at h; obtain ⟨_, l, h1, _⟩ := h; rw [hm] at h1; cases h1
  | .eptr id _ _ _, _, _, h => by simp only [VR] at h; obtain ⟨_, l, h1, _⟩ := h; rw [hm] at h1; cases h1
  | .nilf, _, _, h => by simpa [VR] using h
  | .nilp, _, _, h => by simpa [VR] using h
  | .nilsl, _, _, h => by simpa [VR] using h
  | .nili, _, _, h => by simpa [VR] using h
theorem plainL_none {φ φ2 : FM} {m : LM} (hm : ∀ i, m i = none) : ∀ (v : List AV) {cv : List Value}, plainL v = true → VRL φ m v cv → VRL φ2 LM.none v cv
  | [], _, _, h => by simpa [VRL] using h
  | c :: cs, _, hp, h => by
    simp only [plainL, Bool.and_eq_true] at hp
    simp only [VRL] at h ⊢
    obtain ⟨v, vs, rfl, h1, h2⟩ := h
    exact ⟨v, vs, rfl, plain_none hm c hp.1 h1, plainL_none hm cs hp.2 h2⟩
end

/-- What is own of these numbers, frozen for a while. -/
noncomputable def lend (φ : FM) (m : LM) (g : Nat → Option Ob) (w : World) (is : List Nat) : FM := fun b =>
  open Classical in if ∃ i ∈ is, ∃ ob l, g i = some ob ∧ m i = some l ∧ 0 < l.cap ∧ l.blk = b then w.heap[b]? else φ b

theorem lend_le (hi : Inv φ m g w) (is : List Nat) : φ.le (lend φ m g w is) := by
  intro b o h
  unfold lend
  split
  · exact hi.fz b o h
  · exact h

theorem lend_fz (hi : Inv φ m g w) (is : List Nat) : ∀ b o, lend φ m g w is b = some o → w.heap[b]? = some o := by
  intro b o h
  unfold lend at h
  split at h
  · exact h
  · exact hi.fz b o h

theorem lend_cov (is : List Nat) : Cov (lend φ m g w is) m g w is := by
  intro i hi' ob l h1 h2 h3
  unfold lend
  rw [if_pos ⟨i, hi', ob, l, h1, h2, h3, rfl⟩]

theorem lend_mem (hi : Inv φ m g w) {is : List Nat} {id : Nat} {cs : List AV} {l : Loc} (h1 : g id = some (.box cs)) (h2 : m id = some l) (h3 : lend φ m g w is l.blk = w.heap[l.blk]?) : id ∈ is := by
  obtain ⟨l', hm, hr⟩ := hi.own id _ h1
  rw [h2] at hm; cases hm
  obtain ⟨_, a2, a3, _, a, t, a5, _⟩ := hr.box cs rfl
  unfold lend at h3
  split at h3
  · rename_i hq
    obtain ⟨i, hi', ob, l', k1, k2, k3, k4⟩ := hq
    by_cases e : i = id
    · rw [← e]; exact hi'
    · exact absurd k4 (hi.sep i id ob _ l' l k1 h1 k2 h2 e k3 a2.2)
  · rw [a3, a5] at h3; cases h3

theorem lend_box (hi : Inv φ m g w) {is : List Nat} (hg : ∀ i ∈ is, g i = gi i) (hc : ∀ i ∈ is, ∀ ob, g i = some ob → ∀ j ∈ ob.ids, j ∈ is) : ∀ (d : Nat),
    ∀ id cs cs' l, g id = some (.box cs) → m id = some l → lend φ m g w is l.blk = w.heap[l.blk]? → bxD gi d cs = some cs' → VRC (lend φ m g w is) cs' l.blk 0
  | 0, _, _, _, _, _, _, _, h => by simp [bxD] at h
  | d + 1, id, cs, cs', l, h1, h2, h3, h => by
    simp only [bxD] at h
    have hid := lend_mem hi h1 h2 h3
    obtain ⟨l', hm, hr⟩ := hi.own id _ h1
    rw [h2] at hm; cases hm
    obtain ⟨_, a2, a3, a4, a, t, a5, a6⟩ := hr.box cs rfl
    have hsub : ∀ i ∈ idsL cs, i ∈ is := fun i hi' => hc id hid _ h1 i hi'
    have := frzWL_sound hi (lend_le hi is) (bxD gi d) (lend_box hi hg hc d) cs h (fun i hi' => hg i (hsub i hi')) (fun i hi' => lend_cov is i (hsub i hi')) a6
    refine VRC_of this (frzWL_one h a4) fun j v hj => ?_
    unfold FM.cell
    rw [h3, a5]
    simpa using hj

theorem inv_same (hi : Inv φ m g w) (hh : ∀ b, b < w.heap.size → w'.heap[b]? = w.heap[b]?) : Inv φ m g w' := by
  refine ⟨fun b o h => ?_, fun id ob h => ?_, hi.sep⟩
  · have := hi.fz b o h
    rw [hh b (Array.getElem?_eq_some_iff.1 this).1]; exact this
  · obtain ⟨l, hm, hr⟩ := hi.own id ob h
    refine ⟨l, hm, hr.top, fun cs e => ?_, fun esz es ro e => ?_⟩
    · obtain ⟨a1, a2, a3, a4, a, t, a5, a6⟩ := hr.box cs e
      exact ⟨a1, a2, a3, a4, a, t, by rw [hh _ (Array.getElem?_eq_some_iff.1 a5).1]; exact a5, a6⟩
    · obtain ⟨a1, a2, a3, a4, a5⟩ := hr.arr esz es ro e
      refine ⟨a1, a2, a3, a4, ?_⟩
      rcases a5 with h0 | ⟨a, t, a5, a6⟩
      · exact .inl h0
      · exact .inr ⟨a, t, by rw [hh _ (Array.getElem?_eq_some_iff.1 a5).1]; exact a5, a6⟩

theorem Inv.none (hi : Inv φ m g w) : Inv φ LM.none (fun k => ([] : List Ob)[k]?) w := ⟨hi.fz, fun i ob h => by simp at h, fun i i' ob ob' l l' h => by simp at h⟩

theorem call_sound {cl : Cl} {E : FuncId → Md} {f : FuncId} {args : List AV} {cargs : Array Value} {nx : Nat} {e : Eff}
    (h : callV cl E f args gi nx = some e) (hcl : ClS' P cl) (hg : ∀ j ∈ e.rd, g j = gi j) (hinv : Inv φ m g w) (hv : VRL φ m args cargs.toList)
    (hf : ∀ i, nx ≤ i → i < e.nx → g i = none ∧ m i = none) :
    Bodied P f ∧ Calls P f cargs w fun ee w' => ∃ cv, ee = .returned cv ∧ Post φ m g w e cv w' := by
  unfold callV at h
  simp only at h
  generalize hisd : clo gi 3 (addTo [] (idsL args)) = is at h
  have hnd : is.Nodup := by rw [← hisd]; exact nodup_clo _ _ _ (nodup_addTo _ _ (by simp))
  have hin : ∀ i ∈ idsL args, i ∈ is := fun i hi => by rw [← hisd]; exact mem_clo _ _ _ _ (ids_mem.2 hi)
  split at h
  · cases h
  rename_i hcd
  simp only [Bool.not_eq_true, Bool.not_eq_false'] at hcd
  split at h
  · -- what is own is handed over
    split at h
    · cases h
    rename_i sub hsub
    split at h
    · cases h
    rename_i v obs' hc
    simp only [Option.some.injEq] at h; subst h
    obtain ⟨hb, hok⟩ := hcl _ _ _ _ _ hc
    refine ⟨hb, ?_⟩
    obtain ⟨s1, s2⟩ := outOf_get hsub
    have s3 : ∀ (k i : Nat), is[k]? = some i → ∃ ob, sub[k]? = some ob ∧ g i = some ob := fun k i hk => by
      obtain ⟨ob, h1, h2⟩ := s2 k i hk
      exact ⟨ob, h1, by rw [hg i (List.mem_of_getElem? hk), h2]⟩
    have hcl2 : ∀ i ∈ is, ∀ ob, g i = some ob → ∀ j ∈ ob.ids, j ∈ is := fun i hi ob h1 j hj => closed_mem hcd hi (by rw [← hg i hi]; exact h1) hj
    have hsubI := inv_sub hinv hnd s1 s3 hcl2
    have hargs : VRL φ (subM m is) (renL (ixOf is) args) cargs.toList := renL_VRL args (fun i hi l hl => by unfold subM; rw [ixOf_get (hin i hi)]; exact hl) hv
    refine (hok φ (subM m is) w cargs hargs hsubI (fun i hi => ?_)).mono fun ee w' => ?_
    · unfold subM
      rw [List.getElem?_eq_none (by simpa [s1] using hi)]
    · rintro ⟨cv, rfl, φ', m', h1, h2, h3, h4, h5⟩
      have h5' : is.length ≤ obs'.length := by simpa [s1] using h5
      simp only [List.length_map] at hf
      obtain ⟨m2, p1, p2, p3, p4⟩ := merge hinv hnd s1 s3 hf h5' h4 h2 h3 h1
      exact ⟨cv, rfl, φ', m2, p1, p2, p3, by simpa using p4⟩
  · split at h
    · cases h
    rename_i args' hfz
    split at h
    · cases h
    rename_i v obs' hc
    obtain ⟨hb, hok⟩ := hcl _ _ _ _ _ hc
    refine ⟨hb, ?_⟩
    split at h
    · cases h
    rename_i ro hro
    simp only [Option.some.injEq] at h; subst h
    simp only at hg hf
    have sim : (fun i => if i < ([] : List Nat).length then ([] : List Nat).getD i 0 else nx + (i - ([] : List Nat).length)) = (nx + ·) := by funext i; simp
    -- the callee has no own objects; what it hands back comes in
    have fin : ∀ {φ1 : FM} {g1 : Nat → Option Ob} (_ : Inv φ1 m g1 w) (_ : VRL φ1 LM.none args' cargs.toList) (_ : ∀ i, nx ≤ i → i < nx + obs'.length → g1 i = none ∧ m i = none),
        Calls P f cargs w fun ee w' => ∃ cv, ee = .returned cv ∧ ∃ φ' m', VR φ' m' (ren (nx + ·) v) cv ∧ Inv φ' m' (upd g1 (zipAt nx (obs'.map (Ob.ren (nx + ·))))) w' ∧ Fr φ1 m g1 w φ' m' (upd g1 (zipAt nx (obs'.map (Ob.ren (nx + ·))))) w' ∧ ∀ i, (nx + obs'.length ≤ i ∨ lkp (zipAt nx (obs'.map (Ob.ren (nx + ·)))) i = none) → m i = none → m' i = none := by
      intro φ1 g1 i1 a1 fr1
      refine (hok φ1 LM.none w cargs a1 i1.none (fun _ _ => rfl)).mono fun ee w' => ?_
      rintro ⟨cv, rfl, φ', m', h1, h2, h3, h4, h5⟩
      have e0 : subM m [] = LM.none := by funext i; simp [subM, LM.none]
      obtain ⟨m2, p1, p2, p3, p4⟩ := merge (obs := []) (js := []) i1 (by simp) rfl (by simp) (by simpa using fr1) (by simp) h4 h2 (by rw [e0]; exact h3) h1
      rw [sim] at p1 p2 p3
      simp only [zipTo, List.nil_append, List.length_nil, List.drop_zero] at p2 p3
      rw [sim] at p4
      simp only [zipTo, List.nil_append, List.length_nil, List.drop_zero, Nat.sub_zero] at p4
      exact ⟨cv, rfl, φ', m2, p1, p2, p3, p4⟩
    split at hro
    · rename_i hcond
      simp only [Option.some.injEq] at hro; subst hro
      simp only [List.append_nil] at hf ⊢
      by_cases he : is = []
      · -- nothing own among the arguments
        have hids : ∀ i, i ∉ idsL args := fun i hi => by have := hin i hi; rw [he] at this; simp at this
        have ha : VRL φ LM.none args' cargs.toList := frzWL_sound (φ2 := φ) hinv (FM.le_refl _) (bxD gi 3) (no_box hinv _) args hfz (fun i hi => absurd hi (hids i)) (fun i hi => absurd hi (hids i)) hv
        refine (fin hinv ha hf).mono fun ee w' => ?_
        rintro ⟨cv, rfl, φ', m', h1, h2, h3, h4⟩
        exact ⟨cv, rfl, φ', m', h1, h2, h3, h4⟩
      · -- the result is plain: what was lent comes back as it was
        have hpl : plain v = true ∧ obs' = [] := by
          simp only [Bool.or_eq_true, List.isEmpty_iff, Bool.and_eq_true] at hcond
          exact hcond.resolve_left he
        obtain ⟨hpv, rfl⟩ := hpl
        simp only [List.map_nil, zipAt, List.length_nil, Nat.add_zero] at hf ⊢
        have hcl2 : ∀ i ∈ is, ∀ ob, g i = some ob → ∀ j ∈ ob.ids, j ∈ is := fun i hi ob h1 j hj => closed_mem hcd hi (by rw [← hg i hi]; exact h1) hj
        have ha : VRL (lend φ m g w is) LM.none args' cargs.toList := frzWL_sound hinv (lend_le hinv is) (bxD gi 3) (lend_box hinv hg hcl2 3) args hfz (fun i hi => hg i (hin i hi))
          (fun i hi => lend_cov is i (hin i hi)) hv
        have i1 : Inv (lend φ m g w is) LM.none (fun k => ([] : List Ob)[k]?) w := ⟨lend_fz hinv is, fun i ob h => by simp at h, fun i i' ob ob' l l' h => by simp at h⟩
        refine (hok _ LM.none w cargs ha i1 (fun _ _ => rfl)).mono fun ee w' => ?_
        rintro ⟨cv, rfl, φ', m', h1, h2, h3, h4, h5⟩
        have hsame : ∀ b, b < w.heap.size → w'.heap[b]? = w.heap[b]? := fun b hb => h3.old b hb (by rintro ⟨i, ob, l, k, _⟩; simp at k)
        refine ⟨cv, rfl, φ, m, ren_VR v (fun i _ l hl => by simp [LM.none] at hl) (plain_none (fun i => h4 i (by simp)) v hpv h1), ?_, ?_, fun _ _ h => h⟩
        · rw [upd_nil]; exact inv_same hinv hsame
        · rw [upd_nil]; exact ⟨FM.le_refl _, Ext.refl _, h3.os, h3.tape, h3.output, h3.size, fun b hb _ => hsame b hb, fun b o h => .inl h, fun b h => .inr h⟩
    · obtain ⟨φ1, i1, f1, c1, n1, s1, t1⟩ := ro_sound hro hg hinv hnd
      have hcov : Cov φ1 m g w (idsL args) := by
        intro i hi' ob l h1 h2 h3
        rcases t1 i _ h1 with h | ⟨_, _, _, _, h⟩
        · exact c1 i (hin i hi') _ l h h2 h3
        · exact c1 i (hin i hi') _ l h h2 h3
      have ha : VRL φ1 LM.none args' cargs.toList := frzWL_sound hinv f1.φle (bxD gi 3) (fun id cs cs' l h1 h2 h3 _ => by
          have h4 : upd g ro id = some (.box cs) := by
            rcases t1 id _ h1 with h | ⟨_, _, _, h, _⟩
            · exact h
            · cases h
          exact no_box i1 (fun _ => some cs') id cs cs' l h4 h2 h3 rfl) args hfz (fun i hi => hg i (hin i hi)) hcov hv
      refine (fin i1 ha (fun i h1 h2 => ⟨?_, (hf i h1 h2).2⟩)).mono fun ee w' => ?_
      · cases hq : upd g ro i with
        | none => rfl
        | some ob =>
          obtain ⟨ob', h3, _⟩ := s1 i ob hq
          rw [(hf i h1 h2).1] at h3; cases h3
      · rintro ⟨cv, rfl, φ', m', h1, h2, h3, h4⟩
        refine ⟨cv, rfl, φ', m', h1, ?_, ?_, fun i hi => h4 i (hi.imp id fun h => ?_)⟩
        · rw [upd_append]; exact h2
        · rw [upd_append]; exact f1.trans h3
        · rw [lkp_append] at h
          cases hq : lkp (zipAt nx (obs'.map (Ob.ren (nx + ·)))) i with
          | none => rfl
          | some o => rw [hq] at h; cases h
end
end Go.Proofs.Ytfhglldoejeedaa.Am
