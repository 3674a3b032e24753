import Derived.Test.YtapchldnmkfkoabDoorAmRow
set_option linter.unusedVariables false
set_option linter.unusedSimpArgs false
set_option linter.unusedSectionVars false
namespace Go.Proofs.YtapchldnmkfkoabDoor.Am
open Go

/-! ## Walks: from a state on, what holds where a piece of code is left -/

/-- What was when the function was entered. -/
structure Cx where
  n : Nat
  k : Nat
  φ0 : FM
  m0 : LM
  g0 : Nat → Option Ob
  w0 : World
  hk : ∀ i, k ≤ i → m0 i = none

abbrev Pst := Ex → St → Prop

def Tr (P : Program) (Γ : Cx) (c : Code) (s : St) (R : Pst) : Prop :=
  ∀ (a : Act) (w : World) (Q : Exit → Act → World → Prop), Rel P Γ.n Γ.φ0 Γ.m0 Γ.g0 Γ.w0 s a w →
    (∀ ex s' a w, R ex s' → Rel P Γ.n Γ.φ0 Γ.m0 Γ.g0 Γ.w0 s' a w → Q ex.to a w) → c.wp P Q a w

/-- A state that says less. -/
def Wk (P : Program) (Γ : Cx) (s s' : St) : Prop := ∀ a w, Rel P Γ.n Γ.φ0 Γ.m0 Γ.g0 Γ.w0 s a w → Rel P Γ.n Γ.φ0 Γ.m0 Γ.g0 Γ.w0 s' a w

theorem Wk.refl {P : Program} {Γ : Cx} (s : St) : Wk P Γ s s := fun _ _ h => h
theorem Wk.trans {P : Program} {Γ : Cx} {s s' s'' : St} (h : Wk P Γ s s') (k : Wk P Γ s' s'') : Wk P Γ s s'' := fun a w r => k a w (h a w r)

theorem Tr.weak {P : Program} {Γ : Cx} {c : Code} {s s' : St} {R : Pst} (h : Wk P Γ s s') (k : Tr P Γ c s' R) : Tr P Γ c s R := fun a w Q r q => k a w Q (h a w r) q

/-- A post that may be met by a state that says less. -/
def Cls (P : Program) (Γ : Cx) (R : Pst) : Pst := fun ex s => ∃ s', Wk P Γ s s' ∧ R ex s'
theorem Tr.cls {P : Program} {Γ : Cx} {c : Code} {s : St} {R : Pst} (h : Tr P Γ c s (Cls P Γ R)) : Tr P Γ c s R :=
  fun a w Q r q => h a w Q r fun ex s' a w ⟨s'', h1, h2⟩ r => q ex s'' a w h2 (h1 a w r)

def DD (R : Pst) (r : Option (Ex × St)) : Prop := match r with
  | some (ex, s) => R ex s
  | none => False
@[simp] theorem DD_some {R : Pst} {ex s} : DD R (some (ex, s)) = R ex s := rfl
@[simp] theorem DD_none {R : Pst} : DD R none = False := rfl

def thenR (f : St → Pst → Prop) (R : Pst) : Pst := fun ex s => match ex with
  | .normal => f s R
  | ex => R ex s
@[simp] theorem thenR_n {f R s} : thenR f R .normal s = f s R := rfl
@[simp] theorem thenR_e {f R s i} : thenR f R (.exit i) s = R (.exit i) s := rfl
@[simp] theorem thenR_r {f R s} : thenR f R .ret s = R .ret s := rfl
def blkR (i : Nat) (R : Pst) : Pst := fun ex s => match ex with
  | .exit j => if j = i then R .normal s else R (.exit j) s
  | ex => R ex s
@[simp] theorem blkR_n {i R s} : blkR i R .normal s = R .normal s := rfl
@[simp] theorem blkR_e {i R s j} : blkR i R (.exit j) s = if j = i then R .normal s else R (.exit j) s := rfl
@[simp] theorem blkR_r {i R s} : blkR i R .ret s = R .ret s := rfl

/-- A branch: not looked into before its bool is known. -/
def brV (v : AV) (A B : Pst → Prop) (R : Pst) : Prop := match v with
  | .bool t => (t = true → A R) ∧ (t = false → B R)
  | _ => False
@[congr] theorem brV_congr {v v' : AV} {A B : Pst → Prop} {R : Pst} (h : v = v') : brV v A B R = brV v' A B R := by rw [h]
@[simp] theorem brV_true {A B : Pst → Prop} {R : Pst} : brV (.bool true) A B R = A R := by simp [brV]
@[simp] theorem brV_false {A B : Pst → Prop} {R : Pst} : brV (.bool false) A B R = B R := by simp [brV]
@[simp] theorem brV_not {t : Bool} {A B : Pst → Prop} {R : Pst} : brV (.bool !t) A B R = brV (.bool t) B A R := by cases t <;> simp
theorem brV_cases {t : Bool} {A B : Pst → Prop} {R : Pst} (h1 : t = true → A R) (h2 : t = false → B R) : brV (.bool t) A B R := ⟨h1, h2⟩

/-- Does a piece begin with a region at which the walk halts? -/
def cutAt (cs : List Nat) : Code → Bool
  | .region i _ _ => cs.contains i
  | _ => false

noncomputable def vc (P : Program) (cl : Cl) (E : FuncId → Md) (Γ : Cx) (cs : List Nat) : Code → St → Pst → Prop
  | .skip, s, R => R .normal s
  | .label _, s, R => R .normal s
  | .exit i, s, R => R (.exit i) s
  | .ret, s, R => R .ret s
  | .seq a b, s, R => if cutAt cs a = true then Tr P Γ (.seq a b) s R else vc P cl E Γ cs a s (thenR (vc P cl E Γ cs b) R)
  | .cond c a b, s, R => brV (s.ρ c) (vc P cl E Γ cs a s) (vc P cl E Γ cs b s) R
  | .block i b, s, R => vc P cl E Γ cs b s (blkR i R)
  | .loop c, s, R => Tr P Γ (.loop c) s R
  | .region id ops d, s, R => DD R ((if d then drA P cl E ops s else sq P cl E ops ops.toList s).map (Ex.normal, ·))
  | _, _, _ => False

section
variable {P : Program} {cl : Cl} {E : FuncId → Md} {Γ : Cx} {cs : List Nat} {s : St} {R : Pst}
@[simp] theorem vc_skip : vc P cl E Γ cs .skip s R = R .normal s := by simp [vc]
@[simp] theorem vc_label {l} : vc P cl E Γ cs (.label l) s R = R .normal s := by simp [vc]
@[simp] theorem vc_exit {i} : vc P cl E Γ cs (.exit i) s R = R (.exit i) s := by simp [vc]
@[simp] theorem vc_ret : vc P cl E Γ cs .ret s R = R .ret s := by simp [vc]
@[simp] theorem vc_cond {c a b} : vc P cl E Γ cs (.cond c a b) s R = brV (s.ρ c) (vc P cl E Γ cs a s) (vc P cl E Γ cs b s) R := by simp [vc]
@[simp] theorem vc_block {i b} : vc P cl E Γ cs (.block i b) s R = vc P cl E Γ cs b s (blkR i R) := by simp [vc]
@[simp] theorem vc_loop {c} : vc P cl E Γ cs (.loop c) s R = Tr P Γ (.loop c) s R := by simp [vc]
@[simp] theorem vc_seq_r {i ops d b} : vc P cl E Γ cs (.seq (.region i ops d) b) s R = if cs.contains i = true then Tr P Γ (.seq (.region i ops d) b) s R else vc P cl E Γ cs (.region i ops d) s (thenR (vc P cl E Γ cs b) R) := by simp [vc, cutAt]
@[simp] theorem vc_seq_s {x y b} : vc P cl E Γ cs (.seq (.seq x y) b) s R = vc P cl E Γ cs (.seq x y) s (thenR (vc P cl E Γ cs b) R) := by
  rw [vc]; simp [cutAt]
@[simp] theorem vc_seq_c {c x y b} : vc P cl E Γ cs (.seq (.cond c x y) b) s R = vc P cl E Γ cs (.cond c x y) s (thenR (vc P cl E Γ cs b) R) := by
  rw [vc]; simp [cutAt]
@[simp] theorem vc_seq_b {i x b} : vc P cl E Γ cs (.seq (.block i x) b) s R = vc P cl E Γ cs (.block i x) s (thenR (vc P cl E Γ cs b) R) := by
  rw [vc]; simp [cutAt]
@[simp] theorem vc_seq_l {x b} : vc P cl E Γ cs (.seq (.loop x) b) s R = vc P cl E Γ cs (.loop x) s (thenR (vc P cl E Γ cs b) R) := by
  rw [vc]; simp [cutAt]
@[simp] theorem vc_seq_k {b} : vc P cl E Γ cs (.seq .skip b) s R = vc P cl E Γ cs b s R := by
  rw [vc]; simp [cutAt]
@[simp] theorem vc_seq_a {l b} : vc P cl E Γ cs (.seq (.label l) b) s R = vc P cl E Γ cs b s R := by
  rw [vc]; simp [cutAt]
@[simp] theorem vc_seq_e {i b} : vc P cl E Γ cs (.seq (.exit i) b) s R = R (.exit i) s := by
  rw [vc]; simp [cutAt]
@[simp] theorem vc_seq_t {b} : vc P cl E Γ cs (.seq .ret b) s R = R .ret s := by
  rw [vc]; simp [cutAt]
@[simp] theorem vc_regF {i} {l : List Oper} : vc P cl E Γ cs (.region i l.toArray false) s R = gsq P cl E (DD R) l l s [] := by
  simp [vc, gsq, unw]
@[simp] theorem vc_regT {i} {l : List Oper} : vc P cl E Γ cs (.region i l.toArray true) s R = gdr P cl E (DD R) l l [] true s [] := by
  unfold gdr nxt
  simp only [vc, if_true, drA, unw]
  cases dr P cl E l.toArray l s with
  | none => rfl
  | some r =>
    obtain ⟨s', rs⟩ := r
    simp only [List.reverse_nil, List.nil_append, Bool.true_and]
    split <;> rfl

theorem vc_sound' (hcl : ClS' P cl) (hm : P.follows .mixedOrders = true) : ∀ (c : Code) {s : St} {R : Pst} {a : Act} {w : World} {Q : Exit → Act → World → Prop}, chkC Γ.n c = true → vc P cl E Γ cs c s R →
    Rel P Γ.n Γ.φ0 Γ.m0 Γ.g0 Γ.w0 s a w → (∀ ex s' a w, R ex s' → Rel P Γ.n Γ.φ0 Γ.m0 Γ.g0 Γ.w0 s' a w → Q ex.to a w) → c.wp P Q a w
  | .skip, s, R, a, w, Q, _, h, hr, hq => by
    simp only [vc] at h; exact wp_skip (hq .normal s a w h hr)
  | .label _, s, R, a, w, Q, _, h, hr, hq => by
    simp only [vc] at h; exact wp_label (hq .normal s a w h hr)
  | .exit i, s, R, a, w, Q, _, h, hr, hq => by
    simp only [vc] at h; exact wp_exit (hq (.exit i) s a w h hr)
  | .ret, s, R, a, w, Q, _, h, hr, hq => by
    simp only [vc] at h; exact wp_ret (hq .ret s a w h hr)
  | .seq x y, s, R, a, w, Q, hc, h, hr, hq => by
    simp only [vc] at h
    split at h
    · exact h a w Q hr hq
    · simp only [chkC, Bool.and_eq_true] at hc
      refine wp_seq ?_
      refine vc_sound' hcl hm x hc.1 h hr fun ex s' a w h1 hr1 => ?_
      cases ex with
      | normal => exact vc_sound' hcl hm y hc.2 h1 hr1 hq
      | exit i => exact hq (.exit i) s' a w h1 hr1
      | ret => exact hq .ret s' a w h1 hr1
  | .cond c x y, s, R, a, w, Q, hc, h, hr, hq => by
    simp only [chkC, Bool.and_eq_true] at hc
    simp only [vc] at h
    unfold brV at h
    split at h
    · rename_i t ht
      obtain ⟨φ, m, h1, h2⟩ := hr
      have hv := rho_VR h1.vr c
      rw [← St.ρ_eq, ht] at hv
      simp only [VR] at hv
      refine wp_cond hv ?_
      cases t with
      | true => simp only [if_true]; exact vc_sound' hcl hm x hc.1 (h.1 rfl) ⟨φ, m, h1, h2⟩ hq
      | false => simp only [Bool.false_eq_true, if_false]; exact vc_sound' hcl hm y hc.2 (h.2 rfl) ⟨φ, m, h1, h2⟩ hq
    · cases h
  | .block id b, s, R, a, w, Q, hc, h, hr, hq => by
    simp only [chkC] at hc
    simp only [vc] at h
    refine wp_block ?_
    refine vc_sound' hcl hm b hc h hr fun ex s' a w h1 hr1 => ?_
    cases ex with
    | normal => exact hq .normal s' a w h1 hr1
    | ret => exact hq .ret s' a w h1 hr1
    | exit i =>
      simp only [blkR] at h1
      simp only [Ex.to, Exit.inBlock]
      split at h1
      · rename_i e; subst e; simp only [if_true]; exact hq .normal s' a w h1 hr1
      · rename_i e; simp only [e, if_false]; exact hq (.exit i) s' a w h1 hr1
  | .loop c, s, R, a, w, Q, _, h, hr, hq => by
    simp only [vc] at h
    exact h a w Q hr hq
  | .region id ops d, s, R, a, w, Q, hc, h, hr, hq => by
    simp only [vc] at h
    cases h1 : ((if d then drA P cl E ops s else sq P cl E ops ops.toList s).map (Ex.normal, ·)) with
    | none => rw [h1] at h; cases h
    | some r =>
      obtain ⟨ex, s'⟩ := r
      rw [h1] at h
      have : run P cl E 0 (.region id ops d) s = some (ex, s') := by simp only [run]; exact h1
      exact run_sound hcl hm 0 (.region id ops d) hc this hr fun a w hr1 => hq ex s' a w h hr1
  | .rangeFunc .., s, R, a, w, Q, _, h, hr, hq => by simp [vc] at h
  | .scope .., s, R, a, w, Q, _, h, hr, hq => by simp [vc] at h
  | .goto .., s, R, a, w, Q, _, h, hr, hq => by simp [vc] at h
  | .refuse .., s, R, a, w, Q, _, h, hr, hq => by simp [vc] at h

/-- A claim that is not to be looked into. -/
structure Hid (p : Prop) : Prop where
  h : p
@[simp] theorem Hid_true : Hid True = True := eq_true ⟨trivial⟩
theorem Hid.selQ {c : Bool} {A B : Prop} (h1 : c = true → Hid A) (h2 : c = false → Hid B) : Hid (selQ c A B) := by
  cases c
  · exact h2 rfl
  · exact h1 rfl
theorem Hid.brV {t : Bool} {A B : Pst → Prop} {R : Pst} (h1 : t = true → Hid (A R)) (h2 : t = false → Hid (B R)) : Hid (brV (.bool t) A B R) :=
  ⟨brV_cases (fun h => (h1 h).h) (fun h => (h2 h).h)⟩

/-- A walk that is asked of the rules. -/
theorem Tr.of_vc (cs : List Nat) (hcl : ClS' P cl) (hm : P.follows .mixedOrders = true) {c : Code} (hc : chkC Γ.n c = true) (h : Hid (vc P cl E Γ cs c s (Cls P Γ R))) : Tr P Γ c s R :=
  Tr.cls fun _ _ _ r q => vc_sound' hcl hm c hc h.h r q
end

/-! ### Loops -/
def loopN' {σ ρ : Type} (f : σ → Option (σ ⊕ ρ)) : Nat → σ → Option ρ
  | 0, _ => none
  | k + 1, x => match f x with
    | some (.inl y) => loopN' f k y
    | some (.inr r) => some r
    | none => none

/-- The rounds of a loop, as many as it takes. -/
noncomputable def loopI {σ ρ : Type} (f : σ → Option (σ ⊕ ρ)) (x : σ) : Option ρ := lim fun k => loopN' f k x

theorem loopN'_mono {σ ρ : Type} {f : σ → Option (σ ⊕ ρ)} : ∀ (k : Nat) (x : σ) (r : ρ), loopN' f k x = some r → loopN' f (k + 1) x = some r
  | 0, x, r, h => by simp [loopN'] at h
  | k + 1, x, r, h => by
    rw [loopN'] at h ⊢
    cases hf : f x with
    | none => rw [hf] at h; exact h
    | some o => cases o with
      | inl y => rw [hf] at h; exact loopN'_mono k y r h
      | inr q => rw [hf] at h; exact h

theorem loopI_iff {σ ρ : Type} {f : σ → Option (σ ⊕ ρ)} {x : σ} {r : ρ} : loopI f x = some r ↔ ∃ k, loopN' f k x = some r :=
  lim_iff fun k r h => loopN'_mono k x r h

theorem loopI_eq {σ ρ : Type} {f : σ → Option (σ ⊕ ρ)} {x : σ} : loopI f x = match f x with
    | some (.inl y) => loopI f y
    | some (.inr r) => some r
    | none => none := by
  refine opt_ext fun r => ?_
  rw [loopI_iff]
  constructor
  · rintro ⟨k, h⟩
    cases k with
    | zero => simp [loopN'] at h
    | succ k =>
      rw [loopN'] at h
      cases hf : f x with
      | none => rw [hf] at h; exact h
      | some o => cases o with
        | inl y => rw [hf] at h; exact loopI_iff.2 ⟨k, h⟩
        | inr q => rw [hf] at h; exact h
  · intro h
    cases hf : f x with
    | none => rw [hf] at h; cases h
    | some o => cases o with
      | inl y =>
        rw [hf] at h
        obtain ⟨k, hk⟩ := loopI_iff.1 h
        exact ⟨k + 1, by rw [loopN', hf]; exact hk⟩
      | inr q => rw [hf] at h; exact ⟨1, by rw [loopN', hf]; exact h⟩

theorem wp_loop_of {P : Program} {Γ : Cx} {c : Code} {σ ρ : Type} {S : σ → St} {f : σ → Option (σ ⊕ ρ)} {xt : ρ → Ex × St} {R : Pst}
    (hn : ∀ r, (xt r).1 ≠ .normal)
    (hb : ∀ x o (R : Pst), f x = some o → (match o with | .inl y => R .normal (S y) | .inr r => R (xt r).1 (xt r).2) → Tr P Γ c (S x) R)
    {x : σ} {r : ρ} (h : loopI f x = some r) (hR : Hid (R (xt r).1 (xt r).2)) : Tr P Γ (.loop c) (S x) R := by
  replace hR := hR.h
  intro a w Q hr hq b k cs
  obtain ⟨j, hj⟩ := loopI_iff.1 h
  have key : ∀ (j : Nat) {x : σ} {a : Act} {w : World}, loopN' f j x = some r → Rel P Γ.n Γ.φ0 Γ.m0 Γ.g0 Γ.w0 (S x) a w →
      ∃ e a' w', Q e a' w' ∧ Arrives P (lone (b.at a (.code c :: .inLoop c :: k)) cs w) b k cs e a' w' := by
    intro j
    induction j with
    | zero => intro x a w h _; simp [loopN'] at h
    | succ j ih =>
      intro x a w h hr
      rw [loopN'] at h
      cases hf : f x with
      | none => rw [hf] at h; cases h
      | some o =>
        cases o with
        | inl y =>
          rw [hf] at h
          obtain ⟨e, a1, w1, ⟨he, hr1⟩, harr⟩ := hb x (.inl y) (fun ex s => ex = .normal ∧ s = S y) hf ⟨rfl, rfl⟩ a w (fun e a w => e = .normal ∧ Rel P Γ.n Γ.φ0 Γ.m0 Γ.g0 Γ.w0 (S y) a w) hr
            (by rintro ex s' a w ⟨rfl, rfl⟩ h; exact ⟨rfl, h⟩) b (.inLoop c :: k) cs
          subst he
          obtain ⟨e2, a2, w2, hq2, harr2⟩ := ih h hr1
          exact ⟨e2, a2, w2, hq2, .of_steps (Steps.trans harr (.one step_inLoop)) harr2⟩
        | inr q =>
          rw [hf] at h
          simp only [Option.some.injEq] at h; subst h
          obtain ⟨e, a1, w1, ⟨he, hq1⟩, harr⟩ := hb x (.inr q) (fun ex s => ex = (xt q).1 ∧ s = (xt q).2) hf ⟨rfl, rfl⟩ a w (fun e a w => e = (xt q).1.to ∧ Q e a w) hr
            (by rintro ex s' a w ⟨rfl, rfl⟩ h; exact ⟨rfl, hq _ _ a w hR h⟩) b (.inLoop c :: k) cs
          refine ⟨e, a1, w1, hq1, .pass (x := .inLoop c) rfl (fun _ _ => .inl ?_) harr⟩
          rw [he]
          have := hn q
          cases h3 : (xt q).1 with
          | normal => exact absurd h3 this
          | exit _ => simp [Ex.to]
          | ret => simp [Ex.to]
  obtain ⟨e, a', w', hq', harr⟩ := key j hj hr
  exact ⟨e, a', w', hq', .of_steps (.one step_loop) harr⟩
end Go.Proofs.YtapchldnmkfkoabDoor.Am
