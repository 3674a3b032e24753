import Derived.Test.YtapchldnmkfkoabDoorAmHs
set_option linter.unusedVariables false
set_option linter.unusedSimpArgs false
set_option linter.unusedSectionVars false
namespace Go.Proofs.YtapchldnmkfkoabDoor.Am
open Go

section
variable {P : Program} {Γ : Cx} {R : Pst}
theorem run_eqnil {t e : TypeId} (hu : P.underlying t = some (.slice e)) (ox oy : Operand) (ad : Option Addr) (l c : Nat) (w : World) :
    (do eqGuard .eql t ox oy (.slice ad l c) (.slice none 0 0); binOp .eql t (.slice ad l c) (.slice none 0 0) : Sem Value).run P w = .ok (.bool ad.isNone) w := by
  have key : (Op.equal t (.slice ad l c) (.slice none 0 0)).run P w = .ok ad.isNone w := by
    unfold Op.equal Op.maxDepth Op.equalIn
    rw [Sem.run_bind, run_underlying hu, Result.andThen_ok]
    cases ad <;> rfl
  rw [Sem.run_bind, guard_quiet (by simp) (by simp), Result.andThen_ok]
  simp only [binOp, Sem.run_bind, key, Result.andThen_ok, Sem.run_pure]

/-- A test for nil of a frozen row: nothing is known but that a nil row is empty. -/
theorem Tr_nil {cl : Cl} {E : FuncId → Md} (hcl : ClS' P cl) {rid : Nat} {o1 o2 : Oper} {rest : Code} {s : St} {e1 : Eff} {t ty2 : TypeId} {el : TypeId × TS × Nat} {x : Operand} {es : List AV} {d : Nat}
    (h1 : stpE P cl E #[o1, o2] o1 s = some e1) (hd1 : ∀ d, o1.dst = some d → d < Γ.n) (ho : o2.op = .binOp .eql t x (.const (.slice none 0 0)) ty2) (hg : o2.guard = none) (hd : o2.dst = some d) (hdn : d < Γ.n)
    (hu : elt P t = some el) (hx : (aft s o1 e1).ρ x = .fsl es)
    (k : ∀ b : Bool, (b = true → es = []) → Tr P Γ rest (aft (aft s o1 e1) o2 ⟨.bool b, [], [], (aft s o1 e1).nx⟩) R) : Tr P Γ (.seq (.region rid #[o1, o2] false) rest) s R := by
  obtain ⟨el1, el2, el3⟩ := el
  obtain ⟨hu, _⟩ := elt_some hu
  intro a w Q hr hq
  refine wp_seq (wp_region ?_)
  show wpOps P #[o1, o2] _ [0, 1] a w
  rw [wpOps_cons]
  obtain ⟨φ, m, r1, r2⟩ := hr
  refine stp_sound hcl (i := 0) (by rfl) h1 rfl (by rw [St.ρ_eq]) (fun _ _ => rfl) r1.sz hd1 r1.vr r1.inv (fun i hi _ => ⟨r1.inv.free (r1.fr i hi), r1.fr i hi⟩) fun cv w1 hp => ?_
  have hr1 := rel_step r1 r2 hd1 (stpE_nx h1) hp
  rw [wpOps_cons]
  obtain ⟨φ1, m1, q1, q2⟩ := hr1
  have hv := rho_VR q1.vr x
  rw [← St.ρ_eq, hx] at hv
  simp only [VR] at hv
  obtain ⟨ad, cap, hval, _, hnil⟩ := hv
  have hb : ad.isNone = true → es = [] := by
    intro h
    rcases hnil with h0 | ⟨b, o, h0, _⟩
    · exact List.length_eq_zero_iff.1 h0
    · rw [h0] at h; simp at h
  unfold wpOp
  have hi : (#[o1, o2] : Array Oper)[1]? = some o2 := by rfl
  rw [hi]
  simp only
  rw [yield_of (b := true) q1.vr (by unfold gdA; rw [hg])]
  simp only [if_true]
  refine .inl (wp_value (v := .bool ad.isNone) (w' := w1) ?_ ?_)
  · have hc : (a.put o1.dst cv).eval (.const (.slice none 0 0)) = .slice none 0 0 := rfl
    simp only [execOp, ho, hval, hc]
    exact run_v (run_eqnil hu x _ ad es.length cap w1)
  · simp only [wpOps]
    have hp2 : Post φ1 m1 (lkp (aft s o1 e1).hp) w1 ⟨.bool ad.isNone, [], [], (aft s o1 e1).nx⟩ (.bool ad.isNone) w1 :=
      ⟨φ1, m1, by simp [VR], by rw [upd_nil]; exact q1.inv, by rw [upd_nil]; exact Fr.refl .., fun _ _ h => h⟩
    have hr2 := rel_step (o := o2) (e := ⟨.bool ad.isNone, [], [], (aft s o1 e1).nx⟩) q1 q2 (fun d' h => by rw [hd] at h; cases h; exact hdn) (Nat.le_refl _) hp2
    exact k ad.isNone hb _ _ _ hr2 hq
end

/-! ## What loops keep -/
theorem loopI_pres {σ ρ : Type} {f : σ → Option (σ ⊕ ρ)} {P : σ → Prop} {Q : ρ → Prop} {x : σ} {r : ρ} (h : loopI f x = some r)
    (hs : ∀ x o, P x → f x = some o → match o with | .inl y => P y | .inr r => Q r) (hx : P x) : Q r := by
  obtain ⟨k, hk⟩ := loopI_iff.1 h
  have key : ∀ (k : Nat) (x : σ), P x → loopN' f k x = some r → Q r := by
    intro k
    induction k with
    | zero => intro x _ h; simp [loopN'] at h
    | succ k ih =>
      intro x hp h
      rw [loopN'] at h
      cases hf : f x with
      | none => rw [hf] at h; cases h
      | some o =>
        have := hs x o hp hf
        cases o with
        | inl y => rw [hf] at h; exact ih y this h
        | inr q => rw [hf] at h; simp only [Option.some.injEq] at h; subst h; exact this
  exact key k x hx hk
theorem HS.cnd {α : Type} {c : Bool} {a b : Option α} {r : α} (h : HS (Am.cnd c a b) r) : HS a r ∨ HS b r := by
  cases c
  · exact .inr h
  · exact .inl h
end Go.Proofs.YtapchldnmkfkoabDoor.Am
