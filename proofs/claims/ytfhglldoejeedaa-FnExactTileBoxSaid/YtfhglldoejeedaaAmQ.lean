import Derived.Test.YtfhglldoejeedaaAmO
namespace Go.Proofs.Ytfhglldoejeedaa.Am
open Go

variable {P : Program}

section
variable {φ : FM} {m : LM} {g gi : Nat → Option Ob} {w w' : World}

theorem run_bound {n : Int} {k : IntKind} {c : BoundsCode} {y' : Nat} (h0 : 0 ≤ n) (h1 : n ≤ y') (w : World) : (Instr.sliceBound (.int k n) y' c).run P w = .ok n.toNat w := by
  simp [Instr.sliceBound, asIntOf, h0, h1]

theorem numA_none {o : Option AV} (h : numA o = some none) : o = none := by
  cases o with
  | none => rfl
  | some a => cases a <;> simp [numA] at h

theorem numA_some {o : Option AV} {n : Int} (h : numA o = some (some n)) : ∃ k, o = some (.int k n) := by
  cases o with
  | none => simp [numA] at h
  | some a => cases a <;> simp [numA] at h; subst h; exact ⟨_, rfl⟩

/-- A bound that is typed, or is not. -/
def OV (φ : FM) (m : LM) (o : Option AV) (c : Option Value) : Prop := match o, c with
  | none, none => True
  | some a, some v => VR φ m a v
  | _, _ => False

theorem bounds_run {lo hi mx : Option AV} {cl ch cm : Option Value} {nl nh nm : Option Int} (h1 : numA lo = some nl) (h2 : numA hi = some nh) (h3 : numA mx = some nm)
    (v1 : OV φ m lo cl) (v2 : OV φ m hi ch) (v3 : OV φ m mx cm) {sl : Bool} {len cap : Nat} {l h m' : Nat}
    (hm : (nm.getD cap) = m') (hh : nh.getD len = h) (hl : nl.getD 0 = l) (a1 : l ≤ h) (a2 : h ≤ m') (a3 : m' ≤ cap) (hmh : nm.isSome = true → nh.isSome = true) (w : World) :
    (Instr.sliceBounds sl len cap cl ch cm).run P w = .ok (l, h, m') w := by
  have e1 : ∀ {o : Option AV} {c : Option Value} {n : Option Int}, numA o = some n → OV φ m o c → (n = none ∧ c = none) ∨ ∃ k q, n = some q ∧ c = some (.int k q) := by
    intro o c n hn hv
    cases n with
    | none => have := numA_none hn; subst this; cases c with
      | none => exact .inl ⟨rfl, rfl⟩
      | some _ => exact absurd hv (by simp [OV])
    | some q =>
      obtain ⟨k, rfl⟩ := numA_some hn
      cases c with
      | none => exact absurd hv (by simp [OV])
      | some v => simp only [OV, VR] at hv; subst hv; exact .inr ⟨k, q, rfl, rfl⟩
  have c1 : (cl = none ∧ l = 0) ∨ ∃ k, cl = some (.int k l) := by
    rcases e1 h1 v1 with ⟨rfl, rfl⟩ | ⟨k, q, rfl, rfl⟩
    · exact .inl ⟨rfl, by simp at hl; omega⟩
    · simp at hl; subst hl; exact .inr ⟨k, rfl⟩
  have c2 : (nh = none ∧ ch = none ∧ h = len) ∨ ∃ k, ch = some (.int k h) := by
    rcases e1 h2 v2 with ⟨rfl, rfl⟩ | ⟨k, q, rfl, rfl⟩
    · exact .inl ⟨rfl, rfl, by simp at hh; omega⟩
    · simp at hh; subst hh; exact .inr ⟨k, rfl⟩
  have c3 : (cm = none ∧ m' = cap) ∨ ∃ k, nm.isSome = true ∧ cm = some (.int k m') := by
    rcases e1 h3 v3 with ⟨rfl, rfl⟩ | ⟨k, q, rfl, rfl⟩
    · exact .inl ⟨rfl, by simp at hm; omega⟩
    · simp at hm; subst hm; exact .inr ⟨k, rfl, rfl⟩
  have i1 : (l : Int) ≤ h := by omega
  have i2 : (h : Int) ≤ m' := by omega
  have i3 : (m' : Int) ≤ cap := by omega
  clear e1 h1 h2 h3 v1 v2 v3 hm hh hl
  rcases c3 with ⟨rfl, e3⟩ | ⟨k3, s3, rfl⟩
  · rcases c2 with ⟨_, rfl, e2⟩ | ⟨k2, rfl⟩
    · rcases c1 with ⟨rfl, e1⟩ | ⟨k1, rfl⟩
      · simp [Instr.sliceBounds]; omega
      · subst e2
        simp only [Instr.sliceBounds, Sem.run_bind, Sem.run_pure, Result.andThen_ok, run_bound (Int.natCast_nonneg l) i1, Int.toNat_natCast]
        rw [e3]
    · subst e3
      rcases c1 with ⟨rfl, e1⟩ | ⟨k1, rfl⟩
      · simp only [Instr.sliceBounds, Sem.run_bind, Sem.run_pure, Result.andThen_ok, run_bound (Int.natCast_nonneg h) i2, Int.toNat_natCast]
        rw [e1]
      · simp only [Instr.sliceBounds, Sem.run_bind, Sem.run_pure, Result.andThen_ok, run_bound (Int.natCast_nonneg h) i2, run_bound (Int.natCast_nonneg l) i1, Int.toNat_natCast]
  · rcases c2 with ⟨e0, rfl, e2⟩ | ⟨k2, rfl⟩
    · have := hmh s3; rw [e0] at this; cases this
    · rcases c1 with ⟨rfl, e1⟩ | ⟨k1, rfl⟩
      · simp only [Instr.sliceBounds, Sem.run_bind, Sem.run_pure, Result.andThen_ok, run_bound (Int.natCast_nonneg m') i3, run_bound (Int.natCast_nonneg h) i2, Int.toNat_natCast]
        rw [e1]
      · simp only [Instr.sliceBounds, Sem.run_bind, Sem.run_pure, Result.andThen_ok, run_bound (Int.natCast_nonneg m') i3, run_bound (Int.natCast_nonneg h) i2, run_bound (Int.natCast_nonneg l) i1, Int.toNat_natCast]
end
end Go.Proofs.Ytfhglldoejeedaa.Am
