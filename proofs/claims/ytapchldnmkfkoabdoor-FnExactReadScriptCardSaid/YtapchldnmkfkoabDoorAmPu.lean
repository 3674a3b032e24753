import Derived.Test.YtapchldnmkfkoabDoorAmMe
import Derived.IntWalk
set_option linter.unusedVariables false
set_option linter.unusedSimpArgs false
set_option linter.unusedSectionVars false
namespace Go.Proofs.YtapchldnmkfkoabDoor.Am
open Go

/-! ## Words for the plain side: what models answer -/
theorem wr_in {n : Int} (h : -9223372036854775808 ≤ n ∧ n ≤ 9223372036854775807) : IntKind.i64.wrap n = n := Go.IntWalk.i64_in n h

section
variable {σ ρ τ : Type} {f : σ → Option (σ ⊕ ρ)}
theorem loopI_go {x y : σ} (h : f x = some (.inl y)) : loopI f x = loopI f y := by rw [loopI_eq, h]
theorem loopI_end {x : σ} {r : ρ} (h : f x = some (.inr r)) : loopI f x = some r := by rw [loopI_eq, h]

/-- A loop whose state is told by the round's number. -/
theorem loopI_n (st : Nat → σ) (n : Nat) {r : ρ} (hs : ∀ i, i < n → f (st i) = some (.inl (st (i + 1)))) (he : f (st n) = some (.inr r)) : loopI f (st 0) = some r := by
  have key : ∀ d i, i + d = n → loopI f (st i) = some r := by
    intro d
    induction d with
    | zero => intro i hi; have : i = n := by omega
              subst this; exact loopI_end he
    | succ d ih => intro i hi; rw [loopI_go (hs i (by omega))]; exact ih (i + 1) (by omega)
  exact key n 0 (by omega)

/-- A loop that may be left early: at the first round where 'p' holds. -/
theorem loopI_find (st : Nat → σ) (n : Nat) (p : Nat → Bool) (q : Nat → ρ) {r : ρ} (hs : ∀ i, i < n → f (st i) = if p i = true then some (.inr (q i)) else some (.inl (st (i + 1)))) (he : f (st n) = some (.inr r)) :
    loopI f (st 0) = some (match (List.range n).find? p with | some i => q i | none => r) := by
  have key : ∀ d i, i + d = n → loopI f (st i) = some (match (List.range' i d).find? p with | some i => q i | none => r) := by
    intro d
    induction d with
    | zero => intro i hi; have : i = n := by omega
              subst this; simpa using loopI_end he
    | succ d ih =>
      intro i hi
      rw [List.range'_succ, List.find?_cons]
      cases hp : p i with
      | true => simpa [hp] using loopI_end (by rw [hs i (by omega), if_pos hp])
      | false =>
        rw [loopI_go (y := st (i + 1)) (by rw [hs i (by omega), if_neg (by simp [hp])])]
        exact ih (i + 1) (by omega)
  have := key n 0 (by omega)
  rwa [List.range_eq_range']

/-- A loop with a state that turns. -/
theorem loopI_fold (e : Nat → τ → σ) (n : Nat) (I : Nat → τ → Prop) (g : Nat → τ → τ) (r : τ → ρ) {s0 : τ} (h0 : I 0 s0)
    (hs : ∀ i s, i < n → I i s → f (e i s) = some (.inl (e (i + 1) (g i s))) ∧ I (i + 1) (g i s)) (he : ∀ s, I n s → f (e n s) = some (.inr (r s))) :
    loopI f (e 0 s0) = some (r (Nat.rec s0 g n)) ∧ I n (Nat.rec s0 g n) := by
  have hI : ∀ i, i ≤ n → I i (Nat.rec s0 g i : τ) := by
    intro i
    induction i with
    | zero => intro _; exact h0
    | succ i ih => intro hi; exact (hs i _ (by omega) (ih (by omega))).2
  refine ⟨loopI_n (fun i => e i (Nat.rec s0 g i)) n (fun i hi => (hs i _ hi (hI i (by omega))).1) (he _ (hI n (Nat.le_refl _))), hI n (Nat.le_refl _)⟩

/-- A loop with a state of which something is known. -/
theorem loopI_inv (e : Nat → τ → σ) (n : Nat) (I : Nat → τ → Prop) (r : τ → ρ) {s0 : τ} (h0 : I 0 s0)
    (hs : ∀ i s, i < n → I i s → ∃ s', f (e i s) = some (.inl (e (i + 1) s')) ∧ I (i + 1) s') (he : ∀ s, I n s → f (e n s) = some (.inr (r s))) :
    ∃ s, loopI f (e 0 s0) = some (r s) ∧ I n s := by
  have key : ∀ d i s, i + d = n → I i s → ∃ s', loopI f (e i s) = some (r s') ∧ I n s' := by
    intro d
    induction d with
    | zero => intro i s hi hI; have : i = n := by omega
              subst this; exact ⟨s, loopI_end (he s hI), hI⟩
    | succ d ih =>
      intro i s hi hI
      obtain ⟨s', h1, h2⟩ := hs i s (by omega) hI
      obtain ⟨s'', h3, h4⟩ := ih (i + 1) s' (by omega) h2
      exact ⟨s'', by rw [loopI_go h1]; exact h3, h4⟩
  exact key n 0 s0 (by omega) h0
end

theorem idx_some {α : Type} {l : List α} {i : Nat} {x : α} (h : l[i]? = some x) : idx l (i : Int) = some x := by
  unfold idx; rw [if_pos (by omega)]; simpa using h
theorem idx_nat {α : Type} {l : List α} {i : Nat} (h : i < l.length) : idx l (i : Int) = some l[i] := idx_some (List.getElem?_eq_getElem h)
end Go.Proofs.YtapchldnmkfkoabDoor.Am
