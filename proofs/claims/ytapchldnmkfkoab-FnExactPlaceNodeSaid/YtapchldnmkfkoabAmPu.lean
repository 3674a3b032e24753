import Derived.Test.YtapchldnmkfkoabAmMe
import Derived.IntWalk
set_option linter.unusedVariables false
set_option linter.unusedSimpArgs false
set_option linter.unusedSectionVars false
namespace Go.Proofs.Ytapchldnmkfkoab.Am
open Go
theorem wr_in {n:Int} (h:-9223372036854775808 ≤ n∧n ≤ 9223372036854775807):IntKind.i64.wrap n = n:=Go.IntWalk.i64_in n h
section
variable {σ ρ τ:Type} {f:σ→Option (σ ⊕ ρ)}
theorem loopI_go {x y:σ} (h:f x = some (.inl y)):loopI f x = loopI f y:=by rw [loopI_eq,h]
theorem loopI_end {x:σ} {r:ρ} (h:f x = some (.inr r)):loopI f x = some r:=by rw [loopI_eq,h]
theorem loopI_n (st : Nat → σ) (n : Nat) {r : ρ} (hs : ∀ i, i < n → f (st i) = some (.inl (st (i + 1)))) (he : f (st n) = some (.inr r)) : loopI f (st 0) = some r := by
  have key : ∀ d i, i + d = n → loopI f (st i) = some r := by
    intro d
    induction d with
    | zero => intro i hi; have : i = n := by omega
              subst this; exact loopI_end he
    | succ d ih => intro i hi; rw [loopI_go (hs i (by omega))]; exact ih (i + 1) (by omega)
  exact key n 0 (by omega)
theorem loopI_find (st : Nat → σ) (n : Nat) (p : Nat → Bool) (q : Nat → ρ) {r : ρ} (hs : ∀ i, i < n → f (st i) = if p i = true then some (.inr (q i)) else some (.inl (st (i + 1)))) (he : f (st n) = some (.inr r)) :
    loopI f (st 0) = some (match (List.range n).find? p with | some i => q i | none => r) := by
  have key : ∀ d i, i + d = n → loopI f (st i) = some (match (List.range' i d).find? p with | some i => q i | none => r) := by
    intro d
    induction d with
    | zero => intro i hi; have : i = n := by omega
              subst this; simpa using loopI_end he
    | succ d ih =>
      intro i hi
      rw [List.range'_succ, List.find?_cons]
      cases hp : p i with
      | true => simpa [hp] using loopI_end (by rw [hs i (by omega), if_pos hp])
      | false =>
        rw [loopI_go (y := st (i + 1)) (by rw [hs i (by omega), if_neg (by simp [hp])])]
        exact ih (i + 1) (by omega)
  have := key n 0 (by omega)
  rwa [List.range_eq_range']
end
theorem idx_some {α:Type} {l:List α} {i:Nat} {x:α} (h:l[i]? = some x):idx l (i:Int) = some x:=by
 unfold idx;rw [if_pos (by omega)];simpa using h
theorem idx_nat {α:Type} {l:List α} {i:Nat} (h:i < l.length):idx l (i:Int) = some l[i]:=idx_some (List.getElem?_eq_getElem h)
end Go.Proofs.Ytapchldnmkfkoab.Am
