import Derived.Test.YtfhglldoejeedaaAmZD
namespace Go.Proofs.Ytfhglldoejeedaa.Am
open Go

variable {P : Program}

inductive Ex where
  | normal
  | exit (id : Nat)
  | ret
  deriving DecidableEq

def Ex.to : Ex → Exit
  | .normal => .normal
  | .exit i => .exit i
  | .ret => .ret

def loopN (f : St → Option (Ex × St)) : Nat → St → Option (Ex × St)
  | 0, _ => none
  | k + 1, s => match f s with
    | some (.normal, s') => loopN f k s'
    | r => r

def run (P : Program) (cl : Cl) (E : FuncId → Md) (k : Nat) : Code → St → Option (Ex × St)
  | .skip, s => some (.normal, s)
  | .label _, s => some (.normal, s)
  | .seq a b, s => match run P cl E k a s with
    | some (.normal, s') => run P cl E k b s'
    | r => r
  | .cond c a b, s => match s.ρ c with
    | .bool t => if t then run P cl E k a s else run P cl E k b s
    | _ => none
  | .block id b, s => match run P cl E k b s with
    | some (.exit i, s') => if i = id then some (.normal, s') else some (.exit i, s')
    | r => r
  | .loop c, s => loopN (run P cl E k c) k s
  | .region _ ops d, s => (if d then drA P cl E ops s else sq P cl E ops ops.toList s).map (Ex.normal, ·)
  | .exit id, s => some (.exit id, s)
  | .ret, s => some (.ret, s)
  | _, _ => none

/-- What is asked of a function's text once. -/
def chkC (n : Nat) : Code → Bool
  | .seq a b => chkC n a && chkC n b
  | .cond _ a b => chkC n a && chkC n b
  | .block _ b => chkC n b
  | .loop c => chkC n c
  | .region _ ops d => (ops.toList.all fun o => match o.dst with | some d => d < n | none => true) && (!d || (preOk ops.toList (mkPre ops.toList []) && slotsOk ops (mkPre ops.toList [])))
  | _ => true

theorem Rel.drew {n : Nat} {φ0 : FM} {m0 : LM} {g0 : Nat → Option Ob} {w0 : World} {s : St} {a : Act} {w : World} (h : Rel P n φ0 m0 g0 w0 s a w) : Rel P n φ0 m0 g0 w0 s a { w with drawn := w.drawn + 1 } := by
  obtain ⟨φ, m, h1, h2⟩ := h
  exact ⟨φ, m, ⟨h1.sz, h1.vr, inv_same h1.inv (fun _ _ => rfl), h1.fr, h1.df⟩, ⟨h2.φle, h2.ext, h2.os, h2.tape, h2.output, h2.size, h2.old, h2.newφ, h2.newm⟩⟩

section
variable {n : Nat} {φ0 : FM} {m0 : LM} {g0 : Nat → Option Ob} {w0 : World} {cl : Cl} {E : FuncId → Md}

theorem loop_sound {c : Code} {f : St → Option (Ex × St)} {Q : Exit → Act → World → Prop}
    (hb : ∀ {s s' : St} {ex : Ex} {a : Act} {w : World}, f s = some (ex, s') → Rel P n φ0 m0 g0 w0 s a w → c.wp P (fun e a w => e = ex.to ∧ Rel P n φ0 m0 g0 w0 s' a w) a w) {ex : Ex} {s' : St} (hex : ex ≠ .normal) (hq : ∀ a w, Rel P n φ0 m0 g0 w0 s' a w → Q ex.to a w) :
    ∀ (j : Nat) {s : St} {a : Act} {w : World}, loopN f j s = some (ex, s') → Rel P n φ0 m0 g0 w0 s a w → (Code.loop c).wp P Q a w := by
  intro j s a w h hr b k cs
  have key : ∀ (j : Nat) {s : St} {a : Act} {w : World}, loopN f j s = some (ex, s') → Rel P n φ0 m0 g0 w0 s a w →
      ∃ e a' w', Q e a' w' ∧ Arrives P (lone (b.at a (.code c :: .inLoop c :: k)) cs w) b k cs e a' w' := by
    intro j
    induction j with
    | zero => intro s a w h _; simp [loopN] at h
    | succ j ih =>
      intro s a w h hr
      simp only [loopN] at h
      split at h
      · rename_i s1 h1
        obtain ⟨e, a1, w1, ⟨he, hr1⟩, harr⟩ := hb h1 hr b (.inLoop c :: k) cs
        subst he
        obtain ⟨e2, a2, w2, hq2, harr2⟩ := ih h hr1
        exact ⟨e2, a2, w2, hq2, .of_steps (Steps.trans harr (.one step_inLoop)) harr2⟩
      · obtain ⟨e, a1, w1, ⟨he, hr1⟩, harr⟩ := hb h hr b (.inLoop c :: k) cs
        refine ⟨e, a1, w1, by rw [he]; exact hq a1 w1 hr1, .pass (x := .inLoop c) rfl (fun _ _ => .inl ?_) harr⟩
        rw [he]
        cases ex with
        | normal => exact absurd rfl hex
        | exit _ => simp [Ex.to]
        | ret => simp [Ex.to]
  obtain ⟨e, a', w', hq', harr⟩ := key j h hr
  exact ⟨e, a', w', hq', .of_steps (.one step_loop) harr⟩

theorem loopN_ne {f : St → Option (Ex × St)} : ∀ {j : Nat} {s s' : St} {ex : Ex}, loopN f j s = some (ex, s') → ex ≠ .normal
  | 0, _, _, _, h => by simp [loopN] at h
  | j + 1, s, s', ex, h => by
    simp only [loopN] at h
    split at h
    · exact loopN_ne h
    · rename_i hn
      rintro rfl
      exact hn _ h

theorem run_sound (hcl : ClS' P cl) (hm : P.follows .mixedOrders = true) (k : Nat) : ∀ (c : Code) {s s' : St} {ex : Ex} {a : Act} {w : World} {Q : Exit → Act → World → Prop}, chkC n c = true → run P cl E k c s = some (ex, s') →
    Rel P n φ0 m0 g0 w0 s a w → (∀ a w, Rel P n φ0 m0 g0 w0 s' a w → Q ex.to a w) → c.wp P Q a w
  | .skip, s, s', ex, a, w, Q, _, h, hr, hq => by
    simp only [run, Option.some.injEq, Prod.mk.injEq] at h; obtain ⟨rfl, rfl⟩ := h
    exact wp_skip (hq a w hr)
  | .label _, s, s', ex, a, w, Q, _, h, hr, hq => by
    simp only [run, Option.some.injEq, Prod.mk.injEq] at h; obtain ⟨rfl, rfl⟩ := h
    exact wp_label (hq a w hr)
  | .exit id, s, s', ex, a, w, Q, _, h, hr, hq => by
    simp only [run, Option.some.injEq, Prod.mk.injEq] at h; obtain ⟨rfl, rfl⟩ := h
    exact wp_exit (hq a w hr)
  | .ret, s, s', ex, a, w, Q, _, h, hr, hq => by
    simp only [run, Option.some.injEq, Prod.mk.injEq] at h; obtain ⟨rfl, rfl⟩ := h
    exact wp_ret (hq a w hr)
  | .seq x y, s, s', ex, a, w, Q, hc, h, hr, hq => by
    simp only [chkC, Bool.and_eq_true] at hc
    simp only [run] at h
    refine wp_seq ?_
    split at h
    · rename_i s1 h1
      exact run_sound hcl hm k x hc.1 h1 hr fun a w hr1 => run_sound hcl hm k y hc.2 h hr1 hq
    · rename_i hn
      refine run_sound hcl hm k x hc.1 h hr fun a w hr1 => ?_
      cases ex with
      | normal => exact absurd h (hn s')
      | exit _ => exact hq a w hr1
      | ret => exact hq a w hr1
  | .cond c x y, s, s', ex, a, w, Q, hc, h, hr, hq => by
    simp only [chkC, Bool.and_eq_true] at hc
    simp only [run] at h
    split at h
    · rename_i t ht
      obtain ⟨φ, m, h1, h2⟩ := hr
      have hv := rho_VR h1.vr c
      rw [← St.ρ_eq, ht] at hv
      simp only [VR] at hv
      refine wp_cond hv ?_
      cases t with
      | true => simp only [if_true] at h ⊢; exact run_sound hcl hm k x hc.1 h ⟨φ, m, h1, h2⟩ hq
      | false => simp only [Bool.false_eq_true, if_false] at h ⊢; exact run_sound hcl hm k y hc.2 h ⟨φ, m, h1, h2⟩ hq
    · cases h
  | .block id b, s, s', ex, a, w, Q, hc, h, hr, hq => by
    simp only [chkC] at hc
    simp only [run] at h
    refine wp_block ?_
    split at h
    · rename_i i s1 h1
      split at h
      · rename_i he
        simp only [Option.some.injEq, Prod.mk.injEq] at h; obtain ⟨rfl, rfl⟩ := h
        exact run_sound hcl hm k b hc h1 hr fun a w hr1 => by
          simp only [Ex.to, Exit.inBlock, he, if_true]; exact hq a w hr1
      · rename_i he
        simp only [Option.some.injEq, Prod.mk.injEq] at h; obtain ⟨rfl, rfl⟩ := h
        exact run_sound hcl hm k b hc h1 hr fun a w hr1 => by
          simp only [Ex.to, Exit.inBlock, he, if_false]; exact hq a w hr1
    · rename_i hn
      refine run_sound hcl hm k b hc h hr fun a w hr1 => ?_
      cases ex with
      | normal => exact hq a w hr1
      | exit i => exact absurd h (hn i s')
      | ret => exact hq a w hr1
  | .loop c, s, s', ex, a, w, Q, hc, h, hr, hq => by
    simp only [chkC] at hc
    simp only [run] at h
    exact loop_sound (f := run P cl E k c) (fun h1 hr1 => run_sound hcl hm k c hc h1 hr1 fun a w hr2 => ⟨rfl, hr2⟩) (loopN_ne h) hq k h hr
  | .region id ops d, s, s', ex, a, w, Q, hc, h, hr, hq => by
    simp only [chkC, Bool.and_eq_true] at hc
    simp only [run, Option.map_eq_some_iff, Prod.mk.injEq] at h
    obtain ⟨s1, h, rfl, rfl⟩ := h
    have hd : ∀ o ∈ ops.toList, ∀ d, o.dst = some d → d < n := by
      intro o ho d hd
      have := (List.all_eq_true.1 hc.1) o ho
      rw [hd] at this
      simpa using this
    cases d with
    | false =>
      simp only [Bool.false_eq_true, if_false] at h
      refine wp_region ?_
      have := sq_sound (Q := Q) hcl hd ops.toList 0 (by simp) h hr hq
      rwa [Array.length_toList, ← List.range_eq_range'] at this
    | true =>
      simp only [if_true] at h
      unfold drA at h
      split at h
      · cases h
      rename_i s2 rs hdr
      split at h
      · rename_i hok
        simp only [Option.some.injEq] at h; subst h
        simp only [Bool.and_eq_true] at hok
        simp only [Bool.not_true, Bool.false_or, Bool.and_eq_true] at hc
        have C : Ctx P cl E ops s s2 rs (mkPre ops.toList []) n := ⟨hcl, hdr, hc.2.1, hc.2.2, hok.1, hok.2, hd⟩
        refine wp_region_any hm ?_
        obtain ⟨φ, m, h1, h2⟩ := hr.drew
        have hf0 : ∀ N, (Array.replicate ops.size false).getD N false = false := by
          intro N
          simp only [Array.getD_eq_getD_getElem?, Array.getElem?_replicate]
          split <;> rfl
        have e0 : ∀ (X V : Type) (W : Nat → X → Option V) (base : X → V) (N : Nat) (x : X), Fw (fun i => (Array.replicate ops.size false).getD i false) W base N x = base x := by
          intro X V W base N x
          induction N with
          | zero => rfl
          | succ N ih =>
            simp only [Fw]
            rw [if_neg (by rw [hf0 N]; simp)]; exact ih
        refine dr_sound C hq ops.size _ _ _ (by simp) ?_ ?_ ⟨φ, m, ⟨h1.sz, h1.df⟩, fun t => by rw [e0]; exact h1.vr t, ?_, ?_, fun k r hr hk x hx1 hx2 => ?_, fun x hx => ?_⟩
        · unfold cnt
          have := List.length_filter_le (fun k => !(Array.replicate ops.size false).getD k false) (List.range ops.size)
          simpa using this
        · intro i o hi
          rw [hf0 i] at hi; cases hi
        · simp only [e0]; exact h1.inv
        · simp only [e0]; exact h2
        · refine h1.fr x (Nat.le_trans ?_ hx1)
          -- the first state's count is the least
          obtain ⟨q1, q2, q3, _⟩ := dr_recs hdr
          have hk' := (List.getElem?_eq_some_iff.1 hr).1
          have h00 : rs[0]? = some rs[0] := List.getElem?_eq_getElem (by omega)
          rw [← q3 _ h00]
          by_cases e : k = 0
          · subst e; rw [Option.some.inj (hr.symm.trans h00)]; exact Nat.le_refl _
          · exact Nat.le_trans (stpE_nx (q2 0 _ h00).2.1) (nx_mono hdr 0 k _ r h00 hr (by omega))
        · refine h1.fr x (Nat.le_trans ?_ hx)
          obtain ⟨q1, q2, q3, q4⟩ := dr_recs hdr
          cases hl : rs.length with
          | zero => have := q4 (List.eq_nil_of_length_eq_zero hl); rw [this]; exact Nat.le_refl _
          | succ j =>
            have h00 : rs[0]? = some rs[0] := List.getElem?_eq_getElem (by omega)
            rw [← q3 _ h00]
            exact Nat.le_trans (stpE_nx (q2 0 _ h00).2.1) (nx_last hdr 0 _ h00)
      · cases h
  | .rangeFunc .., s, s', ex, a, w, Q, _, h, hr, hq => by simp [run] at h
  | .scope .., s, s', ex, a, w, Q, _, h, hr, hq => by simp [run] at h
  | .goto .., s, s', ex, a, w, Q, _, h, hr, hq => by simp [run] at h
  | .refuse .., s, s', ex, a, w, Q, _, h, hr, hq => by simp [run] at h
end

/-! ## Functions -/
def resV (P : Program) (fn : Func) (s : St) : Option AV :=
  match fn.results.toList with
  | [.tmp t] => some (lk s.tm t)
  | [.cell a t] => (ldA P t (lk s.tm a) (lkp s.hp) s.nx).map (·.v)
  | rs => (go rs).map .tup
where go : List ResultVar → Option (List AV)
  | [] => some []
  | .tmp t :: rs => (go rs).map (lk s.tm t :: ·)
  | .cell a t :: rs => match ldA P t (lk s.tm a) (lkp s.hp) s.nx, go rs with
    | some e, some vs => some (e.v :: vs)
    | _, _ => none

def chkF (fn : Func) : Bool := (match fn.body with | some b => chkC fn.ntmps b | none => false) && (fn.name == "runtime.NumGoroutine") == false

def tm0 : Nat → List AV → List (Nat × AV)
  | _, [] => []
  | k, v :: vs => (k, v) :: tm0 (k + 1) vs

/-- A function that stands for one of the program's, by a proof of its own. -/
abbrev Xt := FuncId → Option (List AV → List Ob → Option (AV × List Ob))

def startS (args : List AV) (obs : List Ob) : St := ⟨tm0 0 args, zipAt 0 obs, obs.length⟩

def bodyF (P : Program) (cl : Cl) (E : FuncId → Md) (k : Nat) (f : FuncId) (fn : Func) (args : List AV) (obs : List Ob) : Option (AV × List Ob) :=
  match fn.body with
  | none => none
  | some b =>
    if args.length ≤ fn.ntmps then
      match run P cl E k b (startS args obs) with
      | some (.exit _, _) | none => none
      | some (_, s) => match resV P fn s with
        | none => none
        | some v => doneV (E f) obs.length (lkp s.hp) v
    else none

def callK (P : Program) (E : FuncId → Md) (X : Xt) : Nat → Cl
  | 0 => fun _ _ _ => none
  | k + 1 => fun f args obs => match X f with
    | some x => x args obs
    | none => match P.funcs[f]? with
      | none => none
      | some fn => if chkF fn then bodyF P (callK P E X k) E k f fn args obs else none

def XtS (P : Program) (X : Xt) : Prop := ∀ f x, X f = some x → ∀ args obs v obs', x args obs = some (v, obs') → Bodied P f ∧ CallOK P f args obs v obs'

theorem lk_tm0 : ∀ (args : List AV) (k t : Nat), lk (tm0 k args) t = if k ≤ t then (args[t - k]?).getD .any else .any
  | [], k, t => by simp [tm0, lk, lkp]
  | v :: vs, k, t => by
    simp only [tm0]
    have : lk ((k, v) :: tm0 (k + 1) vs) t = if k = t then v else lk (tm0 (k + 1) vs) t := by
      simp only [lk, lkp]; split <;> rfl
    rw [this, lk_tm0 vs (k + 1) t]
    by_cases e : k = t
    · subst e; simp
    · rw [if_neg e]
      by_cases h : k ≤ t
      · rw [if_pos h, if_pos (by omega), show t - k = (t - (k + 1)) + 1 by omega]; simp
      · rw [if_neg h, if_neg (by omega)]
end Go.Proofs.Ytfhglldoejeedaa.Am
