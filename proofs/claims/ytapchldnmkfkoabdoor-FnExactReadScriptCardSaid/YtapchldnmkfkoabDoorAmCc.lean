import Derived.Test.YtapchldnmkfkoabDoorAmCb
set_option linter.unusedVariables false
set_option linter.unusedSimpArgs false
set_option linter.unusedSectionVars false
namespace Go.Proofs.YtapchldnmkfkoabDoor.Am
open Go

variable {P : Program}

inductive Ex where
  | normal
  | exit (id : Nat)
  | ret
  deriving DecidableEq

def Ex.to : Ex → Exit
  | .normal => .normal
  | .exit i => .exit i
  | .ret => .ret

def loopN (f : St → Option (Ex × St)) : Nat → St → Option (Ex × St)
  | 0, _ => none
  | k + 1, s => match f s with
    | some (.normal, s') => loopN f k s'
    | r => r

def run (P : Program) (cl : Cl) (E : FuncId → Md) (k : Nat) : Code → St → Option (Ex × St)
  | .skip, s => some (.normal, s)
  | .label _, s => some (.normal, s)
  | .seq a b, s => match run P cl E k a s with
    | some (.normal, s') => run P cl E k b s'
    | r => r
  | .cond c a b, s => match s.ρ c with
    | .bool t => if t then run P cl E k a s else run P cl E k b s
    | _ => none
  | .block id b, s => match run P cl E k b s with
    | some (.exit i, s') => if i = id then some (.normal, s') else some (.exit i, s')
    | r => r
  | .loop c, s => loopN (run P cl E k c) k s
  | .region _ ops d, s => (if d then drA P cl E ops s else sq P cl E ops ops.toList s).map (Ex.normal, ·)
  | .exit id, s => some (.exit id, s)
  | .ret, s => some (.ret, s)
  | _, _ => none

/-- What is asked of a function's text once. -/
def chkC (n : Nat) : Code → Bool
  | .seq a b => chkC n a && chkC n b
  | .cond _ a b => chkC n a && chkC n b
  | .block _ b => chkC n b
  | .loop c => chkC n c
  | .region _ ops d => (ops.toList.all fun o => match o.dst with | some d => d < n | none => true) && (!d || (preOk ops.toList (mkPre ops.toList []) && slotsOk ops (mkPre ops.toList [])))
  | _ => true

theorem Rel.drew {n : Nat} {φ0 : FM} {m0 : LM} {g0 : Nat → Option Ob} {w0 : World} {s : St} {a : Act} {w : World} (h : Rel P n φ0 m0 g0 w0 s a w) : Rel P n φ0 m0 g0 w0 s a { w with drawn := w.drawn + 1 } := by
  obtain ⟨φ, m, h1, h2⟩ := h
  exact ⟨φ, m, ⟨h1.sz, h1.vr, inv_same h1.inv (fun _ _ => rfl), h1.fr, h1.df⟩, ⟨h2.φle, h2.ext, h2.os, h2.tape, h2.output, h2.size, h2.old, h2.newφ, h2.newm⟩⟩

section
variable {n : Nat} {φ0 : FM} {m0 : LM} {g0 : Nat → Option Ob} {w0 : World} {cl : Cl} {E : FuncId → Md}

theorem loop_sound {c : Code} {f : St → Option (Ex × St)} {Q : Exit → Act → World → Prop}
    (hb : ∀ {s s' : St} {ex : Ex} {a : Act} {w : World}, f s = some (ex, s') → Rel P n φ0 m0 g0 w0 s a w → c.wp P (fun e a w => e = ex.to ∧ Rel P n φ0 m0 g0 w0 s' a w) a w) {ex : Ex} {s' : St} (hex : ex ≠ .normal) (hq : ∀ a w, Rel P n φ0 m0 g0 w0 s' a w → Q ex.to a w) :
    ∀ (j : Nat) {s : St} {a : Act} {w : World}, loopN f j s = some (ex, s') → Rel P n φ0 m0 g0 w0 s a w → (Code.loop c).wp P Q a w := by
  intro j s a w h hr b k cs
  have key : ∀ (j : Nat) {s : St} {a : Act} {w : World}, loopN f j s = some (ex, s') → Rel P n φ0 m0 g0 w0 s a w →
      ∃ e a' w', Q e a' w' ∧ Arrives P (lone (b.at a (.code c :: .inLoop c :: k)) cs w) b k cs e a' w' := by
    intro j
    induction j with
    | zero => intro s a w h _; simp [loopN] at h
    | succ j ih =>
      intro s a w h hr
      simp only [loopN] at h
      split at h
      · rename_i s1 h1
        obtain ⟨e, a1, w1, ⟨he, hr1⟩, harr⟩ := hb h1 hr b (.inLoop c :: k) cs
        subst he
        obtain ⟨e2, a2, w2, hq2, harr2⟩ := ih h hr1
        exact ⟨e2, a2, w2, hq2, .of_steps (Steps.trans harr (.one step_inLoop)) harr2⟩
      · obtain ⟨e, a1, w1, ⟨he, hr1⟩, harr⟩ := hb h hr b (.inLoop c :: k) cs
        refine ⟨e, a1, w1, by rw [he]; exact hq a1 w1 hr1, .pass (x := .inLoop c) rfl (fun _ _ => .inl ?_) harr⟩
        rw [he]
        cases ex with
        | normal => exact absurd rfl hex
        | exit _ => simp [Ex.to]
        | ret => simp [Ex.to]
  obtain ⟨e, a', w', hq', harr⟩ := key j h hr
  exact ⟨e, a', w', hq', .of_steps (.one step_loop) harr⟩

theorem loopN_ne {f : St → Option (Ex × St)} : ∀ {j : Nat} {s s' : St} {ex : Ex}, loopN f j s = some (ex, s') → ex ≠ .normal
  | 0, _, _, _, h => by simp [loopN] at h
  | j + 1, s, s', ex, h => by
    simp only [loopN] at h
    split at h
    · exact loopN_ne h
    · rename_i hn
      rintro rfl
      exact hn _ h

theorem run_sound (hcl : ClS' P cl) (hm : P.follows .mixedOrders = true) (k : Nat) : ∀ (c : Code) {s s' : St} {ex : Ex} {a : Act} {w : World} {Q : Exit → Act → World → Prop}, chkC n c = true → run P cl E k c s = some (ex, s') →
    Rel P n φ0 m0 g0 w0 s a w → (∀ a w, Rel P n φ0 m0 g0 w0 s' a w → Q ex.to a w) → c.wp P Q a w
  | .skip, s, s', ex, a, w, Q, _, h, hr, hq => by
    simp only [run, Option.some.injEq, Prod.mk.injEq] at h; obtain ⟨rfl, rfl⟩ := h
    exact wp_skip (hq a w hr)
  | .label _, s, s', ex, a, w, Q, _, h, hr, hq => by
    simp only [run, Option.some.injEq, Prod.mk.injEq] at h; obtain ⟨rfl, rfl⟩ := h
    exact wp_label (hq a w hr)
  | .exit id, s, s', ex, a, w, Q, _, h, hr, hq => by
    simp only [run, Option.some.injEq, Prod.mk.injEq] at h; obtain ⟨rfl, rfl⟩ := h
    exact wp_exit (hq a w hr)
  | .ret, s, s', ex, a, w, Q, _, h, hr, hq => by
    simp only [run, Option.some.injEq, Prod.mk.injEq] at h; obtain ⟨rfl, rfl⟩ := h
    exact wp_ret (hq a w hr)
  | .seq x y, s, s', ex, a, w, Q, hc, h, hr, hq => by
    simp only [chkC, Bool.and_eq_true] at hc
    simp only [run] at h
    refine wp_seq ?_
    split at h
    · rename_i s1 h1
      exact run_sound hcl hm k x hc.1 h1 hr fun a w hr1 => run_sound hcl hm k y hc.2 h hr1 hq
    · rename_i hn
      refine run_sound hcl hm k x hc.1 h hr fun a w hr1 => ?_
      cases ex with
      | normal => exact absurd h (hn s')
      | exit _ => exact hq a w hr1
      | ret => exact hq a w hr1
  | .cond c x y, s, s', ex, a, w, Q, hc, h, hr, hq => by
    simp only [chkC, Bool.and_eq_true] at hc
    simp only [run] at h
    split at h
    · rename_i t ht
      obtain ⟨φ, m, h1, h2⟩ := hr
      have hv := rho_VR h1.vr c
      rw [← St.ρ_eq, ht] at hv
      simp only [VR] at hv
      refine wp_cond hv ?_
      cases t with
      | true => simp only [if_true] at h ⊢; exact run_sound hcl hm k x hc.1 h ⟨φ, m, h1, h2⟩ hq
      | false => simp only [Bool.false_eq_true, if_false] at h ⊢; exact run_sound hcl hm k y hc.2 h ⟨φ, m, h1, h2⟩ hq
    · cases h
  | .block id b, s, s', ex, a, w, Q, hc, h, hr, hq => by
    simp only [chkC] at hc
    simp only [run] at h
    refine wp_block ?_
    split at h
    · rename_i i s1 h1
      split at h
      · rename_i he
        simp only [Option.some.injEq, Prod.mk.injEq] at h; obtain ⟨rfl, rfl⟩ := h
        exact run_sound hcl hm k b hc h1 hr fun a w hr1 => by
          simp only [Ex.to, Exit.inBlock, he, if_true]; exact hq a w hr1
      · rename_i he
        simp only [Option.some.injEq, Prod.mk.injEq] at h; obtain ⟨rfl, rfl⟩ := h
        exact run_sound hcl hm k b hc h1 hr fun a w hr1 => by
          simp only [Ex.to, Exit.inBlock, he, if_false]; exact hq a w hr1
    · rename_i hn
      refine run_sound hcl hm k b hc h hr fun a w hr1 => ?_
      cases ex with
      | normal => exact hq a w hr1
      | exit i => exact absurd h (hn i s')
      | ret => exact hq a w hr1
  | .loop c, s, s', ex, a, w, Q, hc, h, hr, hq => by
    simp only [chkC] at hc
    simp only [run] at h
    exact loop_sound (f := run P cl E k c) (fun h1 hr1 => run_sound hcl hm k c hc h1 hr1 fun a w hr2 => ⟨rfl, hr2⟩) (loopN_ne h) hq k h hr
  | .region id ops d, s, s', ex, a, w, Q, hc, h, hr, hq => by
    simp only [chkC, Bool.and_eq_true] at hc
    simp only [run, Option.map_eq_some_iff, Prod.mk.injEq] at h
    obtain ⟨s1, h, rfl, rfl⟩ := h
    have hd : ∀ o ∈ ops.toList, ∀ d, o.dst = some d → d < n := by
      intro o ho d hd
      have := (List.all_eq_true.1 hc.1) o ho
      rw [hd] at this
      simpa using this
    cases d with
    | false =>
      simp only [Bool.false_eq_true, if_false] at h
      refine wp_region ?_
      have := sq_sound (Q := Q) hcl hd ops.toList 0 (by simp) h hr hq
      rwa [Array.length_toList, ← List.range_eq_range'] at this
    | true =>
      simp only [if_true] at h
      unfold drA at h
      split at h
      · cases h
      rename_i s2 rs hdr
      split at h
      · rename_i hok
        simp only [Option.some.injEq] at h; subst h
        simp only [Bool.and_eq_true] at hok
        simp only [Bool.not_true, Bool.false_or, Bool.and_eq_true] at hc
        have C : Ctx P cl E ops s s2 rs (mkPre ops.toList []) n := ⟨hcl, hdr, hc.2.1, hc.2.2, hok.1, hok.2, hd⟩
        refine wp_region_any hm ?_
        obtain ⟨φ, m, h1, h2⟩ := hr.drew
        have hf0 : ∀ N, (Array.replicate ops.size false).getD N false = false := by
          intro N
          simp only [Array.getD_eq_getD_getElem?, Array.getElem?_replicate]
          split <;> rfl
        have e0 : ∀ (X V : Type) (W : Nat → X → Option V) (base : X → V) (N : Nat) (x : X), Fw (fun i => (Array.replicate ops.size false).getD i false) W base N x = base x := by
          intro X V W base N x
          induction N with
          | zero => rfl
          | succ N ih =>
            simp only [Fw]
            rw [if_neg (by rw [hf0 N]; simp)]; exact ih
        refine dr_sound C hq ops.size _ _ _ (by simp) ?_ ?_ ⟨φ, m, ⟨h1.sz, h1.df⟩, fun t => by rw [e0]; exact h1.vr t, ?_, ?_, fun k r hr hk x hx1 hx2 => ?_, fun x hx => ?_⟩
        · unfold cnt
          have := List.length_filter_le (fun k => !(Array.replicate ops.size false).getD k false) (List.range ops.size)
          simpa using this
        · intro i o hi
          rw [hf0 i] at hi; cases hi
        · simp only [e0]; exact h1.inv
        · simp only [e0]; exact h2
        · refine h1.fr x (Nat.le_trans ?_ hx1)
          -- the first state's count is the least
          obtain ⟨q1, q2, q3, _⟩ := dr_recs hdr
          have hk' := (List.getElem?_eq_some_iff.1 hr).1
          have h00 : rs[0]? = some rs[0] := List.getElem?_eq_getElem (by omega)
          rw [← q3 _ h00]
          by_cases e : k = 0
          · subst e; rw [Option.some.inj (hr.symm.trans h00)]; exact Nat.le_refl _
          · exact Nat.le_trans (stpE_nx (q2 0 _ h00).2.1) (nx_mono hdr 0 k _ r h00 hr (by omega))
        · refine h1.fr x (Nat.le_trans ?_ hx)
          obtain ⟨q1, q2, q3, q4⟩ := dr_recs hdr
          cases hl : rs.length with
          | zero => have := q4 (List.eq_nil_of_length_eq_zero hl); rw [this]; exact Nat.le_refl _
          | succ j =>
            have h00 : rs[0]? = some rs[0] := List.getElem?_eq_getElem (by omega)
            rw [← q3 _ h00]
            exact Nat.le_trans (stpE_nx (q2 0 _ h00).2.1) (nx_last hdr 0 _ h00)
      · cases h
  | .rangeFunc .., s, s', ex, a, w, Q, _, h, hr, hq => by simp [run] at h
  | .scope .., s, s', ex, a, w, Q, _, h, hr, hq => by simp [run] at h
  | .goto .., s, s', ex, a, w, Q, _, h, hr, hq => by simp [run] at h
  | .refuse .., s, s', ex, a, w, Q, _, h, hr, hq => by simp [run] at h
end

/-! ## Functions -/
/-- A load that makes nothing. -/
def lkE (nx : Nat) (o : Option Eff) : Option Eff := match o with
  | some e => if e.nx = nx then some e else none
  | none => none
theorem lkE_some {nx : Nat} {o : Option Eff} {e : Eff} (h : lkE nx o = some e) : o = some e ∧ e.nx = nx := by
  unfold lkE at h
  split at h
  · split at h
    · cases h; exact ⟨rfl, by assumption⟩
    · cases h
  · cases h
@[simp] theorem lkE_same {nx : Nat} {v rd wr} : lkE nx (some ⟨v, rd, wr, nx⟩) = some ⟨v, rd, wr, nx⟩ := by simp [lkE]
@[simp] theorem lkE_none {nx : Nat} : lkE nx none = none := rfl
@[simp] theorem lkE_ite {c : Prop} [Decidable c] {a b nx} : lkE nx (if c then a else b) = if c then lkE nx a else lkE nx b := by split <;> rfl
def resV (P : Program) (fn : Func) (s : St) : Option AV :=
  match fn.results.toList with
  | [.tmp t] => some (lk s.tm t)
  | [.cell a t] => (lkE s.nx (ldA P t (lk s.tm a) (lkp s.hp) s.nx)).map (·.v)
  | rs => (go rs).map .tup
where go : List ResultVar → Option (List AV)
  | [] => some []
  | .tmp t :: rs => (go rs).map (lk s.tm t :: ·)
  | .cell a t :: rs => match lkE s.nx (ldA P t (lk s.tm a) (lkp s.hp) s.nx), go rs with
    | some e, some vs => some (e.v :: vs)
    | _, _ => none

def chkF (fn : Func) : Bool := (match fn.body with | some b => chkC fn.ntmps b | none => false) && (fn.name == "runtime.NumGoroutine") == false

def tm0 : Nat → List AV → List (Nat × AV)
  | _, [] => []
  | k, v :: vs => (k, v) :: tm0 (k + 1) vs

/-- A function that stands for one of the program's, by a proof of its own. -/
abbrev Xt := FuncId → Option (List AV → List Ob → Option (AV × List Ob))

def startS (args : List AV) (obs : List Ob) : St := ⟨tm0 0 args, zipAt 0 obs, obs.length⟩

def bodyF (P : Program) (cl : Cl) (E : FuncId → Md) (k : Nat) (f : FuncId) (fn : Func) (args : List AV) (obs : List Ob) : Option (AV × List Ob) :=
  match fn.body with
  | none => none
  | some b =>
    if args.length ≤ fn.ntmps then
      match run P cl E k b (startS args obs) with
      | some (.exit _, _) | none => none
      | some (_, s) => match resV P fn s with
        | none => none
        | some v => doneV (E f) obs.length (lkp s.hp) v
    else none

def callK (P : Program) (E : FuncId → Md) (X : Xt) : Nat → Cl
  | 0 => fun _ _ _ => none
  | k + 1 => fun f args obs => match X f with
    | some x => x args obs
    | none => match P.funcs[f]? with
      | none => none
      | some fn => if chkF fn then bodyF P (callK P E X k) E k f fn args obs else none

def XtS (P : Program) (X : Xt) : Prop := ∀ f x, X f = some x → ∀ args obs v obs', x args obs = some (v, obs') → Bodied P f ∧ CallOK P f args obs v obs'

theorem lk_tm0 : ∀ (args : List AV) (k t : Nat), lk (tm0 k args) t = if k ≤ t then (args[t - k]?).getD .any else .any
  | [], k, t => by simp [tm0, lk, lkp]
  | v :: vs, k, t => by
    simp only [tm0]
    have : lk ((k, v) :: tm0 (k + 1) vs) t = if k = t then v else lk (tm0 (k + 1) vs) t := by
      simp only [lk, lkp]; split <;> rfl
    rw [this, lk_tm0 vs (k + 1) t]
    by_cases e : k = t
    · subst e; simp
    · rw [if_neg e]
      by_cases h : k ≤ t
      · rw [if_pos h, if_pos (by omega), show t - k = (t - (k + 1)) + 1 by omega]; simp
      · rw [if_neg h, if_neg (by omega)]
end Go.Proofs.YtapchldnmkfkoabDoor.Am
namespace Go.Proofs.YtapchldnmkfkoabDoor.Am
open Go

variable {P : Program}

section
variable {φ φ' : FM} {m : LM} {g gi : Nat → Option Ob} {w w' : World}

theorem inv_sub2 (hi : Inv φ m g w) {js : List Nat} {obs : List Ob} (hn : js.Nodup) (hl : obs.length = js.length)
    (ho : ∀ (k i : Nat), js[k]? = some i → ∃ ob, obs[k]? = some ob ∧ g i = some ob) (hc : ∀ i ∈ js, ∀ ob, g i = some ob → ∀ j ∈ ob.ids, j ∈ js)
    (hle : φ.le φ') (hfz : ∀ b o, φ' b = some o → w.heap[b]? = some o) (hφ : ∀ i ∈ js, ∀ ob l, g i = some ob → m i = some l → ∀ b, ob.fp l b → φ' b = φ b) :
    Inv φ' (subM m js) (fun k => (obs.map (Ob.ren (ixOf js)))[k]?) w := by
  have h := inv_sub hi hn hl ho hc
  refine ⟨hfz, fun k ob' hk => ?_, h.sep⟩
  obtain ⟨l, h1, h2⟩ := h.own k ob' hk
  refine ⟨l, h1, ?_⟩
  have hkl : k < js.length := by have := (List.getElem?_eq_some_iff.1 hk).1; simp at this; omega
  obtain ⟨ob, h3, h4⟩ := ho k js[k] (List.getElem?_eq_getElem hkl)
  simp only [subM, List.getElem?_eq_getElem hkl] at h1
  rw [List.getElem?_map, h3] at hk
  simp only [Option.map_some, Option.some.injEq] at hk
  exact h2.mono hle (Ext.refl _) (fun _ _ => rfl) (fun b hb => hφ js[k] (List.getElem_mem hkl) ob l h4 h1 b (fp_ren.1 (by rw [hk]; exact hb)))

theorem addTo_pre : ∀ (xs l : List Nat) (i : Nat), i < l.length → (addTo l xs)[i]? = l[i]?
  | [], l, i, h => rfl
  | x :: xs, l, i, h => by
    simp only [addTo]
    split
    · exact addTo_pre xs l i h
    · rw [addTo_pre xs _ i (by simp; omega), List.getElem?_append_left h]

theorem addTo_len : ∀ (xs l : List Nat), l.length ≤ (addTo l xs).length
  | [], l => Nat.le_refl _
  | x :: xs, l => by
    simp only [addTo]
    split
    · exact addTo_len xs l
    · exact Nat.le_trans (by simp) (addTo_len xs _)

theorem clo_pre (g : Nat → Option Ob) : ∀ (d : Nat) (l : List Nat) (i : Nat), i < l.length → (clo g d l)[i]? = l[i]?
  | 0, _, _, _ => rfl
  | d + 1, l, i, h => by
    simp only [clo]
    rw [clo_pre g d _ i (Nat.lt_of_lt_of_le h (addTo_len _ _)), addTo_pre _ _ _ h]

theorem clo_len (g : Nat → Option Ob) : ∀ (d : Nat) (l : List Nat), l.length ≤ (clo g d l).length
  | 0, _ => Nat.le_refl _
  | d + 1, l => Nat.le_trans (addTo_len _ _) (clo_len g d _)

theorem done_sound {md : Md} {k : Nat} {v v' : AV} {obs' : List Ob} {cv : Value} {φ0 : FM} {m0 : LM} {g0 : Nat → Option Ob} {w0 : World} (h : doneV md k g v = some (v', obs')) (hi : Inv φ m g w) (hv : VR φ m v cv)
    (hm0 : ∀ i, k ≤ i → m0 i = none) (hF : Fr φ0 m0 g0 w0 φ m g w) :
    ∃ φ' m', VR φ' m' v' cv ∧ Inv φ' m' (fun i => obs'[i]?) w ∧ Fr φ0 m0 g0 w0 φ' m' (fun i => obs'[i]?) w ∧ (∀ i, obs'.length ≤ i → m' i = none) ∧ k ≤ obs'.length := by
  have ext : ∀ {js : List Nat}, (∀ i, i < k → js[i]? = some i) → Ext m0 (subM m js) := by
    intro js hjs i l hl
    have hik : i < k := by
      rcases Nat.lt_or_ge i k with h | h
      · exact h
      · rw [hm0 i h] at hl; cases hl
    obtain ⟨l', h1, h2⟩ := hF.ext i l hl
    exact ⟨l', by unfold subM; rw [hjs i hik]; exact h1, h2⟩
  have newm : ∀ {js : List Nat} {obs : List Ob}, obs.length = js.length → (∀ (k i : Nat), js[k]? = some i → ∃ ob, obs[k]? = some ob ∧ g i = some ob) → ∀ b, ownB (fun i => (obs.map (Ob.ren (ixOf js)))[i]?) (subM m js) b → ownB g m b := by
    rintro js obs hl ho b ⟨k, ob', l, h1, h2, h3⟩
    have hk : k < js.length := by have := (List.getElem?_eq_some_iff.1 h1).1; simp at this; omega
    obtain ⟨ob, h5, h6⟩ := ho k js[k] (List.getElem?_eq_getElem hk)
    simp only [subM, List.getElem?_eq_getElem hk] at h2
    dsimp only at h1
    rw [List.getElem?_map, h5] at h1
    simp only [Option.map_some, Option.some.injEq] at h1
    exact ⟨js[k], ob, l, h6, h2, fp_ren.1 (by rw [h1]; exact h3)⟩
  unfold doneV at h
  simp only at h
  generalize hreach : clo g 3 (List.range k) = reach at h
  have hrn : reach.Nodup := by rw [← hreach]; exact nodup_clo _ _ _ List.nodup_range
  have hrk : ∀ i, i < k → reach[i]? = some i := fun i hik => by rw [← hreach, clo_pre g 3 _ i (by simpa using hik)]; simp [hik]
  have hrl : k ≤ reach.length := by rw [← hreach]; have := clo_len g 3 (List.range k); simpa using this
  split at h
  · generalize hall : clo g 3 (addTo reach (ids v)) = all at h
    have han : all.Nodup := by rw [← hall]; exact nodup_clo _ _ _ (nodup_addTo _ _ hrn)
    have hak : ∀ i, i < k → all[i]? = some i := fun i hik => by
      rw [← hall, clo_pre g 3 _ i (by have := addTo_len (ids v) reach; omega), addTo_pre _ _ _ (by omega)]; exact hrk i hik
    have hal : k ≤ all.length := by rw [← hall]; have := clo_len g 3 (addTo reach (ids v)); have := addTo_len (ids v) reach; omega
    have hav : ∀ i ∈ ids v, i ∈ all := fun i hi => by rw [← hall]; exact mem_clo _ _ _ _ ((mem_addTo _ _ _).2 (.inr hi))
    split at h
    · cases h
    rename_i hcd
    simp only [Bool.not_eq_true, Bool.not_eq_false'] at hcd
    split at h
    · cases h
    rename_i obs hout
    simp only [Option.some.injEq, Prod.mk.injEq] at h
    obtain ⟨rfl, rfl⟩ := h
    obtain ⟨s1, s2⟩ := outOf_get hout
    refine ⟨φ, subM m all, ren_VR v (fun i hi l hl => by unfold subM; rw [ixOf_get (hav i hi)]; exact hl) hv, inv_sub hi han s1 s2 (fun i hi ob h1 j hj => closed_mem hcd hi h1 hj),
      ⟨hF.φle, ext hak, hF.os, hF.tape, hF.output, hF.size, hF.old, hF.newφ, fun b hb => hF.newm b (newm s1 s2 b hb)⟩, fun i hi => ?_, by simpa [s1] using hal⟩
    unfold subM
    rw [List.getElem?_eq_none (by simpa [s1] using hi)]
  · generalize hown : clo g 3 (addTo [] (ids v)) = own at h
    have hov : ∀ i ∈ ids v, i ∈ own := fun i hi => by rw [← hown]; exact mem_clo _ _ _ _ (ids_mem.2 hi)
    split at h
    · cases h
    rename_i hcd
    simp only [Bool.or_eq_true, Bool.not_eq_true', not_or, Bool.not_eq_false] at hcd
    obtain ⟨⟨hc1, hc2⟩, hc3⟩ := hcd
    split at h
    · rename_i v2 obs hfz hout
      simp only [Option.some.injEq, Prod.mk.injEq] at h
      obtain ⟨rfl, rfl⟩ := h
      obtain ⟨s1, s2⟩ := outOf_get hout
      have hdis : ∀ i ∈ own, i ∉ reach := by
        intro i h1 h2
        apply hc3
        rw [List.any_eq_true]
        exact ⟨i, h1, by simpa using h2⟩
      have hfv : VR (lend hi own) LM.none v2 cv := frzW_sound hi (lend_le hi own) (bxD g 3) (lend_box (gi := g) hi (fun _ _ => rfl) (fun i hi ob h1 j hj => closed_mem hc2 hi h1 hj) 3) v hfz (fun _ _ => rfl)
        (fun i hi' => lend_cov hi own i (hov i hi')) hv
      refine ⟨lend hi own, subM m reach, VR.mono (FM.le_refl _) _ (Ext.none _) hfv, inv_sub2 hi hrn s1 s2 (fun i hi ob h1 j hj => closed_mem hc1 hi h1 hj) (lend_le hi own) (lend_fz hi own) ?_,
        ⟨hF.φle.trans (lend_le hi own), ext hrk, hF.os, hF.tape, hF.output, hF.size, hF.old, fun b o hb => ?_, fun b hb => hF.newm b (newm s1 s2 b hb)⟩, fun i hi => ?_, by simpa [s1] using hrl⟩
      · intro i hir ob l h1 h2 b h3
        rw [lend_eq, if_neg]
        rintro ⟨j, hj, ob2, l2, k1, k2, k3⟩
        exact hi.sep j i ob2 ob l2 l b k1 h1 k2 h2 (by rintro rfl; exact hdis _ hj hir) k3 h3
      · rw [lend_eq] at hb
        split at hb
        · rename_i hq
          obtain ⟨j, _, ob2, l2, k1, k2, k3⟩ := hq
          rcases hF.newm b ⟨j, ob2, l2, k1, k2, k3⟩ with h | h
          · exact .inr (.inl h)
          · exact .inr (.inr h)
        · exact hF.newφ b o hb
      · unfold subM
        rw [List.getElem?_eq_none (by simpa [s1] using hi)]
    · cases h
end
end Go.Proofs.YtapchldnmkfkoabDoor.Am
namespace Go.Proofs.YtapchldnmkfkoabDoor.Am
open Go

variable {P : Program}

section
variable {φ : FM} {m : LM} {w : World}

theorem loadVar_of {t : TypeId} {c v : Value} (h : (Instr.loadAt t c).run P w = .ok v w) : (do loadVar t (← asAddr c) : Sem Value).run P w = .ok v w := by
  cases c <;> try (simp [Instr.loadAt, Instr.sureAddr] at h; done)
  rename_i a
  cases a with
  | none => simp [Instr.loadAt, Instr.sureAddr] at h
  | some a => simpa [Instr.loadAt, Instr.sureAddr, asAddr] using h

def rfun (a : Act) : ResultVar → Sem Value
  | .tmp t => pure (a.tmps.getD t undef)
  | .cell c t => do loadVar t (← asAddr (a.tmps.getD c undef))

theorem res_run {n : Nat} {s : St} {a : Act} (h : SR P n φ m s a w) {rs : List ResultVar} {vs : List AV} (hr : resV.go P s rs = some vs) :
    ∃ cvs : List Value, (rs.mapM (rfun a)).run P w = .ok cvs w ∧ VRL φ m vs cvs := by
  induction rs generalizing vs with
  | nil =>
    simp only [resV.go, Option.some.injEq] at hr; subst hr
    exact ⟨[], by simp, by simp [VRL]⟩
  | cons r rs ih =>
    cases r with
    | tmp t =>
      simp only [resV.go, Option.map_eq_some_iff] at hr
      obtain ⟨vs, hr, rfl⟩ := hr
      obtain ⟨cvs, h1, h2⟩ := ih hr
      exact ⟨a.tmps.getD t undef :: cvs, by simp only [List.mapM_cons, rfun, Sem.run_bind, Sem.run_pure, Result.andThen_ok, h1], by simp only [VRL]; exact ⟨_, _, rfl, h.vr t, h2⟩⟩
    | cell c t =>
      simp only [resV.go] at hr
      split at hr
      · rename_i e vs he hgo
        cases hr
        obtain ⟨cvs, h1, h2⟩ := ih hgo
        obtain ⟨he, hnx⟩ := lkE_some he
        obtain ⟨cv, k1, k2⟩ := ld_sound (P := P) (g := lkp s.hp) he (fun _ _ => rfl) h.inv (h.vr c)
        replace k2 : VR φ m e.v cv := by
          rcases k2 with ⟨k2, _⟩ | k2 | k2
          · exact k2
          case inr.inr =>
            obtain ⟨_, _, _, _, _, _, _, _, _, _, _, _, _, _, _, _, _, _, _, hlt, _, _, _, _, _, rfl⟩ := k2
            simp at hnx; omega
          · obtain ⟨_, _, _, _, _, _, _, _, _, _, _, _, _, _, _, _, _, _, _, _, _, _, _, _, _, _, _, _, rfl⟩ := k2
            simp at hnx
        refine ⟨cv :: cvs, ?_, by simp only [VRL]; exact ⟨_, _, rfl, k2, h2⟩⟩
        rw [List.mapM_cons]
        have := loadVar_of k1
        have e2 : (rfun a (.cell c t)).run P w = .ok cv w := this
        simp only [Sem.run_bind, e2, h1, Result.andThen_ok, Sem.run_pure]
      · cases hr

theorem results_run {n : Nat} {fn : Func} {s : St} {a : Act} {v : AV} (h : SR P n φ m s a w) (hr : resV P fn s = some v) : ∃ cv, (results fn a.tmps).run P w = .ok cv w ∧ VR φ m v cv := by
  have key : ∀ {vs : List AV}, resV.go P s fn.results.toList = some vs → ∃ cvs : Array Value, (results fn a.tmps).run P w = .ok (if h : cvs.size = 1 then cvs[0] else .tuple cvs) w ∧ VRL φ m vs cvs.toList := by
    intro vs hvs
    obtain ⟨cvs, h1, h2⟩ := res_run (P := P) h hvs
    refine ⟨cvs.toArray, ?_, by simpa using h2⟩
    have e : results fn a.tmps = (do let vs ← fn.results.mapM (rfun a); pure (if h : vs.size = 1 then vs[0] else .tuple vs)) := rfl
    rw [e, Array.mapM_eq_mapM_toList]
    simp only [Sem.run_bind, Sem.run_map, h1, Result.andThen_ok, Sem.run_pure]
  unfold resV at hr
  split at hr
  · rename_i t ht
    cases hr
    obtain ⟨cvs, h1, h2⟩ := key (vs := [lk s.tm t]) (by rw [ht]; simp [resV.go])
    have hl := VRL_len h2
    simp only [List.length_singleton, Array.length_toList] at hl
    refine ⟨_, h1, ?_⟩
    rw [dif_pos hl]
    obtain ⟨cv, e1, e2⟩ := VRL_get (i := 0) h2 rfl
    have : cvs[0] = cv := by
      have : cvs[0]? = some cv := by simpa using e1
      rw [Array.getElem?_eq_getElem (by omega)] at this
      exact Option.some.inj this
    rw [this]; exact e2
  · rename_i c t ht
    simp only [Option.map_eq_some_iff] at hr
    obtain ⟨e, he, rfl⟩ := hr
    obtain ⟨cvs, h1, h2⟩ := key (vs := [e.v]) (by rw [ht]; simp [resV.go, he])
    have hl := VRL_len h2
    simp only [List.length_singleton, Array.length_toList] at hl
    refine ⟨_, h1, ?_⟩
    rw [dif_pos hl]
    obtain ⟨cv, e1, e2⟩ := VRL_get (i := 0) h2 rfl
    have : cvs[0] = cv := by
      have : cvs[0]? = some cv := by simpa using e1
      rw [Array.getElem?_eq_getElem (by omega)] at this
      exact Option.some.inj this
    rw [this]; exact e2
  · rename_i h1 h2
    simp only [Option.map_eq_some_iff] at hr
    obtain ⟨vs, hvs, rfl⟩ := hr
    obtain ⟨cvs, k1, k2⟩ := key hvs
    refine ⟨_, k1, ?_⟩
    rw [dif_neg]
    · simp only [VR]; exact ⟨cvs, rfl, k2⟩
    · intro hs
      have hl := VRL_len k2
      simp only [Array.length_toList, hs] at hl
      -- as many values as results
      have hlen : ∀ (rs : List ResultVar) (vs : List AV), resV.go P s rs = some vs → vs.length = rs.length := by
        intro rs
        induction rs with
        | nil => intro vs h; simp only [resV.go, Option.some.injEq] at h; subst h; rfl
        | cons r rs ih =>
          intro vs h
          cases r with
          | tmp t =>
            simp only [resV.go, Option.map_eq_some_iff] at h
            obtain ⟨vs, h, rfl⟩ := h
            simp [ih vs h]
          | cell c t =>
            simp only [resV.go] at h
            split at h
            · rename_i e vs he hgo
              cases h; simp [ih vs hgo]
            · cases h
      have := hlen _ _ hvs
      cases hf : fn.results.toList with
      | nil => rw [hf] at this; simp only [List.length_nil] at this; omega
      | cons r rs =>
        cases rs with
        | nil =>
          cases r with
          | tmp t => exact h1 t hf
          | cell c t => exact h2 c t hf
        | cons _ _ => rw [hf] at this; simp only [List.length_cons] at this; omega

theorem bodyF_sound {cl : Cl} {E : FuncId → Md} {k : Nat} {f : FuncId} {fn : Func} {args : List AV} {obs : List Ob} {v : AV} {obs' : List Ob} (hcl : ClS' P cl) (hm : P.follows .mixedOrders = true)
    (hf : P.funcs[f]? = some fn) (hc : chkF fn = true) (h : bodyF P cl E k f fn args obs = some (v, obs')) : Bodied P f ∧ CallOK P f args obs v obs' := by
  unfold chkF at hc
  unfold bodyF at h
  split at h
  · cases h
  rename_i b hb
  rw [hb] at hc
  simp only [Bool.and_eq_true] at hc
  refine ⟨⟨fn, b, hf, hb, by simpa using hc.2⟩, ?_⟩
  split at h
  · rename_i hal
    intro φ m w cargs hv hinv hmn
    have hcs : cargs.size = args.length := by simpa using VRL_len hv
    have hz : lkp (zipAt 0 obs) = fun i => obs[i]? := by funext i; rw [lkp_zipAt]; simp
    have hr0 : Rel P fn.ntmps φ m (fun i => obs[i]?) w (startS args obs) { tmps := cargs ++ Array.replicate (fn.ntmps - cargs.size) undef, defers := [] } w := by
      refine ⟨φ, m, ⟨?_, fun t => ?_, ?_, ?_, rfl⟩, ?_⟩
      · simp; omega
      · show VR φ m (lk (tm0 0 args) t) _
        rw [lk_tm0]
        simp only [Nat.zero_le, if_true, Nat.sub_zero]
        cases ha : args[t]? with
        | none => simp [VR]
        | some x =>
          obtain ⟨cx, h1, h2⟩ := VRL_get hv ha
          have ht : t < cargs.size := by have := (List.getElem?_eq_some_iff.1 ha).1; omega
          have h3 : cargs[t]? = some cx := by simpa using h1
          have : (cargs ++ Array.replicate (fn.ntmps - cargs.size) undef).getD t undef = cx := by
            rw [Array.getD_eq_getD_getElem?, Array.getElem?_append_left ht, h3]; rfl
          simp only [this, Option.getD_some]; exact h2
      · show Inv φ m (lkp (zipAt 0 obs)) w
        rw [hz]; exact hinv
      · exact hmn
      · show Fr φ m (fun i => obs[i]?) w φ m (lkp (zipAt 0 obs)) w
        rw [hz]; exact Fr.refl ..
    have fin : ∀ {ex : Ex} {s : St}, run P cl E k b (startS args obs) = some (ex, s) → (ex = .normal ∨ ex = .ret) → (match resV P fn s with | none => none | some v => doneV (E f) obs.length (lkp s.hp) v) = some (v, obs') →
        Calls P f cargs w fun e w' => ∃ cv, e = .returned cv ∧ ∃ φ' m', VR φ' m' v cv ∧ Inv φ' m' (fun i => obs'[i]?) w' ∧ Fr φ m (fun i => obs[i]?) w φ' m' (fun i => obs'[i]?) w' ∧ (∀ i, obs'.length ≤ i → m' i = none) ∧ obs.length ≤ obs'.length := by
      intro ex s hrun hex hd
      split at hd
      · cases hd
      rename_i v0 hv0
      refine calls_of_wp hf hb (run_sound hcl hm k b hc.1 hrun hr0 fun a w' hr => ?_)
      obtain ⟨φ1, m1, h1, h2⟩ := hr
      obtain ⟨cv, r1, r2⟩ := results_run (P := P) (fn := fn) h1 hv0
      obtain ⟨φ', m', p1, p2, p3, p4, p5⟩ := done_sound hd h1.inv r2 hmn h2
      rcases hex with rfl | rfl
      · exact ⟨h1.df, cv, r1, cv, rfl, φ', m', p1, p2, p3, p4, p5⟩
      · exact ⟨h1.df, cv, r1, cv, rfl, φ', m', p1, p2, p3, p4, p5⟩
    split at h
    · cases h
    · cases h
    · rename_i ex s hn hrun
      refine fin hrun ?_ h
      cases ex with
      | normal => exact .inl rfl
      | ret => exact .inr rfl
      | exit i => exact (hn i rfl).elim
  · cases h

theorem callK_sound {E : FuncId → Md} {X : Xt} (hX : XtS P X) (hm : P.follows .mixedOrders = true) : ∀ k, ClS' P (callK P E X k)
  | 0 => fun f args obs v obs' h => by simp [callK] at h
  | k + 1 => fun f args obs v obs' h => by
    simp only [callK] at h
    split at h
    · rename_i x hx
      exact hX f x hx args obs v obs' h
    · split at h
      · cases h
      · rename_i fn hf
        split at h
        · rename_i hc
          exact bodyF_sound (callK_sound hX hm k) hm hf hc h
        · cases h
end
end Go.Proofs.YtapchldnmkfkoabDoor.Am
namespace Go.Proofs.YtapchldnmkfkoabDoor.Am
open Go

/-! ## Without fuel -/
section
variable {α β : Type}

open Classical in
noncomputable def lim (f : Nat → Option α) : Option α := if h : ∃ k r, f k = some r then f h.choose else none

def Mono (f : Nat → Option α) : Prop := ∀ k r, f k = some r → f (k + 1) = some r

theorem Mono.le {f : Nat → Option α} (hm : Mono f) {k j : Nat} {r : α} (h : f k = some r) (hkj : k ≤ j) : f j = some r := by
  induction j with
  | zero => cases Nat.le_zero.1 hkj; exact h
  | succ j ih =>
    rcases Nat.lt_or_ge j k with hlt | hge
    · have : k = j + 1 := by omega
      subst this; exact h
    · exact hm j r (ih hge)

theorem lim_iff {f : Nat → Option α} (hm : Mono f) {r : α} : lim f = some r ↔ ∃ k, f k = some r := by
  unfold lim
  constructor
  · intro h
    split at h
    · exact ⟨_, h⟩
    · cases h
  · rintro ⟨k, h⟩
    have he : ∃ k r, f k = some r := ⟨k, r, h⟩
    rw [dif_pos he]
    obtain ⟨r', h'⟩ := he.choose_spec
    rw [h']
    have h1 := hm.le h (Nat.le_max_left k he.choose)
    have h2 := hm.le h' (Nat.le_max_right k he.choose)
    rw [h1] at h2; exact h2.symm

theorem opt_ext {a b : Option α} (h : ∀ r, a = some r ↔ b = some r) : a = b := by
  cases a with
  | none => cases b with
    | none => rfl
    | some r => exact absurd ((h r).2 rfl) (by simp)
  | some r => exact ((h r).1 rfl).symm

abbrev Q := FuncId × List AV × List Ob × (AV × List Ob)

def Ans (cl : Cl) (q : Q) : Prop := cl q.1 q.2.1 q.2.2.1 = some q.2.2.2

/-- What is computed asks but finitely many calls. -/
def Cont (F : Cl → Option α) : Prop := ∀ cl e, F cl = some e → ∃ qs : List Q, (∀ q ∈ qs, Ans cl q) ∧ ∀ cl', (∀ q ∈ qs, Ans cl' q) → F cl' = some e

theorem Cont.const {o : Option α} : Cont (fun _ => o) := fun _ e h => ⟨[], by simp, fun _ _ => h⟩

theorem Cont.call {f : FuncId} {args : List AV} {obs : List Ob} : Cont (fun cl => cl f args obs) := fun cl e h =>
  ⟨[(f, args, obs, e)], by simpa [Ans] using h, fun cl' h' => h' (f, args, obs, e) (by simp)⟩

theorem Cont.bind {F : Cl → Option α} {G : α → Cl → Option β} (hF : Cont F) (hG : ∀ a, Cont (G a)) : Cont (fun cl => (F cl).bind fun a => G a cl) := by
  intro cl e h
  simp only [Option.bind_eq_some_iff] at h
  obtain ⟨a, h1, h2⟩ := h
  obtain ⟨q1, a1, b1⟩ := hF cl a h1
  obtain ⟨q2, a2, b2⟩ := hG a cl e h2
  refine ⟨q1 ++ q2, fun q hq => ?_, fun cl' h' => ?_⟩
  · rcases List.mem_append.1 hq with h | h
    · exact a1 q h
    · exact a2 q h
  · simp only [b1 cl' (fun q hq => h' q (List.mem_append_left _ hq)), Option.bind_some]
    exact b2 cl' fun q hq => h' q (List.mem_append_right _ hq)

theorem Cont.mono {F : Cl → Option α} (hF : Cont F) {cl cl' : Cl} (hle : ∀ f args obs r, cl f args obs = some r → cl' f args obs = some r) {e : α} (h : F cl = some e) : F cl' = some e := by
  obtain ⟨qs, h1, h2⟩ := hF cl e h
  exact h2 cl' fun q hq => hle _ _ _ _ (h1 q hq)

theorem Cont.of {F : Cl → Option α} (G : Cl → Option α) (h : ∀ cl, F cl = G cl) (hG : Cont G) : Cont F := by
  have : F = G := funext h
  rw [this]; exact hG
end

section
variable {P : Program} {E : FuncId → Md}

theorem cont_callV {f : FuncId} {args : List AV} {g : Nat → Option Ob} {nx : Nat} : Cont (fun cl => callV cl E f args g nx) := by
  unfold callV
  by_cases hc : closed g (clo g 3 (addTo [] (idsL args))) = true
  · simp only [hc, Bool.not_true, Bool.false_eq_true, if_false]
    by_cases ho : (E f).own = true
    · simp only [ho, if_true]
      cases outOf g (clo g 3 (addTo [] (idsL args))) with
      | none => exact Cont.const
      | some sub =>
        refine Cont.of _ (fun cl => ?_) (Cont.bind (Cont.call (f := f) (args := renL (ixOf (clo g 3 (addTo [] (idsL args)))) args) (obs := sub.map (Ob.ren (ixOf (clo g 3 (addTo [] (idsL args))))))) (G := fun r _ =>
          let is := clo g 3 (addTo [] (idsL args))
          let back := fun i => if i < is.length then is.getD i 0 else nx + (i - is.length)
          let obs := r.2.map (Ob.ren back)
          some ⟨ren back r.1, is, zipTo is obs ++ zipAt nx (obs.drop is.length), nx + (obs.length - is.length)⟩) fun _ => Cont.const)
        dsimp only
        cases cl f _ _ <;> rfl
    · simp only [ho]
      cases frzL g args with
      | none => exact Cont.const
      | some args' =>
        refine Cont.of _ (fun cl => ?_) (Cont.bind (Cont.call (f := f) (args := args') (obs := [])) (G := fun r _ =>
          let is := clo g 3 (addTo [] (idsL args))
          match (if is.isEmpty || (plain r.1 && (r.2.isEmpty || ((E f).lend && r.2.all Ob.plain))) then some [] else roAll g is) with
          | none => none
          | some ro => some ⟨ren (nx + ·) r.1, is, zipAt nx (r.2.map (Ob.ren (nx + ·))) ++ ro, nx + r.2.length⟩) fun _ => Cont.const)
        dsimp only
        cases cl f _ _ <;> rfl
  · simp only [hc, Bool.not_false, if_true]
    exact Cont.const

theorem cont_opv {op : Op} {ρ : Operand → AV} {g : Nat → Option Ob} {nx : Nat} : Cont (fun cl => opv P cl E op ρ g nx) := by
  cases op <;> try exact Cont.const
  rename_i c
  obtain ⟨callee, args, ats⟩ := c
  unfold opv
  dsimp only
  cases callee with
  | builtin b => cases b <;> exact Cont.const
  | value f =>
    dsimp only
    cases ρ f <;> try exact Cont.const
    rename_i fn first cap
    cases fn <;> try exact Cont.const
    exact cont_callV
  | _ => exact Cont.const

theorem cont_stpE {ops : Array Oper} {o : Oper} {s : St} : Cont (fun cl => stpE P cl E ops o s) := by
  unfold stpE
  cases gdA ops o (lk s.tm) with
  | none => exact Cont.const
  | some b => cases b with
    | false => exact Cont.const
    | true =>
      refine Cont.of _ (fun cl => ?_) (Cont.bind (cont_opv (P := P) (E := E) (op := o.op) (ρ := s.ρ) (g := lkp s.hp) (nx := s.nx)) (G := fun e _ => if s.nx ≤ e.nx then some e else none) fun _ => Cont.const)
      dsimp only
      cases opv P cl E o.op s.ρ (lkp s.hp) s.nx <;> rfl

theorem cont_sq {ops : Array Oper} : ∀ {os : List Oper} {s : St}, Cont (fun cl => sq P cl E ops os s)
  | [], s => Cont.const
  | o :: os, s => by
    refine Cont.of _ (fun cl => ?_) (Cont.bind (cont_stpE (P := P) (E := E) (ops := ops) (o := o) (s := s)) (G := fun e cl => sq P cl E ops os (aft s o e)) fun e => cont_sq)
    simp only [sq]
    cases stpE P cl E ops o s <;> rfl

theorem cont_dr {ops : Array Oper} : ∀ {os : List Oper} {s : St}, Cont (fun cl => dr P cl E ops os s)
  | [], s => Cont.const
  | o :: os, s => by
    refine Cont.of _ (fun cl => ?_) (Cont.bind (cont_stpE (P := P) (E := E) (ops := ops) (o := o) (s := s)) (G := fun e cl => (dr P cl E ops os (aft s o e)).bind fun r => some (r.1, ⟨o, s, e⟩ :: r.2)) fun e => Cont.bind cont_dr fun _ => Cont.const)
    simp only [dr]
    cases stpE P cl E ops o s with
    | none => rfl
    | some e => simp only [Option.bind_some]; cases dr P cl E ops os (aft s o e) <;> rfl

theorem cont_drA {ops : Array Oper} {s : St} : Cont (fun cl => drA P cl E ops s) := by
  refine Cont.of _ (fun cl => ?_) (Cont.bind (cont_dr (P := P) (E := E) (ops := ops) (os := ops.toList) (s := s)) (G := fun r _ => if heapOk (mkPre ops.toList []) (r.2.map Rec.ids) && r.2.all newOk then some r.1 else none) fun _ => Cont.const)
  simp only [drA]
  cases dr P cl E ops ops.toList s <;> rfl

theorem cont_loopN {f : Cl → St → Option (Ex × St)} (hf : ∀ s, Cont (fun cl => f cl s)) : ∀ {k : Nat} {s : St}, Cont (fun cl => loopN (f cl) k s)
  | 0, s => Cont.const
  | k + 1, s => by
    refine Cont.of _ (fun cl => ?_) (Cont.bind (hf s) (G := fun r cl => match r with | (.normal, s') => loopN (f cl) k s' | r => some r) fun r => ?_)
    · simp only [loopN]
      cases h : f cl s with
      | none => rfl
      | some r => obtain ⟨e, s'⟩ := r; cases e <;> rfl
    · obtain ⟨e, s'⟩ := r
      cases e with
      | normal => exact cont_loopN hf
      | exit _ => exact Cont.const
      | ret => exact Cont.const

theorem cont_run {k : Nat} : ∀ {c : Code} {s : St}, Cont (fun cl => run P cl E k c s)
  | .skip, s => by simp only [run]; exact Cont.const
  | .label _, s => by simp only [run]; exact Cont.const
  | .exit _, s => by simp only [run]; exact Cont.const
  | .ret, s => by simp only [run]; exact Cont.const
  | .seq a b, s => by
    refine Cont.of _ (fun cl => ?_) (Cont.bind (cont_run (k := k) (c := a) (s := s)) (G := fun r cl => match r with | (.normal, s') => run P cl E k b s' | r => some r) fun r => ?_)
    · simp only [run]
      cases h : run P cl E k a s with
      | none => rfl
      | some r => obtain ⟨e, s'⟩ := r; cases e <;> rfl
    · obtain ⟨e, s'⟩ := r
      cases e with
      | normal => exact cont_run
      | exit _ => exact Cont.const
      | ret => exact Cont.const
  | .cond c a b, s => by
    simp only [run]
    cases s.ρ c <;> try exact Cont.const
    rename_i t
    cases t
    · simp only [Bool.false_eq_true, if_false]; exact cont_run
    · simp only [if_true]; exact cont_run
  | .block id b, s => by
    refine Cont.of _ (fun cl => ?_) (Cont.bind (cont_run (k := k) (c := b) (s := s)) (G := fun r _ => match r with | (.exit i, s') => if i = id then some (.normal, s') else some (.exit i, s') | r => some r) fun r => Cont.const)
    simp only [run]
    cases h : run P cl E k b s with
    | none => rfl
    | some r => obtain ⟨e, s'⟩ := r; cases e <;> rfl
  | .loop c, s => by
    simp only [run]
    exact cont_loopN fun s => cont_run
  | .region _ ops d, s => by
    cases d with
    | true =>
      refine Cont.of _ (fun cl => ?_) (Cont.bind (cont_drA (P := P) (E := E) (ops := ops) (s := s)) (G := fun r _ => some (Ex.normal, r)) fun _ => Cont.const)
      simp only [run, if_true]
      cases drA P cl E ops s <;> rfl
    | false =>
      refine Cont.of _ (fun cl => ?_) (Cont.bind (cont_sq (P := P) (E := E) (ops := ops) (os := ops.toList) (s := s)) (G := fun r _ => some (Ex.normal, r)) fun _ => Cont.const)
      simp only [run, Bool.false_eq_true, if_false]
      cases sq P cl E ops ops.toList s <;> rfl
  | .goto .., s => by simp only [run]; exact Cont.const
  | .refuse .., s => by simp only [run]; exact Cont.const
  | .rangeFunc .., s => by simp only [run]; exact Cont.const
  | .scope .., s => by simp only [run]; exact Cont.const

theorem cont_bodyF {k : Nat} {f : FuncId} {fn : Func} {args : List AV} {obs : List Ob} : Cont (fun cl => bodyF P cl E k f fn args obs) := by
  unfold bodyF
  cases fn.body with
  | none => exact Cont.const
  | some b =>
    dsimp only
    by_cases hl : args.length ≤ fn.ntmps
    · simp only [hl, if_true]
      refine Cont.of _ (fun cl => ?_) (Cont.bind (cont_run (P := P) (E := E) (k := k) (c := b) (s := startS args obs)) (G := fun r _ => match r with
        | (.exit _, _) => none
        | (_, s) => match resV P fn s with
          | none => none
          | some v => doneV (E f) obs.length (lkp s.hp) v) fun r => ?_)
      · cases run P cl E k b (startS args obs) with
        | none => rfl
        | some r => obtain ⟨e, s⟩ := r; cases e <;> rfl
      · exact Cont.const
    · simp only [hl, if_false]; exact Cont.const

theorem mono_loopN {f f' : St → Option (Ex × St)} (h : ∀ s r, f s = some r → f' s = some r) : ∀ {k : Nat} {s : St} {r : Ex × St}, loopN f k s = some r → loopN f' (k + 1) s = some r
  | 0, s, r, hr => by simp [loopN] at hr
  | k + 1, s, r, hr => by
    simp only [loopN] at hr
    rw [loopN]
    cases hs : f s with
    | none => rw [hs] at hr; cases hr
    | some x =>
      rw [hs] at hr
      rw [h s x hs]
      obtain ⟨e, s'⟩ := x
      cases e with
      | normal => exact mono_loopN h hr
      | exit _ => exact hr
      | ret => exact hr

theorem mono_run {cl : Cl} {k : Nat} : ∀ {c : Code} {s : St} {r : Ex × St}, run P cl E k c s = some r → run P cl E (k + 1) c s = some r
  | .skip, s, r, h => by simpa only [run] using h
  | .label _, s, r, h => by simpa only [run] using h
  | .exit _, s, r, h => by simpa only [run] using h
  | .ret, s, r, h => by simpa only [run] using h
  | .seq a b, s, r, h => by
    simp only [run] at h ⊢
    cases hs : run P cl E k a s with
    | none => rw [hs] at h; cases h
    | some x =>
      rw [hs] at h
      rw [mono_run hs]
      obtain ⟨e, s'⟩ := x
      cases e with
      | normal => exact mono_run h
      | exit _ => exact h
      | ret => exact h
  | .cond c a b, s, r, h => by
    simp only [run] at h ⊢
    cases hc : s.ρ c <;> rw [hc] at h <;> try (cases h; done)
    rename_i t
    cases t
    · simp only [Bool.false_eq_true, if_false] at h ⊢; exact mono_run h
    · simp only [if_true] at h ⊢; exact mono_run h
  | .block id b, s, r, h => by
    simp only [run] at h ⊢
    cases hs : run P cl E k b s with
    | none => rw [hs] at h; cases h
    | some x => rw [hs] at h; rw [mono_run hs]; exact h
  | .loop c, s, r, h => by
    simp only [run] at h ⊢
    exact mono_loopN (fun s r h => mono_run h) h
  | .region _ ops d, s, r, h => by simpa only [run] using h
  | .goto .., s, r, h => by simp only [run] at h; cases h
  | .refuse .., s, r, h => by simp only [run] at h; cases h
  | .rangeFunc .., s, r, h => by simp only [run] at h; cases h
  | .scope .., s, r, h => by simp only [run] at h; cases h

noncomputable def runI (P : Program) (cl : Cl) (E : FuncId → Md) (c : Code) (s : St) : Option (Ex × St) := lim fun k => run P cl E k c s

theorem runI_iff {cl : Cl} {c : Code} {s : St} {r : Ex × St} : runI P cl E c s = some r ↔ ∃ k, run P cl E k c s = some r := lim_iff (f := fun k => run P cl E k c s) fun _ _ h => mono_run h

section
variable {cl : Cl}

theorem runI_const {c : Code} {s : St} {o : Option (Ex × St)} (h : ∀ k, run P cl E k c s = o) : runI P cl E c s = o := opt_ext fun r => by
  rw [runI_iff]; simp only [h]; exact ⟨fun ⟨_, h⟩ => h, fun h => ⟨0, h⟩⟩

theorem runI_skip {s : St} : runI P cl E .skip s = some (.normal, s) := runI_const fun _ => by simp only [run]
theorem runI_label {l} {s : St} : runI P cl E (.label l) s = some (.normal, s) := runI_const fun _ => by simp only [run]
theorem runI_exit {id} {s : St} : runI P cl E (.exit id) s = some (.exit id, s) := runI_const fun _ => by simp only [run]
theorem runI_ret {s : St} : runI P cl E .ret s = some (.ret, s) := runI_const fun _ => by simp only [run]
theorem runI_region {p} {ops : Array Oper} {d : Bool} {s : St} : runI P cl E (.region p ops d) s = (if d then drA P cl E ops s else sq P cl E ops ops.toList s).map (Ex.normal, ·) := runI_const fun _ => by simp only [run]

/-- What comes behind. -/
def andThen (r : Option (Ex × St)) (k : St → Option (Ex × St)) : Option (Ex × St) := match r with
  | some (.normal, s) => k s
  | r => r

theorem runI_seq {a b : Code} {s : St} : runI P cl E (.seq a b) s = andThen (runI P cl E a s) (runI P cl E b) := opt_ext fun r => by
  constructor
  · intro h
    obtain ⟨k, h⟩ := runI_iff.1 h
    simp only [run] at h
    cases hs : run P cl E k a s with
    | none => rw [hs] at h; cases h
    | some x =>
      rw [hs] at h
      rw [runI_iff.2 ⟨k, hs⟩]
      obtain ⟨e, s'⟩ := x
      cases e with
      | normal => exact runI_iff.2 ⟨k, h⟩
      | exit _ => exact h
      | ret => exact h
  · intro h
    cases hs : runI P cl E a s with
    | none => rw [hs] at h; cases h
    | some x =>
      rw [hs] at h
      obtain ⟨k, hk⟩ := runI_iff.1 hs
      obtain ⟨e, s'⟩ := x
      cases e with
      | normal =>
        obtain ⟨j, hj⟩ := runI_iff.1 h
        refine runI_iff.2 ⟨max k j, ?_⟩
        have h1 := Mono.le (f := fun k => run P cl E k a s) (fun _ _ h => mono_run h) hk (Nat.le_max_left k j)
        have h2 := Mono.le (f := fun k => run P cl E k b s') (fun _ _ h => mono_run h) hj (Nat.le_max_right k j)
        simp only [run]
        rw [h1]; exact h2
      | exit _ => refine runI_iff.2 ⟨k, ?_⟩; simp only [run]; rw [hk]; exact h
      | ret => refine runI_iff.2 ⟨k, ?_⟩; simp only [run]; rw [hk]; exact h

theorem runI_cond {c : Operand} {a b : Code} {s : St} : runI P cl E (.cond c a b) s = match s.ρ c with
    | .bool t => if t then runI P cl E a s else runI P cl E b s
    | _ => none := by
  cases hc : s.ρ c <;> try (refine runI_const fun k => ?_; simp only [run, hc]; done)
  rename_i t
  cases t <;> (refine opt_ext fun r => ?_; simp [runI_iff, run, hc])

theorem runI_block {id : Nat} {b : Code} {s : St} : runI P cl E (.block id b) s = match runI P cl E b s with
    | some (.exit i, s') => if i = id then some (.normal, s') else some (.exit i, s')
    | r => r := opt_ext fun r => by
  constructor
  · intro h
    obtain ⟨k, h⟩ := runI_iff.1 h
    simp only [run] at h
    cases hs : run P cl E k b s with
    | none => rw [hs] at h; cases h
    | some x => rw [hs] at h; rw [runI_iff.2 ⟨k, hs⟩]; exact h
  · intro h
    cases hs : runI P cl E b s with
    | none => rw [hs] at h; cases h
    | some x =>
      rw [hs] at h
      obtain ⟨k, hk⟩ := runI_iff.1 hs
      refine runI_iff.2 ⟨k, ?_⟩
      simp only [run]; rw [hk]; exact h

theorem runI_loop {c : Code} {s : St} : runI P cl E (.loop c) s = andThen (runI P cl E c s) (runI P cl E (.loop c)) := opt_ext fun r => by
  constructor
  · intro h
    obtain ⟨k, h⟩ := runI_iff.1 h
    simp only [run] at h
    cases k with
    | zero => simp [loopN] at h
    | succ k =>
      simp only [loopN] at h
      cases hs : run P cl E (k + 1) c s with
      | none => rw [hs] at h; cases h
      | some x =>
        rw [hs] at h
        rw [runI_iff.2 ⟨_, hs⟩]
        obtain ⟨e, s'⟩ := x
        cases e with
        | normal =>
          refine runI_iff.2 ⟨k + 1, ?_⟩
          simp only [run]
          exact mono_loopN (f := run P cl E (k + 1) c) (fun _ _ h => h) h
        | exit _ => exact h
        | ret => exact h
  · intro h
    cases hs : runI P cl E c s with
    | none => rw [hs] at h; cases h
    | some x =>
      rw [hs] at h
      obtain ⟨k, hk⟩ := runI_iff.1 hs
      obtain ⟨e, s'⟩ := x
      cases e with
      | normal =>
        obtain ⟨j, hj⟩ := runI_iff.1 h
        refine runI_iff.2 ⟨max k j + 1, ?_⟩
        have h1 := Mono.le (f := fun k => run P cl E k c s) (fun _ _ h => mono_run h) hk (show k ≤ max k j + 1 by omega)
        have h2 := Mono.le (f := fun k => run P cl E k (.loop c) s') (fun _ _ h => mono_run h) hj (show j ≤ max k j by omega)
        simp only [run, loopN]
        rw [h1]
        simp only [run] at h2
        have h3 := mono_loopN (f := run P cl E (max k j) c) (f' := run P cl E (max k j + 1) c) (fun _ _ h => mono_run h) h2
        -- one turn more than is needed
        have key : ∀ {f : St → Option (Ex × St)} (n : Nat) {s : St} {r : Ex × St}, loopN f n s = some r → loopN f (n + 1) s = some r := fun n _ _ h => mono_loopN (fun _ _ h => h) h
        have h4 : loopN (run P cl E (max k j + 1) c) (max k j) s' = some r := by
          have aux : ∀ {f f' : St → Option (Ex × St)} (h : ∀ s r, f s = some r → f' s = some r) (k : Nat) {s : St} {r : Ex × St}, loopN f k s = some r → loopN f' k s = some r := by
            intro f f' hff k
            induction k with
            | zero => intro s r h; simp [loopN] at h
            | succ k ih =>
              intro s r h
              simp only [loopN] at h ⊢
              cases hs : f s with
              | none => rw [hs] at h; cases h
              | some x =>
                rw [hs] at h; rw [hff s x hs]
                obtain ⟨e, s'⟩ := x
                cases e with
                | normal => exact ih h
                | exit _ => exact h
                | ret => exact h
          exact aux (fun _ _ h => mono_run h) _ h2
        exact h4
      | exit _ =>
        refine runI_iff.2 ⟨k + 1, ?_⟩
        simp only [run, loopN]; rw [mono_run hk]; exact h
      | ret =>
        refine runI_iff.2 ⟨k + 1, ?_⟩
        simp only [run, loopN]; rw [mono_run hk]; exact h
end

noncomputable def bodyI (P : Program) (cl : Cl) (E : FuncId → Md) (f : FuncId) (fn : Func) (args : List AV) (obs : List Ob) : Option (AV × List Ob) :=
  match fn.body with
  | none => none
  | some b =>
    if args.length ≤ fn.ntmps then
      match runI P cl E b (startS args obs) with
      | some (.exit _, _) | none => none
      | some (_, s) => match resV P fn s with
        | none => none
        | some v => doneV (E f) obs.length (lkp s.hp) v
    else none

theorem bodyI_iff {cl : Cl} {f : FuncId} {fn : Func} {args : List AV} {obs : List Ob} {r : AV × List Ob} : bodyI P cl E f fn args obs = some r ↔ ∃ k, bodyF P cl E k f fn args obs = some r := by
  unfold bodyI bodyF
  cases fn.body with
  | none => simp
  | some b =>
    dsimp only
    by_cases hl : args.length ≤ fn.ntmps
    · simp only [hl, if_true]
      constructor
      · intro h
        cases hs : runI P cl E b (startS args obs) with
        | none => rw [hs] at h; cases h
        | some x =>
          obtain ⟨k, hk⟩ := runI_iff.1 hs
          rw [hs] at h
          exact ⟨k, by rw [hk]; exact h⟩
      · rintro ⟨k, h⟩
        cases hs : run P cl E k b (startS args obs) with
        | none => rw [hs] at h; cases h
        | some x =>
          rw [hs] at h
          rw [runI_iff.2 ⟨k, hs⟩]; exact h
    · simp [hl]

theorem mono_bodyF {cl : Cl} {k : Nat} {f : FuncId} {fn : Func} {args : List AV} {obs : List Ob} {r : AV × List Ob} (h : bodyF P cl E k f fn args obs = some r) : bodyF P cl E (k + 1) f fn args obs = some r := by
  unfold bodyF at h ⊢
  cases hb : fn.body with
  | none => rw [hb] at h; cases h
  | some b =>
    rw [hb] at h
    dsimp only at h ⊢
    by_cases hl : args.length ≤ fn.ntmps
    · simp only [hl, if_true] at h ⊢
      cases hs : run P cl E k b (startS args obs) with
      | none => rw [hs] at h; cases h
      | some x => rw [hs] at h; rw [mono_run hs]; exact h
    · simp [hl] at h

theorem mono_callK {X : Xt} : ∀ {k : Nat} {f : FuncId} {args : List AV} {obs : List Ob} {r : AV × List Ob}, callK P E X k f args obs = some r → callK P E X (k + 1) f args obs = some r
  | 0, f, args, obs, r, h => by simp [callK] at h
  | k + 1, f, args, obs, r, h => by
    simp only [callK.eq_2] at h ⊢
    cases hx : X f with
    | some x => rw [hx] at h; exact h
    | none =>
      rw [hx] at h
      cases hf : P.funcs[f]? with
      | none => rw [hf] at h; cases h
      | some fn =>
        rw [hf] at h
        dsimp only at h ⊢
        by_cases hc : chkF fn = true
        · simp only [hc, if_true] at h ⊢
          exact mono_bodyF (cont_bodyF.mono (fun f args obs r h => mono_callK h) h)
        · simp [hc] at h

noncomputable def callI (P : Program) (E : FuncId → Md) (X : Xt) : Cl := fun f args obs => lim fun k => callK P E X k f args obs

theorem callI_iff {X : Xt} {f : FuncId} {args : List AV} {obs : List Ob} {r : AV × List Ob} : callI P E X f args obs = some r ↔ ∃ k, callK P E X k f args obs = some r := lim_iff (f := fun k => callK P E X k f args obs) fun _ _ h => mono_callK h

theorem callI_x {X : Xt} {f : FuncId} {args : List AV} {obs : List Ob} {x} (hx : X f = some x) : callI P E X f args obs = x args obs := opt_ext fun r => by
  rw [callI_iff]
  constructor
  · rintro ⟨k, h⟩
    cases k with
    | zero => simp [callK] at h
    | succ k => simpa [callK, hx] using h
  · intro h; exact ⟨1, by simpa [callK, hx] using h⟩

theorem callI_body {X : Xt} {f : FuncId} {fn : Func} {args : List AV} {obs : List Ob} (hx : X f = none) (hf : P.funcs[f]? = some fn) (hc : chkF fn = true) : callI P E X f args obs = bodyI P (callI P E X) E f fn args obs := opt_ext fun r => by
  rw [callI_iff, bodyI_iff]
  constructor
  · rintro ⟨k, h⟩
    cases k with
    | zero => simp [callK] at h
    | succ k =>
      simp only [callK, hx, hf, hc, if_true] at h
      exact ⟨k, cont_bodyF.mono (fun f args obs r h => callI_iff.2 ⟨k, h⟩) h⟩
  · rintro ⟨k, h⟩
    obtain ⟨qs, h1, h2⟩ := cont_bodyF (P := P) (E := E) (k := k) (f := f) (fn := fn) (args := args) (obs := obs) _ _ h
    have hK : ∃ K, k ≤ K ∧ ∀ q ∈ qs, Ans (callK P E X K) q := by
      clear h h2
      induction qs with
      | nil => exact ⟨k, Nat.le_refl _, by simp⟩
      | cons q qs ih =>
        obtain ⟨K, hk, hK⟩ := ih fun q hq => h1 q (List.mem_cons_of_mem _ hq)
        obtain ⟨j, hj⟩ := callI_iff.1 (h1 q List.mem_cons_self)
        refine ⟨max K j, by omega, fun q' hq' => ?_⟩
        rcases List.mem_cons.1 hq' with rfl | hq'
        · exact Mono.le (f := fun k => callK P E X k q'.1 q'.2.1 q'.2.2.1) (fun _ _ h => mono_callK h) hj (Nat.le_max_right _ _)
        · exact Mono.le (f := fun k => callK P E X k q'.1 q'.2.1 q'.2.2.1) (fun _ _ h => mono_callK h) (hK q' hq') (Nat.le_max_left _ _)
    obtain ⟨K, hk, hK⟩ := hK
    have h3 := h2 _ hK
    refine ⟨K + 1, ?_⟩
    simp only [callK, hx, hf, hc, if_true]
    exact Mono.le (f := fun k => bodyF P (callK P E X K) E k f fn args obs) (fun _ _ h => mono_bodyF h) h3 hk

theorem callI_sound {X : Xt} (hX : XtS P X) (hm : P.follows .mixedOrders = true) : ClS' P (callI P E X) := fun f args obs v obs' h => by
  obtain ⟨k, h⟩ := callI_iff.1 h
  exact callK_sound hX hm k f args obs v obs' h
end
end Go.Proofs.YtapchldnmkfkoabDoor.Am
namespace Go.Proofs.YtapchldnmkfkoabDoor.Am
open Go

/-! ## Rules by which a run is computed -/
section
variable {P : Program} {cl : Cl} {E : FuncId → Md} {ops : Array Oper} {α : Type}

/-- A choice by a bool. -/
def sel {β : Sort _} (c : Bool) (a b : β) : β := match c with
  | true => a
  | false => b
@[congr] theorem sel_congr {β : Sort _} {c c' : Bool} {a a' b b' : β} (h : c = c') (ha : c' = true → a = a') (hb : c' = false → b = b') : sel c a b = sel c' a' b' := by
  subst h; cases c
  · exact hb rfl
  · exact ha rfl
/-- A choice whose bool has not been looked at yet. -/
def selQ {β : Sort _} (c : Bool) (a b : β) : β := sel c a b
@[congr] theorem selQ_congr {β : Sort _} {c c' : Bool} {a b : β} (h : c = c') : selQ c a b = selQ c' a b := by rw [h]
@[simp] theorem selQ_true {β : Sort _} {a b : β} : selQ true a b = a := rfl
@[simp] theorem selQ_false {β : Sort _} {a b : β} : selQ false a b = b := rfl
@[simp] theorem selQ_not {β : Sort _} {c : Bool} {a b : β} : selQ (!c) a b = selQ c b a := by cases c <;> rfl
@[simp low] theorem selQ_sel {β : Sort _} {c : Bool} {a b : β} : selQ c a b = sel c a b := rfl
@[simp] theorem sel_true {β : Sort _} {a b : β} : sel true a b = a := rfl
@[simp] theorem sel_false {β : Sort _} {a b : β} : sel false a b = b := rfl
@[simp] theorem sel_not {β : Sort _} {c : Bool} {a b : β} : sel (!c) a b = sel c b a := by cases c <;> rfl
@[simp] theorem sel_same {β : Sort _} {c : Bool} {a : β} : sel c a a = a := by cases c <;> rfl
@[simp] theorem sel_tb {c b : Bool} : sel c true b = (c || b) := by cases c <;> rfl
@[simp] theorem sel_bf {c b : Bool} : sel c b false = (c && b) := by cases c <;> rfl
@[simp] theorem sel_fb {c b : Bool} : sel c false b = (!c && b) := by cases c <;> rfl
@[simp] theorem sel_bt {c b : Bool} : sel c b true = (!c || b) := by cases c <;> cases b <;> rfl
@[simp] theorem sel_AVb {c a b : Bool} : sel c (AV.bool a) (AV.bool b) = .bool (sel c a b) := by cases c <;> rfl
@[simp] theorem sel_AVi {c : Bool} {k : IntKind} {a b : Int} : sel c (AV.int k a) (AV.int k b) = .int k (sel c a b) := by cases c <;> rfl
@[simp] theorem sel_AVs {c : Bool} {a b : ByteArray} : sel c (AV.str a) (AV.str b) = .str (sel c a b) := by cases c <;> rfl
theorem sel_eq {β : Type} {c : Bool} {a b : β} : sel c a b = if c = true then a else b := by cases c <;> rfl

def xnor (a b : Bool) : Bool := match b with
  | true => a
  | false => !a
@[simp] theorem xnor_t {a} : xnor a true = a := rfl
@[simp] theorem xnor_f {a} : xnor a false = !a := rfl
def inBlk (id : Nat) (r : Option (Ex × St)) : Option (Ex × St) := match r with
    | some (.exit i, s') => if i = id then some (.normal, s') else some (.exit i, s')
    | r => r

/-- What stands behind. -/
inductive Fm where
  | seq (b : Code)
  | blk (id : Nat)
  | lp (c : Code)

noncomputable def unw (P : Program) (cl : Cl) (E : FuncId → Md) : List Fm → Option (Ex × St) → Option (Ex × St)
  | [], r => r
  | .seq b :: K, r => unw P cl E K (andThen r (runI P cl E b))
  | .blk id :: K, r => unw P cl E K (inBlk id r)
  | .lp c :: K, r => unw P cl E K (andThen r (runI P cl E (.loop c)))

theorem unw_none : ∀ {K : List Fm}, unw P cl E K none = none
  | [] => rfl
  | .seq _ :: K => unw_none (K := K)
  | .blk _ :: K => unw_none (K := K)
  | .lp _ :: K => unw_none (K := K)

noncomputable def go (P : Program) (cl : Cl) (E : FuncId → Md) (D : Option (Ex × St) → α) (c : Code) (s : St) (K : List Fm) : α := D (unw P cl E K (runI P cl E c s))
/-- On to what stands behind. -/
noncomputable def nxt (P : Program) (cl : Cl) (E : FuncId → Md) (D : Option (Ex × St) → α) (s : St) (K : List Fm) : α := D (unw P cl E K (some (.normal, s)))
noncomputable def exi (P : Program) (cl : Cl) (E : FuncId → Md) (D : Option (Ex × St) → α) (i : Nat) (s : St) (K : List Fm) : α := D (unw P cl E K (some (.exit i, s)))

variable {D : Option (Ex × St) → α} {K : List Fm} {s : St}
@[simp] theorem nxt_nil : nxt P cl E D s [] = D (some (.normal, s)) := rfl
@[simp] theorem nxt_seq {b} : nxt P cl E D s (.seq b :: K) = go P cl E D b s K := rfl
@[simp] theorem nxt_blk {i} : nxt P cl E D s (.blk i :: K) = nxt P cl E D s K := rfl
@[simp] theorem nxt_lp {c} : nxt P cl E D s (.lp c :: K) = go P cl E D (.loop c) s K := rfl
@[simp] theorem exi_seq {i b} : exi P cl E D i s (.seq b :: K) = exi P cl E D i s K := rfl
@[simp] theorem exi_lp {i b} : exi P cl E D i s (.lp b :: K) = exi P cl E D i s K := rfl
@[simp] theorem exi_blk {i j} : exi P cl E D i s (.blk j :: K) = if i = j then nxt P cl E D s K else exi P cl E D i s K := by
  unfold exi nxt; rw [unw.eq_3, inBlk]; split <;> rfl
@[simp] theorem go_skip : go P cl E D .skip s K = nxt P cl E D s K := by unfold go nxt; rw [runI_skip]
@[simp] theorem go_label {l} : go P cl E D (.label l) s K = nxt P cl E D s K := by unfold go nxt; rw [runI_label]
@[simp] theorem go_exit {i} : go P cl E D (.exit i) s K = exi P cl E D i s K := by unfold go exi; rw [runI_exit]
theorem unw_ret : ∀ {K : List Fm}, unw P cl E K (some (.ret, s)) = some (.ret, s)
  | [] => rfl
  | .seq _ :: K => unw_ret (K := K)
  | .blk _ :: K => unw_ret (K := K)
  | .lp _ :: K => unw_ret (K := K)
@[simp] theorem go_ret : go P cl E D .ret s K = D (some (.ret, s)) := by unfold go; rw [runI_ret, unw_ret]
@[simp] theorem go_seq {a b} : go P cl E D (.seq a b) s K = go P cl E D a s (.seq b :: K) := by unfold go; rw [runI_seq]; rfl
@[simp] theorem go_block {i b} : go P cl E D (.block i b) s K = go P cl E D b s (.blk i :: K) := by unfold go; rw [runI_block]; rfl
theorem go_loop {c} : go P cl E D (.loop c) s K = go P cl E D c s (.lp c :: K) := by
  unfold go; rw [runI_loop]; rfl
/-- A branch. -/
noncomputable def br (P : Program) (cl : Cl) (E : FuncId → Md) (D : Option (Ex × St) → α) (v : AV) (a b : Code) (s : St) (K : List Fm) : α := match v with
  | .bool t => if t = true then go P cl E D a s K else go P cl E D b s K
  | _ => D none
@[simp] theorem br_bool {t a b} : br P cl E D (.bool t) a b s K = selQ t (go P cl E D a s K) (go P cl E D b s K) := by cases t <;> rfl
@[simp] theorem br_ite {c : Prop} [Decidable c] {u v a b} : br P cl E D (if c then u else v) a b s K = if c then br P cl E D u a b s K else br P cl E D v a b s K := by split <;> rfl
@[simp] theorem br_sel {c : Bool} {u v a b} : br P cl E D (sel c u v) a b s K = selQ c (br P cl E D u a b s K) (br P cl E D v a b s K) := by cases c <;> rfl
@[simp] theorem go_cond {c a b} : go P cl E D (.cond c a b) s K = br P cl E D (s.ρ c) a b s K := by
  unfold go br; rw [runI_cond]
  cases s.ρ c <;> try (simp only [unw_none]; done)
  rename_i t
  cases t <;> rfl

def ck (nx : Nat) (o : Option Eff) : Option Eff := match o with
  | none => none
  | some e => if nx ≤ e.nx then some e else none

/-- The rest of a region. -/
noncomputable def gsq (P : Program) (cl : Cl) (E : FuncId → Md) (D : Option (Ex × St) → α) (ops : List Oper) (os : List Oper) (s : St) (K : List Fm) : α := D (unw P cl E K ((sq P cl E ops.toArray os s).map (Ex.normal, ·)))
noncomputable def sqE (P : Program) (cl : Cl) (E : FuncId → Md) (D : Option (Ex × St) → α) (ops : List Oper) (r : Option Eff) (dst : Option Tmp) (os : List Oper) (s : St) (K : List Fm) : α := match r with
  | some e => gsq P cl E D ops os ⟨putT s.tm dst e.v, e.wr ++ s.hp, e.nx⟩ K
  | none => D none
@[simp] theorem go_regF {p} {l : List Oper} : go P cl E D (.region p l.toArray false) s K = gsq P cl E D l l s K := by unfold go gsq; rw [runI_region]; simp
@[simp] theorem gsq_nil {l : List Oper} : gsq P cl E D l [] s K = nxt P cl E D s K := rfl
theorem gsq_cons {l : List Oper} {o : Oper} {os : List Oper} : gsq P cl E D l (o :: os) s K = sqE P cl E D l (stpE P cl E l.toArray o s) o.dst os s K := by
  unfold gsq sqE
  simp only [sq]
  cases stpE P cl E l.toArray o s with
  | none => simp [unw_none]
  | some e => rfl
@[simp] theorem sqE_d {l e d os} : sqE P cl E D l (some e) (some d) os s K = gsq P cl E D l os ⟨(d, e.v) :: s.tm, e.wr ++ s.hp, e.nx⟩ K := rfl
@[simp] theorem sqE_n {l e os} : sqE P cl E D l (some e) none os s K = gsq P cl E D l os ⟨s.tm, e.wr ++ s.hp, e.nx⟩ K := rfl
@[simp] theorem sqE_none {l d os} : sqE P cl E D l none d os s K = D none := rfl
@[simp] theorem sqE_ite {l d os} {c : Prop} [Decidable c] {a b} : sqE P cl E D l (if c then a else b) d os s K = if c then sqE P cl E D l a d os s K else sqE P cl E D l b d os s K := by split <;> rfl

@[simp] theorem gsq_n {l : List Oper} {os dst op ty pos aft} : gsq P cl E D l (⟨dst, op, ty, pos, aft, none⟩ :: os) s K = sqE P cl E D l (ck s.nx (opv P cl E op s.ρ (lkp s.hp) s.nx)) dst os s K := by rw [gsq_cons]; rfl

def gslot (ops : List Oper) (j : Nat) : Option Tmp := (ops[j]?).bind (·.dst)

/-- A guarded operation: is it done? -/
noncomputable def sqG (P : Program) (cl : Cl) (E : FuncId → Md) (D : Option (Ex × St) → α) (l : List Oper) (g : AV) (want : Bool) (op : Op) (dst : Option Tmp) (os : List Oper) (s : St) (K : List Fm) : α := match g with
  | .bool b => if b = want then sqE P cl E D l (ck s.nx (opv P cl E op s.ρ (lkp s.hp) s.nx)) dst os s K else gsq P cl E D l os ⟨putT s.tm dst (.tup []), s.hp, s.nx⟩ K
  | .tup [] => gsq P cl E D l os ⟨putT s.tm dst (.tup []), s.hp, s.nx⟩ K
  | _ => D none
@[simp] theorem sqG_t {l want op dst os} : sqG P cl E D l (.tup []) want op dst os s K = gsq P cl E D l os ⟨putT s.tm dst (.tup []), s.hp, s.nx⟩ K := rfl
@[simp] theorem sqG_b {l b want op dst os} : sqG P cl E D l (.bool b) want op dst os s K = selQ (xnor b want) (sqE P cl E D l (ck s.nx (opv P cl E op s.ρ (lkp s.hp) s.nx)) dst os s K) (gsq P cl E D l os ⟨putT s.tm dst (.tup []), s.hp, s.nx⟩ K) := by cases b <;> cases want <;> rfl
noncomputable def sqS (P : Program) (cl : Cl) (E : FuncId → Md) (D : Option (Ex × St) → α) (l : List Oper) (d : Option Tmp) (want : Bool) (op : Op) (dst : Option Tmp) (os : List Oper) (s : St) (K : List Fm) : α := match d with
  | some d => sqG P cl E D l (lk s.tm d) want op dst os s K
  | none => D none
@[simp] theorem sqS_some {l d want op dst os} : sqS P cl E D l (some d) want op dst os s K = sqG P cl E D l (lk s.tm d) want op dst os s K := rfl
@[simp] theorem gsq_g {l : List Oper} {os dst op ty pos aft j want} : gsq P cl E D l (⟨dst, op, ty, pos, aft, some (j, want)⟩ :: os) s K = sqS P cl E D l (gslot l j) want op dst os s K := by
  rw [gsq_cons]
  unfold stpE gdA sqS gslot sqG
  simp only [List.getElem?_toArray]
  cases (l[j]?).bind (·.dst) with
  | none => rfl
  | some d =>
    dsimp only
    cases lk s.tm d with
    | bool b => cases b <;> cases want <;> rfl
    | tup vs => cases vs <;> rfl
    | _ => rfl
@[simp] theorem putT_some {tm d v} : putT tm (some d) v = (d, v) :: tm := rfl
@[simp] theorem putT_none {tm v} : putT tm none v = tm := rfl
@[simp] theorem gslot_zero {o os} : gslot (o :: os) 0 = o.dst := rfl
@[simp] theorem gslot_succ {o os j} : gslot (o :: os) (j + 1) = gslot os j := by simp [gslot]

@[simp] theorem ck_pure {nx : Nat} {v : AV} : ck nx (Eff.pure v nx) = some ⟨v, [], [], nx⟩ := by simp [ck, Eff.pure]
@[simp] theorem ck_some {nx : Nat} {v rd wr} : ck nx (some ⟨v, rd, wr, nx⟩) = some ⟨v, rd, wr, nx⟩ := by simp [ck]
@[simp] theorem ck_new {nx : Nat} {v rd wr} : ck nx (some ⟨v, rd, wr, nx + 1⟩) = some ⟨v, rd, wr, nx + 1⟩ := by simp [ck]
@[simp] theorem ck_le {nx nx' : Nat} {v rd wr} (h : nx ≤ nx') : ck nx (some ⟨v, rd, wr, nx'⟩) = some ⟨v, rd, wr, nx'⟩ := by simp [ck, h]
@[simp] theorem ck_none {nx : Nat} : ck nx none = none := rfl
@[simp] theorem ck_ite {c : Prop} [Decidable c] {a b nx} : ck nx (if c then a else b) = if c then ck nx a else ck nx b := by split <;> rfl
@[simp] theorem map_ite {α β : Type} {c : Prop} [Decidable c] {a b : Option α} {k : α → β} : Option.map k (if c then a else b) = if c then Option.map k a else Option.map k b := by split <;> rfl

/-! A region whose order is drawn: what it does in the order written, and that no two parts meet. -/
def fold (pr : List (List Nat)) (recs : List (List Nat × List Nat)) (news : Bool) : Bool := heapOk pr recs && news
noncomputable def gdr (P : Program) (cl : Cl) (E : FuncId → Md) (D : Option (Ex × St) → α) (ops : List Oper) (os : List Oper) (rs : List (List Nat × List Nat)) (nw : Bool) (s : St) (K : List Fm) : α :=
  match dr P cl E ops.toArray os s with
  | none => D none
  | some (s', rs') => if (heapOk (mkPre ops []) (rs.reverse ++ rs'.map Rec.ids) && (nw && rs'.all newOk)) = true then nxt P cl E D s' K else D none
noncomputable def drE (P : Program) (cl : Cl) (E : FuncId → Md) (D : Option (Ex × St) → α) (ops : List Oper) (r : Option Eff) (dst : Option Tmp) (os : List Oper) (rs : List (List Nat × List Nat)) (nw : Bool) (s : St) (K : List Fm) : α := match r with
  | some e => gdr P cl E D ops os ((e.rd, e.wr.map (·.1)) :: rs) (nw && (List.range (e.nx - s.nx)).all fun j => (e.wr.map (·.1)).contains (s.nx + j)) ⟨putT s.tm dst e.v, e.wr ++ s.hp, e.nx⟩ K
  | none => D none
@[simp] theorem go_regT {p} {l : List Oper} : go P cl E D (.region p l.toArray true) s K = gdr P cl E D l l [] true s K := by
  unfold go gdr nxt
  rw [runI_region]
  simp only [if_true, drA]
  cases dr P cl E l.toArray l s with
  | none => simp [unw_none]
  | some r =>
    obtain ⟨s', rs⟩ := r
    simp only [List.reverse_nil, List.nil_append, Bool.true_and]
    split <;> simp [unw_none]
def quiet : List (List Nat × List Nat) → Bool
  | [] => true
  | (_, []) :: rs => quiet rs
  | _ => false
@[simp] theorem quiet_nil : quiet [] = true := rfl
@[simp] theorem quiet_cons {a rs} : quiet ((a, []) :: rs) = quiet rs := rfl
@[simp] theorem quiet_wr {a x xs rs} : quiet ((a, x :: xs) :: rs) = false := rfl
theorem quiet_all : ∀ {rs : List (List Nat × List Nat)}, quiet rs = true → ∀ r ∈ rs, r.2 = []
  | [], _, r, hr => by simp at hr
  | (_, []) :: rs, h, r, hr => by
    rcases List.mem_cons.1 hr with rfl | hr
    · rfl
    · exact quiet_all (rs := rs) h r hr
  | (_, _ :: _) :: rs, h, r, hr => by simp at h
theorem quiet_ok {pr : List (List Nat)} {rs : List (List Nat × List Nat)} (h : quiet rs = true) : heapOk pr rs.reverse = true := by
  unfold heapOk
  simp only [List.all_eq_true, Bool.or_eq_true]
  intro i _ k _
  refine .inr ?_
  cases h1 : rs.reverse[k]? with
  | none => rfl
  | some x =>
    cases h2 : rs.reverse[i]? with
    | none => rfl
    | some y =>
      have e1 := quiet_all h x (List.mem_reverse.1 (List.mem_of_getElem? h1))
      have e2 := quiet_all h y (List.mem_reverse.1 (List.mem_of_getElem? h2))
      simp [apartH, disj, e1, e2]
/-- Behind a check that is left to be made. -/
def hokQ {β : Type} (l : List Oper) (rs : List (List Nat × List Nat)) (nw : Bool) (a b : β) : β := if (heapOk (mkPre l []) rs.reverse && nw) = true then a else b
@[congr] theorem hokQ_congr {β : Type} {l : List Oper} {rs : List (List Nat × List Nat)} {nw nw' : Bool} {a b : β} (h : nw = nw') : hokQ l rs nw a b = hokQ l rs nw' a b := by rw [h]
theorem hokQ_of {β : Type} {l : List Oper} {rs : List (List Nat × List Nat)} {nw : Bool} {a b : β} (h : (heapOk (mkPre l []) rs.reverse && nw) = true) : hokQ l rs nw a b = a := by unfold hokQ; rw [if_pos h]
@[simp] theorem gdr_nil {l : List Oper} {rs nw} : gdr P cl E D l [] rs nw s K = selQ (quiet rs && nw) (nxt P cl E D s K) (hokQ l rs nw (nxt P cl E D s K) (D none)) := by
  simp only [gdr, dr, hokQ, List.map_nil, List.append_nil, List.all_nil, Bool.and_true]
  cases hq : quiet rs with
  | false => rfl
  | true =>
    rw [quiet_ok hq]
    cases nw <;> simp
theorem gdr_cons {l : List Oper} {o : Oper} {os : List Oper} {rs nw} : gdr P cl E D l (o :: os) rs nw s K = drE P cl E D l (stpE P cl E l.toArray o s) o.dst os rs nw s K := by
  unfold gdr drE
  simp only [dr]
  cases stpE P cl E l.toArray o s with
  | none => rfl
  | some e =>
    dsimp only [aft]
    unfold gdr
    cases dr P cl E l.toArray os ⟨putT s.tm o.dst e.v, e.wr ++ s.hp, e.nx⟩ with
    | none => rfl
    | some r =>
      obtain ⟨s', rs'⟩ := r
      simp only [List.reverse_cons, List.append_assoc, List.singleton_append, List.map_cons, List.all_cons, Rec.ids, newOk, Bool.and_assoc]
def newB (nx nx' : Nat) (wr : List Nat) : Bool := (List.range (nx' - nx)).all fun j => wr.contains (nx + j)
@[simp] theorem newB_same {nx wr} : newB nx nx wr = true := by simp [newB]
@[simp] theorem newB_one {nx wr} : newB nx (nx + 1) (nx :: wr) = true := by simp [newB]
@[simp] theorem drE_d {l e d os rs nw} : drE P cl E D l (some e) (some d) os rs nw s K = gdr P cl E D l os ((e.rd, e.wr.map (·.1)) :: rs) (nw && newB s.nx e.nx (e.wr.map (·.1))) ⟨(d, e.v) :: s.tm, e.wr ++ s.hp, e.nx⟩ K := rfl
@[simp] theorem drE_n {l e os rs nw} : drE P cl E D l (some e) none os rs nw s K = gdr P cl E D l os ((e.rd, e.wr.map (·.1)) :: rs) (nw && newB s.nx e.nx (e.wr.map (·.1))) ⟨s.tm, e.wr ++ s.hp, e.nx⟩ K := rfl
@[simp] theorem drE_none {l d os rs nw} : drE P cl E D l none d os rs nw s K = D none := rfl
@[simp] theorem drE_ite {l d os rs nw} {c : Prop} [Decidable c] {a b} : drE P cl E D l (if c then a else b) d os rs nw s K = if c then drE P cl E D l a d os rs nw s K else drE P cl E D l b d os rs nw s K := by split <;> rfl
@[simp] theorem gdr_n {l : List Oper} {os dst op ty pos aft rs nw} : gdr P cl E D l (⟨dst, op, ty, pos, aft, none⟩ :: os) rs nw s K = drE P cl E D l (ck s.nx (opv P cl E op s.ρ (lkp s.hp) s.nx)) dst os rs nw s K := by rw [gdr_cons]; rfl
noncomputable def drG (P : Program) (cl : Cl) (E : FuncId → Md) (D : Option (Ex × St) → α) (l : List Oper) (g : AV) (want : Bool) (op : Op) (dst : Option Tmp) (os : List Oper) (rs : List (List Nat × List Nat)) (nw : Bool) (s : St) (K : List Fm) : α := match g with
  | .bool b => if b = want then drE P cl E D l (ck s.nx (opv P cl E op s.ρ (lkp s.hp) s.nx)) dst os rs nw s K else gdr P cl E D l os (([], []) :: rs) nw ⟨putT s.tm dst (.tup []), s.hp, s.nx⟩ K
  | .tup [] => gdr P cl E D l os (([], []) :: rs) nw ⟨putT s.tm dst (.tup []), s.hp, s.nx⟩ K
  | _ => D none
@[simp] theorem drG_t {l want op dst os rs nw} : drG P cl E D l (.tup []) want op dst os rs nw s K = gdr P cl E D l os (([], []) :: rs) nw ⟨putT s.tm dst (.tup []), s.hp, s.nx⟩ K := rfl
@[simp] theorem drG_b {l b want op dst os rs nw} : drG P cl E D l (.bool b) want op dst os rs nw s K = selQ (xnor b want) (drE P cl E D l (ck s.nx (opv P cl E op s.ρ (lkp s.hp) s.nx)) dst os rs nw s K) (gdr P cl E D l os (([], []) :: rs) nw ⟨putT s.tm dst (.tup []), s.hp, s.nx⟩ K) := by cases b <;> cases want <;> rfl
noncomputable def drS (P : Program) (cl : Cl) (E : FuncId → Md) (D : Option (Ex × St) → α) (l : List Oper) (d : Option Tmp) (want : Bool) (op : Op) (dst : Option Tmp) (os : List Oper) (rs : List (List Nat × List Nat)) (nw : Bool) (s : St) (K : List Fm) : α := match d with
  | some d => drG P cl E D l (lk s.tm d) want op dst os rs nw s K
  | none => D none
@[simp] theorem drS_some {l d want op dst os rs nw} : drS P cl E D l (some d) want op dst os rs nw s K = drG P cl E D l (lk s.tm d) want op dst os rs nw s K := rfl
@[simp] theorem gdr_g {l : List Oper} {os dst op ty pos aft j want rs nw} : gdr P cl E D l (⟨dst, op, ty, pos, aft, some (j, want)⟩ :: os) rs nw s K = drS P cl E D l (gslot l j) want op dst os rs nw s K := by
  rw [gdr_cons]
  unfold stpE gdA drS gslot drG
  simp only [List.getElem?_toArray]
  have key : drE P cl E D l (some ⟨.tup [], [], [], s.nx⟩) dst os rs nw s K = gdr P cl E D l os (([], []) :: rs) nw ⟨putT s.tm dst (.tup []), s.hp, s.nx⟩ K := by
    simp [drE]
  cases (l[j]?).bind (·.dst) with
  | none => rfl
  | some d =>
    dsimp only
    cases lk s.tm d with
    | bool b => cases b <;> cases want <;> first | rfl | exact key
    | tup vs => cases vs <;> first | rfl | exact key
    | _ => rfl

/-! Functions -/
def don (md : Md) (n : Nat) (g : Nat → Option Ob) (o : Option AV) : Option (AV × List Ob) := match o with
        | none => none
        | some v => doneV md n g v
@[simp] theorem don_some {md n g v} : don md n g (some v) = doneV md n g v := rfl
def fin (P : Program) (E : FuncId → Md) (f : FuncId) (fn : Func) (n : Nat) (r : Option (Ex × St)) : Option (AV × List Ob) := match r with
  | some (.exit _, _) | none => none
  | some (_, s) => don (E f) n (lkp s.hp) (resV P fn s)
@[simp] theorem fin_ret {f fn n} : fin P E f fn n (some (.ret, s)) = don (E f) n (lkp s.hp) (resV P fn s) := rfl
@[simp] theorem fin_normal {f fn n} : fin P E f fn n (some (.normal, s)) = don (E f) n (lkp s.hp) (resV P fn s) := rfl
@[simp] theorem fin_none {f fn n} : fin P E f fn n none = none := rfl

theorem call_eq {X : Xt} {f : FuncId} {fn : Func} {b : Code} {args : List AV} {obs : List Ob} (hf : P.funcs[f]? = some fn) (hb : fn.body = some b) (hx : X f = none) (hc : chkF fn = true) (hl : decide (args.length ≤ fn.ntmps) = true) :
    callI P E X f args obs = go P (callI P E X) E (fin P E f fn obs.length) b (startS args obs) [] := by
  rw [callI_body hx hf hc]
  unfold bodyI fin go unw
  rw [hb]
  simp only [of_decide_eq_true hl, if_true]
  rfl

@[simp] theorem lk_cons {i j : Nat} {v : AV} {m : List (Nat × AV)} : lk ((i, v) :: m) j = if i = j then v else lk m j := by
  simp only [lk, lkp]; split <;> rfl
@[simp] theorem lkp_cons {α : Type} {i j : Nat} {v : α} {m : List (Nat × α)} : lkp ((i, v) :: m) j = if i = j then some v else lkp m j := rfl
@[simp] theorem lkp_nil {α : Type} {j : Nat} : lkp ([] : List (Nat × α)) j = none := rfl

@[simp] theorem ρ_tmp {t} : s.ρ (.tmp t) = lk s.tm t := rfl
@[simp] theorem ρ_const {v} : s.ρ (.const v) = ofV v := rfl
@[simp] theorem ρ_func {f} : s.ρ (.func f) = .func (.func f) [] [] := rfl
@[simp] theorem ofV_int {k n} : ofV (.int k n) = .int k n := by simp [ofV]
@[simp] theorem ofV_bool {b} : ofV (.bool b) = .bool b := by simp [ofV]
@[simp] theorem ofV_str {s} : ofV (.string s) = .str s := by simp [ofV]
@[simp] theorem ofV_nilp : ofV (.pointer none) = .nilp := by simp [ofV]
@[simp] theorem ofV_nilsl : ofV (.slice none 0 0) = .nilsl := by simp [ofV]
@[simp] theorem ofV_nilf : ofV .nilFunc = .nilf := by simp [ofV]

@[simp] theorem tm0_nil {k} : tm0 k [] = [] := rfl
@[simp] theorem tm0_cons {k v vs} : tm0 k (v :: vs) = (k, v) :: tm0 (k + 1) vs := rfl
@[simp] theorem zipAt_nil {k} : zipAt k [] = [] := rfl
@[simp] theorem zipAt_cons {k o os} : zipAt k (o :: os) = (k, o) :: zipAt (k + 1) os := rfl
@[simp] theorem startS_eq {args obs} : startS args obs = ⟨tm0 0 args, zipAt 0 obs, obs.length⟩ := rfl
end
end Go.Proofs.YtapchldnmkfkoabDoor.Am
namespace Go.Proofs.YtapchldnmkfkoabDoor.Am
open Go

section
variable {P : Program} {cl : Cl} {E : FuncId → Md} {ρ : Operand → AV} {g : Nat → Option Ob} {nx : Nat}

@[simp] theorem opv_move {x} : opv P cl E (.move x) ρ g nx = Eff.pure (ρ x) nx := rfl
@[simp] theorem opv_assign {x} : opv P cl E (.assign x) ρ g nx = Eff.pure (ρ x) nx := rfl
def pck (c a b : AV) (nx : Nat) : Option Eff := match c with
    | .bool t => Eff.pure (if t = true then a else b) nx
    | _ => none
@[simp] theorem opv_pick {c a b} : opv P cl E (.pick c a b) ρ g nx = pck (ρ c) (ρ a) (ρ b) nx := rfl
@[simp] theorem pck_bool {t a b nx} : pck (.bool t) a b nx = Eff.pure (selQ t a b) nx := by cases t <;> rfl
@[simp] theorem opv_load {t a} : opv P cl E (.load t a) ρ g nx = ldA P t (ρ a) g nx := rfl
@[simp] theorem opv_store {t a x} : opv P cl E (.store t a x) ρ g nx = stA P t (ρ a) (ρ x) g nx := rfl

/-- A value's cells put in a box. -/
def bxA (v : AV) (nx : Nat) : Option Eff := if v.cells.all AV.one ∧ 0 < v.cells.length then some ⟨.optr nx 0 v.cells.length, [], [(nx, .box v.cells)], nx + 1⟩ else none
@[simp] theorem opv_box {t x} : opv P cl E (.box t x) ρ g nx = bxA (ρ x) nx := rfl
def alA (z : Option AV) (nx : Nat) : Option Eff := match z with
    | some z => if z.cells.all AV.one ∧ 0 < z.cells.length then some ⟨.optr nx 0 z.cells.length, [], [(nx, .box z.cells)], nx + 1⟩ else none
    | none => none
def alB (b : Bool) (t : TypeId) (z : Option AV) (nx : Nat) : Option Eff := match z with
    | some z => if b then some ⟨.optr nx 0 2, [], [(nx, .bld t .nilsl)], nx + 1⟩ else
      if z.cells.all AV.one ∧ 0 < z.cells.length then some ⟨.optr nx 0 z.cells.length, [], [(nx, .box z.cells)], nx + 1⟩ else none
    | none => none
@[simp] theorem opv_alloc {t} : opv P cl E (.alloc t) ρ g nx = alB (isBld P t) t (zer P t) nx := rfl
@[simp] theorem alB_f {t z nx} : alB false t z nx = alA z nx := by cases z <;> rfl
@[simp] theorem alB_t {t z nx} : alB true t (some z) nx = some ⟨.optr nx 0 2, [], [(nx, .bld t .nilsl)], nx + 1⟩ := rfl
@[simp] theorem alA_some {z nx} : alA (some z) nx = bxA z nx := rfl
@[simp] theorem bxA_int {k n nx} : bxA (.int k n) nx = some ⟨.optr nx 0 1, [], [(nx, .box [.int k n])], nx + 1⟩ := by simp [bxA, AV.cells, AV.one]
@[simp] theorem bxA_bool {n nx} : bxA (.bool n) nx = some ⟨.optr nx 0 1, [], [(nx, .box [.bool n])], nx + 1⟩ := by simp [bxA, AV.cells, AV.one]
@[simp] theorem bxA_str {n nx} : bxA (.str n) nx = some ⟨.optr nx 0 1, [], [(nx, .box [.str n])], nx + 1⟩ := by simp [bxA, AV.cells, AV.one]
@[simp] theorem bxA_fsl {n nx} : bxA (.fsl n) nx = some ⟨.optr nx 0 1, [], [(nx, .box [.fsl n])], nx + 1⟩ := by simp [bxA, AV.cells, AV.one]
@[simp] theorem bxA_osl {i o l t nx} : bxA (.osl i o l t) nx = some ⟨.optr nx 0 1, [], [(nx, .box [.osl i o l t])], nx + 1⟩ := by simp [bxA, AV.cells, AV.one]
@[simp] theorem bxA_nilsl {nx} : bxA .nilsl nx = some ⟨.optr nx 0 1, [], [(nx, .box [.nilsl])], nx + 1⟩ := by simp [bxA, AV.cells, AV.one]
@[simp] theorem bxA_nilp {nx} : bxA .nilp nx = some ⟨.optr nx 0 1, [], [(nx, .box [.nilp])], nx + 1⟩ := by simp [bxA, AV.cells, AV.one]
@[simp] theorem bxA_optr {i o t nx} : bxA (.optr i o t) nx = some ⟨.optr nx 0 1, [], [(nx, .box [.optr i o t])], nx + 1⟩ := by simp [bxA, AV.cells, AV.one]
@[simp] theorem bxA_agg {cs nx} : bxA (.agg cs) nx = if cs.all AV.one ∧ 0 < cs.length then some ⟨.optr nx 0 cs.length, [], [(nx, .box cs)], nx + 1⟩ else none := rfl

@[simp] theorem one_int {k n} : AV.one (.int k n) = true := rfl
@[simp] theorem one_bool {n} : AV.one (.bool n) = true := rfl
@[simp] theorem one_str {n} : AV.one (.str n) = true := rfl
@[simp] theorem one_fsl {n} : AV.one (.fsl n) = true := rfl
@[simp] theorem one_slf {i t} : AV.one (.slf i t) = true := rfl
@[simp] theorem one_osl {i o l t} : AV.one (.osl i o l t) = true := rfl
@[simp] theorem one_nilsl : AV.one .nilsl = true := rfl
@[simp] theorem one_nilp : AV.one .nilp = true := rfl
@[simp] theorem one_nilf : AV.one .nilf = true := rfl
@[simp] theorem one_optr {i o t} : AV.one (.optr i o t) = true := rfl
@[simp] theorem one_func {a b c} : AV.one (.func a b c) = true := rfl
@[simp] theorem cells_int {k n} : AV.cells (.int k n) = [.int k n] := rfl
@[simp] theorem cells_bool {n} : AV.cells (.bool n) = [.bool n] := rfl
@[simp] theorem cells_str {n} : AV.cells (.str n) = [.str n] := rfl
@[simp] theorem cells_fsl {n} : AV.cells (.fsl n) = [.fsl n] := rfl
@[simp] theorem cells_slf {i t} : AV.cells (.slf i t) = [.slf i t] := rfl
@[simp] theorem cells_osl {i o l t} : AV.cells (.osl i o l t) = [.osl i o l t] := rfl
@[simp] theorem cells_nilsl : AV.cells .nilsl = [.nilsl] := rfl
@[simp] theorem cells_nilp : AV.cells .nilp = [.nilp] := rfl
@[simp] theorem cells_agg {cs} : AV.cells (.agg cs) = cs := rfl

/-! Fields -/
def faA (r : Option (Nat × TS)) (a : AV) (g : Nat → Option Ob) (nx : Nat) : Option Eff := match r, a with
    | some (o, _), .optr id off tot => if liveA g id tot then some ⟨.optr id (off + o) tot, [id], [], nx⟩ else none
    | some (o, _), .eptr id ix off tot => if liveA g id tot then some ⟨.eptr id ix (off + o) tot, [id], [], nx⟩ else none
    | some (o, _), .fptr cs off => Eff.pure (.fptr cs (off + o)) nx
    | _, _ => none
@[simp] theorem opv_fieldAddr {s x f} : opv P cl E (.fieldAddr s x f) ρ g nx = faA (fld P s f) (ρ x) g nx := rfl
@[simp] theorem faA_optr {o ts id off tot} : faA (some (o, ts)) (.optr id off tot) g nx = if liveA g id tot then some ⟨.optr id (off + o) tot, [id], [], nx⟩ else none := rfl
@[simp] theorem faA_eptr {o ts id ix off tot} : faA (some (o, ts)) (.eptr id ix off tot) g nx = if liveA g id tot then some ⟨.eptr id ix (off + o) tot, [id], [], nx⟩ else none := rfl
@[simp] theorem faA_fptr {o ts cs off} : faA (some (o, ts)) (.fptr cs off) g nx = Eff.pure (.fptr cs (off + o)) nx := rfl
def fdA (r : Option (Nat × TS)) (a : AV) (nx : Nat) : Option Eff := match r, a with
    | some (o, ts), .agg cs => (ldc ts cs o).bind fun v => Eff.pure v nx
    | _, _ => none
@[simp] theorem opv_field {s x f} : opv P cl E (.field s x f) ρ g nx = fdA (fld P s f) (ρ x) nx := rfl
@[simp] theorem fdA_agg {o ts cs} : fdA (some (o, ts)) (.agg cs) nx = (ldc ts cs o).bind fun v => Eff.pure v nx := rfl
@[simp] theorem opv_build {t parts} : opv P cl E (.build t parts) ρ g nx = (if isArr P t then bldArr P t (parts.toList.map fun p => (p.1, ρ p.2)) else bldA P t (parts.toList.map fun p => (p.1, ρ p.2))).bind fun v => Eff.pure v nx := rfl
def bsS (b : Bool) (p q : Option Eff) : Option Eff := if b then p else q
@[simp] theorem bsS_t {p q} : bsS true p q = p := rfl
@[simp] theorem bsS_f {p q} : bsS false p q = q := rfl
@[simp] theorem hasHL_nil : hasHL [] = false := rfl
@[simp] theorem hasHL_cons {c cs} : hasHL (c :: cs) = (hasH c || hasHL cs) := rfl
@[simp] theorem hasH_osl {i o l t} : hasH (.osl i o l t) = true := by simp [hasH]
@[simp] theorem hasH_agg {cs} : hasH (.agg cs) = hasHL cs := by simp [hasH]
@[simp] theorem hasH_int {k n} : hasH (.int k n) = false := by simp [hasH]
@[simp] theorem hasH_bool {n} : hasH (.bool n) = false := by simp [hasH]
@[simp] theorem hasH_str {n} : hasH (.str n) = false := by simp [hasH]
@[simp] theorem hasH_fsl {n} : hasH (.fsl n) = false := by simp [hasH]
@[simp] theorem hasH_fptr {n o} : hasH (.fptr n o) = false := by simp [hasH]
@[simp] theorem hasH_optr {i o t} : hasH (.optr i o t) = false := by simp [hasH]
@[simp] theorem hasH_nilsl : hasH .nilsl = false := by simp [hasH]
@[simp] theorem hasH_nilp : hasH .nilp = false := by simp [hasH]
@[simp] theorem hasH_any : hasH .any = false := by simp [hasH]
@[simp] theorem opv_buildSlice {t len parts} : opv P cl E (.buildSlice t len parts) ρ g nx = bsS (hasHL (parts.toList.map fun p => ρ p.2)) (nbsA P t len (parts.toList.map fun p => (p.1, ρ p.2)) nx) (bslA P t len (parts.toList.map fun p => (p.1, ρ p.2)) g nx) := rfl
def ncA (v : AV) (g : Nat → Option Ob) (nx : Nat) : Option Eff := match v with
    | .optr i o t => if liveA g i t then some ⟨.optr i o t, [i], [], nx⟩ else none
    | .eptr i ix o t => if liveA g i t then some ⟨.eptr i ix o t, [i], [], nx⟩ else none
    | .fptr cs o => Eff.pure (.fptr cs o) nx
    | _ => none
@[simp] theorem opv_nilCheck {x} : opv P cl E (.nilCheck x) ρ g nx = ncA (ρ x) g nx := by
  simp only [opv, ncA]; cases ρ x <;> rfl
@[simp] theorem ncA_optr {i o t} : ncA (.optr i o t) g nx = if liveA g i t then some ⟨.optr i o t, [i], [], nx⟩ else none := rfl
@[simp] theorem ncA_eptr {i ix o t} : ncA (.eptr i ix o t) g nx = if liveA g i t then some ⟨.eptr i ix o t, [i], [], nx⟩ else none := rfl
@[simp] theorem ncA_fptr {cs o} : ncA (.fptr cs o) g nx = Eff.pure (.fptr cs o) nx := rfl
@[simp] theorem opv_binOp {op t x y z} : opv P cl E (.binOp op t x y z) ρ g nx = (binA P op t (ρ x) (ρ y)).bind fun v => Eff.pure v nx := rfl
@[simp] theorem opv_unOp {op t x} : opv P cl E (.unOp op t x) ρ g nx = (unA op (ρ x)).bind fun v => Eff.pure v nx := rfl
@[simp] theorem opv_convert {s d x} : opv P cl E (.convert s d x) ρ g nx = cvA P s d g nx (ρ x) := rfl
@[simp] theorem opv_makeFunc {fn first cap} : opv P cl E (.makeFunc fn first cap) ρ g nx = Eff.pure (.func fn (first.toList.map ρ) (cap.toList.map ρ)) nx := rfl
@[simp] theorem opv_makeSlice {t l c} : opv P cl E (.makeSlice t l c) ρ g nx = mkA P t (ρ l) (ρ c) nx := rfl
@[simp] theorem opv_slice {t x lo hi mx} : opv P cl E (.slice t x lo hi mx) ρ g nx = slcA P t (ρ x) (lo.map ρ) (hi.map ρ) (mx.map ρ) g nx := rfl
@[simp] theorem opv_indexAddr {t x i} : opv P cl E (.indexAddr t x i) ρ g nx = ixA P t (ρ x) (ρ i) g nx := rfl
@[simp] theorem opv_index {t x i} : opv P cl E (.index t x i) ρ g nx = (idxA P t (ρ x) (ρ i)).bind fun v => Eff.pure v nx := rfl
def exA (v : AV) (i nx : Nat) : Option Eff := match v with
    | .tup vs => (vs[i]?).bind fun v => Eff.pure v nx
    | _ => none
@[simp] theorem opv_extract {t i} : opv P cl E (.extract t i) ρ g nx = exA (ρ t) i nx := by
  simp only [opv, exA]; cases ρ t <;> rfl
@[simp] theorem exA_tup {vs i} : exA (.tup vs) i nx = (vs[i]?).bind fun v => Eff.pure v nx := rfl
def cvF (cl : Cl) (E : FuncId → Md) (v : AV) (args : List AV) (g : Nat → Option Ob) (nx : Nat) : Option Eff := match v with
      | .func (.func f) first cap => callV cl E f (first ++ args ++ cap) g nx
      | _ => none
@[simp] theorem opv_call {f args tys} : opv P cl E (.call ⟨.value f, args, tys⟩) ρ g nx = cvF cl E (ρ f) (args.toList.map ρ) g nx := rfl
@[simp] theorem cvF_func {f a c args} : cvF cl E (.func (.func f) a c) args g nx = callV cl E f (a ++ args ++ c) g nx := rfl
@[simp] theorem opv_len {x t} : opv P cl E (.call ⟨.builtin .len, #[x], #[t]⟩) ρ g nx = lnA P t (ρ x) g nx := rfl
def apS (b : Bool) (p q : Option Eff) : Option Eff := if b then p else q
@[simp] theorem apS_t {p q} : apS true p q = p := rfl
@[simp] theorem apS_f {p q} : apS false p q = q := rfl
@[simp] theorem narO_arr {z e r} : narO (some (.arr z e r)) = false := rfl
@[simp] theorem narO_nar {z e r} : narO (some (.nar z e r)) = true := rfl
@[simp] theorem isNar_osl {i o l t} : isNar g (.osl i o l t) = narO (g i) := rfl
@[simp] theorem isNar_nilsl : isNar g .nilsl = false := rfl
@[simp] theorem isNar_fsl {e} : isNar g (.fsl e) = false := rfl
@[simp] theorem isNar_any : isNar g .any = false := rfl
@[simp] theorem opv_append {s x t u} : opv P cl E (.call ⟨.builtin .append, #[s, x], #[t, u]⟩) ρ g nx = apS (isNar g (ρ s)) (napA P t u (ρ s) (ρ x) g nx) (appA P t u (ρ s) (ρ x) g nx) := rfl
@[simp] theorem opv_copy {s x t u} : opv P cl E (.call ⟨.builtin .copy, #[s, x], #[t, u]⟩) ρ g nx = cpyA P t u (ρ s) (ρ x) g nx := rfl
@[simp] theorem opv_clear {x t} : opv P cl E (.call ⟨.builtin .clear, #[x], #[t]⟩) ρ g nx = clrA P t (ρ x) g nx := rfl
@[simp] theorem opv_max {x y t} : opv P cl E (.call ⟨.builtin .max, #[x, y], t⟩) ρ g nx = (max2A (ρ x) (ρ y)).bind fun v => Eff.pure v nx := by
  simp only [opv, foldA, List.map]
  cases max2A (ρ x) (ρ y) <;> rfl
@[simp] theorem opv_min {x y t} : opv P cl E (.call ⟨.builtin .min, #[x, y], t⟩) ρ g nx = (min2A (ρ x) (ρ y)).bind fun v => Eff.pure v nx := by
  simp only [opv, foldA, List.map]
  cases min2A (ρ x) (ρ y) <;> rfl
@[simp] theorem max2A_int {k x y} : max2A (.int k x) (.int k y) = some (.int k (max x y)) := by simp [max2A]; omega
@[simp] theorem min2A_int {k x y} : min2A (.int k x) (.int k y) = some (.int k (min x y)) := by simp [min2A]; omega

/-! Structs built -/
def bldK (pl : Option (List (Nat × Nat))) (z : Option AV) (parts : List (Nat × AV)) : Option AV :=
  match pl, z with
  | some pl, some z => if z.cells.all AV.one then (filA (pl[·]?) z.cells parts).map .agg else none
  | _, _ => none
@[simp] theorem bldA_eq {t parts} : bldA P t parts = bldK (plc P t) (zer P t) parts := rfl
@[simp] theorem bldK_some {pl z parts} : bldK (some pl) (some z) parts = if z.cells.all AV.one then (filA (pl[·]?) z.cells parts).map .agg else none := rfl
@[simp] theorem filA_nil {pl cs} : filA pl cs [] = some cs := rfl
def filS (pl : Nat → Option (Nat × Nat)) (r : Option (Nat × Nat)) (cells : List AV) (v : AV) (rest : List (Nat × AV)) : Option (List AV) := match r with
    | none => none
    | some (off, size) =>
      if v.cells.length = size ∧ off + size ≤ cells.length ∧ v.cells.all AV.one then filA pl (spl cells off v.cells) rest else none
@[simp] theorem filA_cons {pl cs i v rest} : filA pl cs ((i, v) :: rest) = filS pl (pl i) cs v rest := rfl
@[simp] theorem filS_some {pl cs off size v rest} : filS pl (some (off, size)) cs v rest = if v.cells.length = size ∧ off + size ≤ cs.length ∧ v.cells.all AV.one then filA pl (spl cs off v.cells) rest else none := rfl

/-! Loads and stores -/
def ldT (ts : Option TS) (a : AV) (g : Nat → Option Ob) (nx : Nat) : Option Eff :=
  match ts with
  | none => none
  | some ts =>
    match a with
    | .fptr cs off => (ldc ts cs off).bind fun v => Eff.pure v nx
    | .optr id off tot => match g id with
      | some (.box cs) => if tot = cs.length then (ldc ts cs off).map fun v => ⟨v, [id], [], nx⟩ else none
      | some (.bld _ c) => if tot = 2 ∧ off = 1 ∧ ts.size = 1 then (ldc ts [c] 0).map fun v => ⟨v, [id], [], nx⟩ else none
      | _ => none
    | .eptr id ix off tot => match g id with
      | some (.arr _ es _) => if tot = es.length then match es[ix]? with
        | some e => (ldc ts e.cells off).map fun v => ⟨v, [id], [], nx⟩
        | none => none
        else none
      | some (.nar esz es zs) => if tot = es.length then match es[ix]? with
        | some e => match ldc ts e.cells off with
          | some (.fsl r) => brwA id ix off esz es zs e r nx
          | some v => if plain v = true then some ⟨v, [id], [], nx⟩ else brwE id ix off esz es zs v.cells.length e nx
          | none => none
        | none => none
        else none
      | _ => none
    | _ => none
@[simp] theorem ldA_eq {t a} : ldA P t a g nx = ldT (tsh P t) a g nx := rfl
@[simp] theorem ldT_fptr {ts cs off} : ldT (some ts) (.fptr cs off) g nx = (ldc ts cs off).bind fun v => Eff.pure v nx := rfl
theorem ldT_optr {ts id off tot cs} (h : g id = some (.box cs)) (ht : tot = cs.length) : ldT (some ts) (.optr id off tot) g nx = (ldc ts cs off).map fun v => ⟨v, [id], [], nx⟩ := by simp [ldT, h, ht]
def ldO (ts : TS) (o : Option Ob) (id off tot nx : Nat) : Option Eff := match o with
      | some (.box cs) => if tot = cs.length then (ldc ts cs off).map fun v => ⟨v, [id], [], nx⟩ else none
      | some (.bld _ c) => if tot = 2 ∧ off = 1 ∧ ts.size = 1 then (ldc ts [c] 0).map fun v => ⟨v, [id], [], nx⟩ else none
      | _ => none
@[simp] theorem ldT_o {ts id off tot} : ldT (some ts) (.optr id off tot) g nx = ldO ts (g id) id off tot nx := rfl
@[simp] theorem ldO_some {ts cs id off tot} : ldO ts (some (.box cs)) id off tot nx = if tot = cs.length then (ldc ts cs off).map fun v => ⟨v, [id], [], nx⟩ else none := rfl
@[simp] theorem ldO_bld {ts t c id off tot} : ldO ts (some (.bld t c)) id off tot nx = if tot = 2 ∧ off = 1 ∧ ts.size = 1 then (ldc ts [c] 0).map fun v => ⟨v, [id], [], nx⟩ else none := rfl
def ldN (id ix off esz : Nat) (es : List AV) (zs : List Nat) (e : AV) (nx : Nat) (o : Option AV) : Option Eff := match o with
  | some (.fsl r) => brwA id ix off esz es zs e r nx
  | some v => if plain v = true then some ⟨v, [id], [], nx⟩ else brwE id ix off esz es zs v.cells.length e nx
  | none => none
def ldM (ts : TS) (id ix off esz : Nat) (es : List AV) (zs : List Nat) (nx : Nat) (o : Option AV) : Option Eff := match o with
  | some e => ldN id ix off esz es zs e nx (ldc ts e.cells off)
  | none => none
def ldE (ts : TS) (o : Option Ob) (id ix off tot nx : Nat) : Option Eff := match o with
      | some (.arr _ es _) => if tot = es.length then match es[ix]? with
        | some e => (ldc ts e.cells off).map fun v => ⟨v, [id], [], nx⟩
        | none => none
        else none
      | some (.nar esz es zs) => if tot = es.length then ldM ts id ix off esz es zs nx es[ix]? else none
      | _ => none
@[simp] theorem ldT_e {ts id ix off tot} : ldT (some ts) (.eptr id ix off tot) g nx = ldE ts (g id) id ix off tot nx := by
  simp only [ldT, ldE, ldM, ldN]
@[simp] theorem ldE_some {ts es z r id ix off tot} : ldE ts (some (.arr z es r)) id ix off tot nx = if tot = es.length then match es[ix]? with
        | some e => (ldc ts e.cells off).map fun v => ⟨v, [id], [], nx⟩
        | none => none
        else none := rfl
@[simp] theorem ldE_nar {ts es z r id ix off tot} : ldE ts (some (.nar z es r)) id ix off tot nx = if tot = es.length then ldM ts id ix off z es r nx es[ix]? else none := rfl
@[simp] theorem ldM_some {ts id ix off esz es zs e} : ldM ts id ix off esz es zs nx (some e) = ldN id ix off esz es zs e nx (ldc ts e.cells off) := rfl
@[simp] theorem ldN_fsl {id ix off esz es zs e r} : ldN id ix off esz es zs e nx (some (.fsl r)) = brwA id ix off esz es zs e r nx := rfl
@[simp] theorem ldN_int {id ix off esz es zs e k n} : ldN id ix off esz es zs e nx (some (.int k n)) = some ⟨.int k n, [id], [], nx⟩ := by simp [ldN, plain]
@[simp] theorem ldN_bool {id ix off esz es zs e n} : ldN id ix off esz es zs e nx (some (.bool n)) = some ⟨.bool n, [id], [], nx⟩ := by simp [ldN, plain]
@[simp] theorem ldN_str {id ix off esz es zs e n} : ldN id ix off esz es zs e nx (some (.str n)) = some ⟨.str n, [id], [], nx⟩ := by simp [ldN, plain]
@[simp] theorem ldN_osl {id ix off esz es zs e i o l t} : ldN id ix off esz es zs e nx (some (.osl i o l t)) = some ⟨.osl i o l t, [id], [], nx⟩ := by simp [ldN, plain]
@[simp] theorem ldN_agg {id ix off esz es zs e cs} : ldN id ix off esz es zs e nx (some (.agg cs)) = if plainL cs = true then some ⟨.agg cs, [id], [], nx⟩ else brwE id ix off esz es zs cs.length e nx := by
  show (if plain (.agg cs) = true then _ else _) = _
  rw [show plain (.agg cs) = plainL cs from by simp [plain]]; rfl
def brwV (id ix esz : Nat) (es : List AV) (zs : List Nat) (z : Nat) (r : List AV) (nx : Nat) (o : Option AV) : Option Eff := match o with
  | some e' => if 0 < z then some ⟨.osl nx 0 r.length r.length, [id], [(id, .nar esz (es.set ix e') zs), (nx, .arr z r false)], nx + 1⟩ else none
  | none => none
@[simp] theorem brwE_agg {id ix off esz es zs n cs} : brwE id ix off esz es zs n (.agg cs) nx = if off = 0 ∧ n = cs.length then (brwL zs cs 0 nx).map fun x => ⟨.agg x.1, [id], (id, .nar esz (es.set ix (.agg x.1)) zs) :: x.2.1, x.2.2⟩ else none := rfl
@[simp] theorem brwL_nil {zs k} : brwL zs [] k nx = some ([], [], nx) := rfl
@[simp] theorem brwL_fsl {zs k r cs} : brwL zs (.fsl r :: cs) k nx = if 0 < zs.getD k 0 then (brwL zs cs (k + 1) (nx + 1)).map fun x => (.osl nx 0 r.length r.length :: x.1, (nx, .arr (zs.getD k 0) r false) :: x.2.1, x.2.2) else none := rfl
@[simp] theorem brwL_int {zs k i n cs} : brwL zs (.int i n :: cs) k nx = (brwL zs cs (k + 1) nx).map fun x => (.int i n :: x.1, x.2.1, x.2.2) := by simp [brwL, plain]
@[simp] theorem brwL_bool {zs k n cs} : brwL zs (.bool n :: cs) k nx = (brwL zs cs (k + 1) nx).map fun x => (.bool n :: x.1, x.2.1, x.2.2) := by simp [brwL, plain]
@[simp] theorem brwL_str {zs k n cs} : brwL zs (.str n :: cs) k nx = (brwL zs cs (k + 1) nx).map fun x => (.str n :: x.1, x.2.1, x.2.2) := by simp [brwL, plain]
@[simp] theorem brwL_osl {zs k i o l t cs} : brwL zs (.osl i o l t :: cs) k nx = (brwL zs cs (k + 1) nx).map fun x => (.osl i o l t :: x.1, x.2.1, x.2.2) := by simp [brwL, plain]
@[simp] theorem brwA_eq {id ix off esz es zs e r} : brwA id ix off esz es zs e r nx = brwV id ix esz es zs (zs.getD off 0) r nx (sve e off [.osl nx 0 r.length r.length]) := rfl
@[simp] theorem brwV_some {id ix esz es zs z r e'} (h : 0 < z) : brwV id ix esz es zs z r nx (some e') = some ⟨.osl nx 0 r.length r.length, [id], [(id, .nar esz (es.set ix e') zs), (nx, .arr z r false)], nx + 1⟩ := if_pos h
@[simp] theorem ldc_sc {cs off} : ldc .sc cs off = cs[off]? := rfl
@[simp] theorem ldc_ag {n cs off} : ldc (.ag n) cs off = if off + n ≤ cs.length then some (.agg ((cs.drop off).take n)) else none := rfl
def stT (ts : Option TS) (a x : AV) (g : Nat → Option Ob) (nx : Nat) : Option Eff :=
  match ts with
  | none => none
  | some ts =>
    if x.cells.length = ts.size ∧ x.cells.all AV.one then
      match a with
      | .optr id off tot => match g id with
        | some (.box cs) => if tot = cs.length ∧ off + ts.size ≤ cs.length then some ⟨.any, [id], [(id, .box (spl cs off x.cells))], nx⟩ else none
        | some (.bld t c) => if tot = 2 ∧ off = 1 then match x.cells with
          | [y] => some ⟨.any, [id], [(id, .bld t y)], nx⟩
          | _ => none
          else none
        | _ => none
      | .eptr id ix off tot => match g id with
       | some (.nar esz es zs) => if tot = es.length ∧ plain x = true then match es[ix]? with
            | some e => match sve e off x.cells with
              | some e' => some ⟨.any, [id], [(id, .nar esz (es.set ix e') zs)], nx⟩
              | none => none
            | none => none
            else none
       | _ =>
        match frz g x, roAll g (addTo [] (ids x)) with
        | some x', some ro => match g id with
          | some (.arr esz es false) => if tot = es.length ∧ !(ids x).contains id then match es[ix]? with
            | some e => match sve e off x'.cells with
              | some e' => some ⟨.any, id :: ids x, (id, .arr esz (es.set ix e') false) :: ro, nx⟩
              | none => none
            | none => none
            else none
          | _ => none
        | _, _ => none
      | _ => none
    else none
@[simp] theorem stA_eq {t a x} : stA P t a x g nx = stT (tsh P t) a x g nx := rfl
def stO (ts : TS) (o : Option Ob) (x : AV) (id off tot nx : Nat) : Option Eff := match o with
        | some (.box cs) => if tot = cs.length ∧ off + ts.size ≤ cs.length then some ⟨.any, [id], [(id, .box (spl cs off x.cells))], nx⟩ else none
        | some (.bld t c) => if tot = 2 ∧ off = 1 then match x.cells with
          | [y] => some ⟨.any, [id], [(id, .bld t y)], nx⟩
          | _ => none
          else none
        | _ => none
@[simp] theorem stT_o {ts id off tot x} : stT (some ts) (.optr id off tot) x g nx = if x.cells.length = ts.size ∧ x.cells.all AV.one then stO ts (g id) x id off tot nx else none := rfl
@[simp] theorem stO_some {ts cs x id off tot} : stO ts (some (.box cs)) x id off tot nx = if tot = cs.length ∧ off + ts.size ≤ cs.length then some ⟨.any, [id], [(id, .box (spl cs off x.cells))], nx⟩ else none := rfl
def one1 (cs : List AV) (f : AV → Option Eff) : Option Eff := match cs with
  | [y] => f y
  | _ => none
@[simp] theorem one1_one {y f} : one1 [y] f = f y := rfl
@[simp] theorem stO_bld {ts t c x id off tot} : stO ts (some (.bld t c)) x id off tot nx = if tot = 2 ∧ off = 1 then one1 x.cells fun y => some ⟨.any, [id], [(id, .bld t y)], nx⟩ else none := rfl
@[simp] theorem size_sc : TS.size .sc = 1 := rfl
@[simp] theorem size_ag {n} : TS.size (.ag n) = n := rfl
@[simp] theorem liveA_some {id tot} {o : Ob} (h : g id = some o) : liveA g id tot = (tot == o.len) := by simp [liveA, h]
@[simp] theorem len_box {cs} : Ob.len (.box cs) = cs.length := rfl
@[simp] theorem len_bld {t c} : Ob.len (.bld t c) = 2 := rfl
@[simp] theorem len_nar {z e r} : Ob.len (.nar z e r) = e.length := rfl
@[simp] theorem len_gone {n} : Ob.len (.gone n) = n := rfl
@[simp] theorem len_arr {z es r} : Ob.len (.arr z es r) = es.length := rfl
@[simp] theorem spl_eq {cs off new} : spl cs off new = cs.take off ++ new ++ cs.drop (off + new.length) := rfl

/-! Whole numbers -/
/-- At most, and the same: bools that hide how they are decided. -/
def ile (x y : Int) : Bool := decide (x ≤ y)
def ieq (x y : Int) : Bool := decide (x = y)
def seq' (x y : ByteArray) : Bool := decide (x = y)
theorem ile_t {x y : Int} : ile x y = true ↔ x ≤ y := by simp [ile]
theorem ile_f {x y : Int} : ile x y = false ↔ y < x := by simp [ile]
theorem ieq_t {x y : Int} : ieq x y = true ↔ x = y := by simp [ieq]
theorem ieq_f {x y : Int} : ieq x y = false ↔ x ≠ y := by simp [ieq]
@[simp] theorem ile_self {x : Int} : ile x x = true := by simp [ile]
@[simp] theorem ieq_self {x : Int} : ieq x x = true := by simp [ieq]
def andI (k : IntKind) (x y : Int) : Int := k.wrap (BitVec.ofInt k.bits x &&& BitVec.ofInt k.bits y).toNat
def orI (k : IntKind) (x y : Int) : Int := k.wrap (BitVec.ofInt k.bits x ||| BitVec.ofInt k.bits y).toNat
def xorI (k : IntKind) (x y : Int) : Int := k.wrap (BitVec.ofInt k.bits x ^^^ BitVec.ofInt k.bits y).toNat
def shrI (k : IntKind) (x y : Int) : Int := x.fdiv (2 ^ (min y.toNat k.bits))
def shlI (k : IntKind) (x y : Int) : Int := k.wrap (x * 2 ^ (min y.toNat k.bits))
section
variable {k : IntKind} {t : TypeId} {x y : Int}
@[simp] theorem binA_add : binA P .add t (.int k x) (.int k y) = some (.int k (k.wrap (x + y))) := by simp [binA, intA]
@[simp] theorem binA_sub : binA P .sub t (.int k x) (.int k y) = some (.int k (k.wrap (x - y))) := by simp [binA, intA]
@[simp] theorem binA_mul : binA P .mul t (.int k x) (.int k y) = some (.int k (k.wrap (x * y))) := by simp [binA, intA]
@[simp] theorem binA_quo : binA P .quo t (.int k x) (.int k y) = if y = 0 then none else some (.int k (k.wrap (x.tdiv y))) := by simp [binA, intA]
@[simp] theorem binA_rem : binA P .rem t (.int k x) (.int k y) = if y = 0 then none else some (.int k (x.tmod y)) := by simp [binA, intA]
@[simp] theorem binA_eql : binA P .eql t (.int k x) (.int k y) = some (.bool (ieq x y)) := by simp [binA, intA, ile, ieq]
@[simp] theorem binA_neq : binA P .neq t (.int k x) (.int k y) = some (.bool (!ieq x y)) := by simp [binA, intA, ile, ieq]
@[simp] theorem binA_lss : binA P .lss t (.int k x) (.int k y) = some (.bool (!ile y x)) := by simp [binA, intA, ile]; exact Bool.eq_iff_iff.2 (by simp)
@[simp] theorem binA_leq : binA P .leq t (.int k x) (.int k y) = some (.bool (ile x y)) := by simp [binA, intA, ile, ieq]
@[simp] theorem binA_gtr : binA P .gtr t (.int k x) (.int k y) = some (.bool (!ile x y)) := by simp [binA, intA, ile]; exact Bool.eq_iff_iff.2 (by simp)
@[simp] theorem binA_geq : binA P .geq t (.int k x) (.int k y) = some (.bool (ile y x)) := by simp [binA, intA, ile, ieq]
@[simp] theorem binA_and : binA P .and t (.int k x) (.int k y) = some (.int k (andI k x y)) := by simp [binA, intA, bitsA, andI]
@[simp] theorem binA_or : binA P .or t (.int k x) (.int k y) = some (.int k (orI k x y)) := by simp [binA, intA, bitsA, orI]
@[simp] theorem binA_xor : binA P .xor t (.int k x) (.int k y) = some (.int k (xorI k x y)) := by simp [binA, intA, bitsA, xorI]
@[simp] theorem binA_shr {k' : IntKind} (h : 0 ≤ y) : binA P .shr t (.int k x) (.int k' y) = some (.int k (shrI k x y)) := by
  have : ¬ y < 0 := by omega
  simp [binA, this, shrI]
@[simp] theorem binA_shl {k' : IntKind} (h : 0 ≤ y) : binA P .shl t (.int k x) (.int k' y) = some (.int k (shlI k x y)) := by
  have : ¬ y < 0 := by omega
  simp [binA, this, shlI]
@[simp] theorem unA_neg : unA .neg (.int k x) = some (.int k (k.wrap (0 - x))) := rfl
@[simp] theorem unA_not {b} : unA .not (.bool b) = some (.bool !b) := rfl
@[simp] theorem binA_seq {a b} : binA P .eql t (.str a) (.str b) = some (.bool (seq' a b)) := rfl
@[simp] theorem binA_sne {a b} : binA P .neq t (.str a) (.str b) = some (.bool (!seq' a b)) := by simp [binA, seq']
@[simp] theorem binA_aeq {a b} : binA P .eql t (.agg a) (.agg b) = (eqA P t (.agg a) (.agg b)).map .bool := rfl
@[simp] theorem binA_ane {a b} : binA P .neq t (.agg a) (.agg b) = (eqA P t (.agg a) (.agg b)).map (fun b => .bool (!b)) := rfl
@[simp] theorem binA_beq {a b} : binA P .eql t (.bool a) (.bool b) = (eqA P t (.bool a) (.bool b)).map .bool := rfl
@[simp] theorem binA_bne {a b} : binA P .neq t (.bool a) (.bool b) = (eqA P t (.bool a) (.bool b)).map (fun b => .bool (!b)) := rfl
end
@[simp] theorem bind_pure {v : AV} {nx : Nat} : ((some v).bind fun v => Eff.pure v nx) = Eff.pure v nx := rfl
@[simp] theorem bind_ite_av {c : Prop} [Decidable c] {a b : Option AV} {nx : Nat} : ((if c then a else b).bind fun v => Eff.pure v nx) = if c then a.bind (fun v => Eff.pure v nx) else b.bind fun v => Eff.pure v nx := by split <;> rfl

/-! Lengths, places, turnings -/
theorem lnA_fsl {t e : TypeId} {es} (h : P.underlying t = some (.slice e)) : lnA P t (.fsl es) g nx = Eff.pure (.int .i64 es.length) nx := by simp [lnA, h]
theorem lnA_nilsl {t e : TypeId} (h : P.underlying t = some (.slice e)) : lnA P t .nilsl g nx = Eff.pure (.int .i64 0) nx := by simp [lnA, h]
theorem lnA_str {t : TypeId} {s} (h : P.underlying t = some .string) : lnA P t (.str s) g nx = Eff.pure (.int .i64 s.size) nx := by simp [lnA, h]
theorem lnA_osl {t e : TypeId} {id off len tot} (h : P.underlying t = some (.slice e)) : lnA P t (.osl id off len tot) g nx = if liveA g id tot then some ⟨.int .i64 len, [id], [], nx⟩ else none := by simp [lnA, h]

/-- A place in a frozen row whose elements have one width. -/
theorem ixA_fsl {t e : TypeId} {ts : TS} {b : Nat} {k : IntKind} {i : Int} {es : List AV} {v : AV} (ht : elt P t = some (e, ts, b)) (h0 : 0 ≤ i) (hv : es[i.toNat]? = some v) (hw : es.all (fun e => e.cells.length == ts.size) = true) :
    ixA P t (.fsl es) (.int k i) g nx = Eff.pure (.fptr v.cells 0) nx := by
  have : ¬ i < 0 := by omega
  unfold ixA
  simp only [this, if_false, ht, hv, hw, if_true]
theorem cvA_int {a b : TypeId} {k k' : IntKind} {n : Int} (h : cvt P a b = some (.int k)) : cvA P a b g nx (.int k' n) = Eff.pure (.int k (k.wrap n)) nx := by simp [cvA, h]
theorem cvA_str {a b : TypeId} {s} (h : cvt P a b = some .str) : cvA P a b g nx (.str s) = Eff.pure (.str s) nx := by simp [cvA, h]

/-! Calls -/
@[simp] theorem ids_int {k n} : ids (.int k n) = [] := by simp [ids]
@[simp] theorem ids_bool {n} : ids (.bool n) = [] := by simp [ids]
@[simp] theorem ids_str {n} : ids (.str n) = [] := by simp [ids]
@[simp] theorem ids_fsl {n} : ids (.fsl n) = [] := by simp [ids]
@[simp] theorem ids_fptr {n o} : ids (.fptr n o) = [] := by simp [ids]
@[simp] theorem ids_nilsl : ids .nilsl = [] := by simp [ids]
@[simp] theorem ids_nilp : ids .nilp = [] := by simp [ids]
@[simp] theorem ids_nilf : ids .nilf = [] := by simp [ids]
@[simp] theorem ids_any : ids .any = [] := by simp [ids]
@[simp] theorem ids_osl {i o l t} : ids (.osl i o l t) = [i] := by simp [ids]
@[simp] theorem ids_optr {i o t} : ids (.optr i o t) = [i] := by simp [ids]
@[simp] theorem ids_eptr {i x o t} : ids (.eptr i x o t) = [i] := by simp [ids]
@[simp] theorem ids_slf {i t} : ids (.slf i t) = [i] := by simp [ids]
@[simp] theorem ids_nili : ids .nili = [] := by simp [ids]
@[simp] theorem ids_raw {v} : ids (.raw v) = [] := by simp [ids]
@[simp] theorem ids_agg {cs} : ids (.agg cs) = idsL cs := by simp [ids]
@[simp] theorem ids_tup {cs} : ids (.tup cs) = idsL cs := by simp [ids]
@[simp] theorem ids_func {f a c} : ids (.func f a c) = idsL a ++ idsL c := by simp [ids]
@[simp] theorem idsL_nil : idsL [] = [] := by simp [idsL]
@[simp] theorem idsL_cons {c cs} : idsL (c :: cs) = ids c ++ idsL cs := by simp [idsL]

section
variable {bx : List AV → Option (List AV)}
@[simp] theorem frzW_int {k n} : frzW g bx (.int k n) = some (.int k n) := by simp [frzW]
@[simp] theorem frzW_bool {n} : frzW g bx (.bool n) = some (.bool n) := by simp [frzW]
@[simp] theorem frzW_str {n} : frzW g bx (.str n) = some (.str n) := by simp [frzW]
@[simp] theorem frzW_fsl {n} : frzW g bx (.fsl n) = some (.fsl n) := by simp [frzW]
@[simp] theorem frzW_fptr {n o} : frzW g bx (.fptr n o) = some (.fptr n o) := by simp [frzW]
@[simp] theorem frzW_nilsl : frzW g bx .nilsl = some (.fsl []) := by simp [frzW]
@[simp] theorem frzW_nilp : frzW g bx .nilp = some .nilp := by simp [frzW]
@[simp] theorem frzW_nili : frzW g bx .nili = some .nili := by simp [frzW]
@[simp] theorem frzW_raw {v} : frzW g bx (.raw v) = some (.raw v) := by simp [frzW]
@[simp] theorem frzW_nilf : frzW g bx .nilf = some .nilf := by simp [frzW]
@[simp] theorem frzW_agg {cs} : frzW g bx (.agg cs) = (frzWL g bx cs).map .agg := by simp [frzW]
@[simp] theorem frzW_tup {cs} : frzW g bx (.tup cs) = (frzWL g bx cs).map .tup := by simp [frzW]
def frzS (o : Option Ob) (off len tot : Nat) : Option AV := match o with
    | some (.arr _ es _) => if tot = es.length ∧ off + len ≤ es.length then some (.fsl ((es.drop off).take len)) else none
    | some (.nar _ es _) => if (tot = es.length ∧ off + len ≤ es.length) ∧ (idsL es).isEmpty = true then some (.fsl ((es.drop off).take len)) else none
    | _ => none
@[simp] theorem frzW_osl {i off len tot} : frzW g bx (.osl i off len tot) = frzS (g i) off len tot := by rw [frzW]; rfl
@[simp] theorem frzS_some {z es r off len tot} : frzS (some (.arr z es r)) off len tot = if tot = es.length ∧ off + len ≤ es.length then some (.fsl ((es.drop off).take len)) else none := rfl
@[simp] theorem frzS_nar {z es r off len tot} : frzS (some (.nar z es r)) off len tot = if (tot = es.length ∧ off + len ≤ es.length) ∧ (idsL es).isEmpty = true then some (.fsl ((es.drop off).take len)) else none := rfl
def frzP (bx : List AV → Option (List AV)) (o : Option Ob) (off tot : Nat) : Option AV := match o with
    | some (.box cs) => if tot = cs.length then (bx cs).map (.fptr · off) else none
    | _ => none
@[simp] theorem frzW_optr {i off tot} : frzW g bx (.optr i off tot) = frzP bx (g i) off tot := by rw [frzW]; rfl
@[simp] theorem frzP_some {cs off tot} : frzP bx (some (.box cs)) off tot = if tot = cs.length then (bx cs).map (.fptr · off) else none := rfl
def frzF (fn : Fn) (f c : Option (List AV)) : Option AV := match f, c with
  | some f, some c => some (.func fn f c)
  | _, _ => none
@[simp] theorem frzW_func {fn f c} : frzW g bx (.func fn f c) = frzF fn (frzWL g bx f) (frzWL g bx c) := by rw [frzW]; rfl
@[simp] theorem frzF_some {fn f c} : frzF fn (some f) (some c) = some (.func fn f c) := rfl
@[simp] theorem frzWL_nil : frzWL g bx [] = some [] := by simp [frzWL]
def cnL (o : Option AV) (l : Option (List AV)) : Option (List AV) := match o, l with
  | some c, some cs => some (c :: cs)
  | _, _ => none
@[simp] theorem frzWL_cons {c cs} : frzWL g bx (c :: cs) = cnL (frzW g bx c) (frzWL g bx cs) := by simp only [frzWL, cnL]; cases frzW g bx c <;> cases frzWL g bx cs <;> rfl
@[simp] theorem cnL_some {c cs} : cnL (some c) (some cs) = some (c :: cs) := rfl
end
@[simp] theorem frz_eq {v} : frz g v = frzW g (bxD g 3) v := rfl
@[simp] theorem frzL_eq {v} : frzL g v = frzWL g (bxD g 3) v := rfl
@[simp] theorem bxD_succ {d cs} : bxD g (d + 1) cs = frzWL g (bxD g d) cs := rfl

section
variable {f : Nat → Nat}
@[simp] theorem ren_int {k n} : ren f (.int k n) = .int k n := by simp [ren]
@[simp] theorem ren_bool {n} : ren f (.bool n) = .bool n := by simp [ren]
@[simp] theorem ren_str {n} : ren f (.str n) = .str n := by simp [ren]
@[simp] theorem ren_fsl {n} : ren f (.fsl n) = .fsl n := by simp [ren]
@[simp] theorem ren_fptr {n o} : ren f (.fptr n o) = .fptr n o := by simp [ren]
@[simp] theorem ren_nilsl : ren f .nilsl = .nilsl := by simp [ren]
@[simp] theorem ren_nilp : ren f .nilp = .nilp := by simp [ren]
@[simp] theorem ren_nilf : ren f .nilf = .nilf := by simp [ren]
@[simp] theorem ren_any : ren f .any = .any := by simp [ren]
@[simp] theorem ren_osl {i o l t} : ren f (.osl i o l t) = .osl (f i) o l t := by simp [ren]
@[simp] theorem ren_optr {i o t} : ren f (.optr i o t) = .optr (f i) o t := by simp [ren]
@[simp] theorem ren_eptr {i x o t} : ren f (.eptr i x o t) = .eptr (f i) x o t := by simp [ren]
@[simp] theorem ren_slf {i t} : ren f (.slf i t) = .slf (f i) t := by simp [ren]
@[simp] theorem ren_nili : ren f .nili = .nili := by simp [ren]
@[simp] theorem ren_raw {v} : ren f (.raw v) = .raw v := by simp [ren]
@[simp] theorem ren_agg {cs} : ren f (.agg cs) = .agg (renL f cs) := by simp [ren]
@[simp] theorem ren_tup {cs} : ren f (.tup cs) = .tup (renL f cs) := by simp [ren]
@[simp] theorem renL_nil : renL f [] = [] := by simp [renL]
@[simp] theorem renL_cons {c cs} : renL f (c :: cs) = ren f c :: renL f cs := by simp [renL]
end

/-- A call whose arguments are frozen. -/
def callF (nx : Nat) (r : Option (AV × List Ob)) : Option Eff := match r with
  | none => none
  | some (v, obs) => some ⟨ren (nx + ·) v, [], zipAt nx (obs.map (Ob.ren (nx + ·))), nx + obs.length⟩
def callL (cl : Cl) (f : FuncId) (nx : Nat) (a : Option (List AV)) : Option Eff := match a with
  | none => none
  | some a => callF nx (cl f a [])
@[simp] theorem callL_some {f a} : callL cl f nx (some a) = callF nx (cl f a []) := rfl
@[simp] theorem callF_some {v} : callF nx (some (v, [])) = some ⟨ren (nx + ·) v, [], [], nx⟩ := rfl
@[simp] theorem callF_ite {c : Prop} [Decidable c] {a b} : callF nx (if c then a else b) = if c then callF nx a else callF nx b := by split <;> rfl

theorem clo_nil {n} : clo g n [] = [] := by
  induction n with
  | zero => rfl
  | succ n ih => simpa [clo, addTo] using ih

@[simp] theorem callV_f {f args} (ho : (E f).own = false) (hi : idsL args = []) : callV cl E f args g nx = callL cl f nx (frzL g args) := by
  unfold callV callL callF
  simp only [hi, addTo, clo_nil, ho]
  cases frzL g args with
  | none => simp [closed]
  | some a =>
    cases h : cl f a [] with
    | none => simp [closed, h]
    | some r => simp [closed, h]

/-! Results -/
@[simp] theorem addTo_nil {l} : addTo l [] = l := rfl
@[simp] theorem addTo_cons {l x xs} : addTo l (x :: xs) = if l.contains x then addTo l xs else addTo (l ++ [x]) xs := rfl

def thn (v : Option AV) : Option (AV × List Ob) := match v with
  | none => none
  | some v => some (v, [])
@[simp] theorem thn_some {v} : thn (some v) = some (v, []) := rfl
/-- Nothing came in: what goes out is frozen. -/
@[simp] theorem doneV_f {md v} (hk : md.keep = false) (hi : closed g (clo g 3 (addTo [] (ids v))) = true) : doneV md 0 g v = thn (frz g v) := by
  unfold doneV
  simp only [hk, List.range_zero, clo_nil, hi]
  simp [closed, outOf, thn]
  cases frzW g (bxD g 3) v <;> rfl
end
end Go.Proofs.YtapchldnmkfkoabDoor.Am
