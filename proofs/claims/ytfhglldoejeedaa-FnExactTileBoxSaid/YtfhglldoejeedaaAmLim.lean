import Derived.Test.YtfhglldoejeedaaAmTop
namespace Go.Proofs.Ytfhglldoejeedaa.Am
open Go

/-! ## Without fuel -/
section
variable {α β : Type}

open Classical in
noncomputable def lim (f : Nat → Option α) : Option α := if h : ∃ k r, f k = some r then f h.choose else none

def Mono (f : Nat → Option α) : Prop := ∀ k r, f k = some r → f (k + 1) = some r

theorem Mono.le {f : Nat → Option α} (hm : Mono f) {k j : Nat} {r : α} (h : f k = some r) (hkj : k ≤ j) : f j = some r := by
  induction j with
  | zero => cases Nat.le_zero.1 hkj; exact h
  | succ j ih =>
    rcases Nat.lt_or_ge j k with hlt | hge
    · have : k = j + 1 := by omega
      subst this; exact h
    · exact hm j r (ih hge)

theorem lim_iff {f : Nat → Option α} (hm : Mono f) {r : α} : lim f = some r ↔ ∃ k, f k = some r := by
  unfold lim
  constructor
  · intro h
    split at h
    · exact ⟨_, h⟩
    · cases h
  · rintro ⟨k, h⟩
    have he : ∃ k r, f k = some r := ⟨k, r, h⟩
    rw [dif_pos he]
    obtain ⟨r', h'⟩ := he.choose_spec
    rw [h']
    have h1 := hm.le h (Nat.le_max_left k he.choose)
    have h2 := hm.le h' (Nat.le_max_right k he.choose)
    rw [h1] at h2; exact h2.symm

theorem opt_ext {a b : Option α} (h : ∀ r, a = some r ↔ b = some r) : a = b := by
  cases a with
  | none => cases b with
    | none => rfl
    | some r => exact absurd ((h r).2 rfl) (by simp)
  | some r => exact ((h r).1 rfl).symm

abbrev Q := FuncId × List AV × List Ob × (AV × List Ob)

def Ans (cl : Cl) (q : Q) : Prop := cl q.1 q.2.1 q.2.2.1 = some q.2.2.2

/-- What is computed asks but finitely many calls. -/
def Cont (F : Cl → Option α) : Prop := ∀ cl e, F cl = some e → ∃ qs : List Q, (∀ q ∈ qs, Ans cl q) ∧ ∀ cl', (∀ q ∈ qs, Ans cl' q) → F cl' = some e

theorem Cont.const {o : Option α} : Cont (fun _ => o) := fun _ e h => ⟨[], by simp, fun _ _ => h⟩

theorem Cont.call {f : FuncId} {args : List AV} {obs : List Ob} : Cont (fun cl => cl f args obs) := fun cl e h =>
  ⟨[(f, args, obs, e)], by simpa [Ans] using h, fun cl' h' => h' (f, args, obs, e) (by simp)⟩

theorem Cont.bind {F : Cl → Option α} {G : α → Cl → Option β} (hF : Cont F) (hG : ∀ a, Cont (G a)) : Cont (fun cl => (F cl).bind fun a => G a cl) := by
  intro cl e h
  simp only [Option.bind_eq_some_iff] at h
  obtain ⟨a, h1, h2⟩ := h
  obtain ⟨q1, a1, b1⟩ := hF cl a h1
  obtain ⟨q2, a2, b2⟩ := hG a cl e h2
  refine ⟨q1 ++ q2, fun q hq => ?_, fun cl' h' => ?_⟩
  · rcases List.mem_append.1 hq with h | h
    · exact a1 q h
    · exact a2 q h
  · simp only [b1 cl' (fun q hq => h' q (List.mem_append_left _ hq)), Option.bind_some]
    exact b2 cl' fun q hq => h' q (List.mem_append_right _ hq)

theorem Cont.mono {F : Cl → Option α} (hF : Cont F) {cl cl' : Cl} (hle : ∀ f args obs r, cl f args obs = some r → cl' f args obs = some r) {e : α} (h : F cl = some e) : F cl' = some e := by
  obtain ⟨qs, h1, h2⟩ := hF cl e h
  exact h2 cl' fun q hq => hle _ _ _ _ (h1 q hq)

theorem Cont.of {F : Cl → Option α} (G : Cl → Option α) (h : ∀ cl, F cl = G cl) (hG : Cont G) : Cont F := by
  have : F = G := funext h
  rw [this]; exact hG
end

section
variable {P : Program} {E : FuncId → Md}

theorem cont_callV {f : FuncId} {args : List AV} {g : Nat → Option Ob} {nx : Nat} : Cont (fun cl => callV cl E f args g nx) := by
  unfold callV
  by_cases hc : closed g (clo g 3 (addTo [] (idsL args))) = true
  · simp only [hc, Bool.not_true, Bool.false_eq_true, if_false]
    by_cases ho : (E f).own = true
    · simp only [ho, if_true]
      cases outOf g (clo g 3 (addTo [] (idsL args))) with
      | none => exact Cont.const
      | some sub =>
        refine Cont.of _ (fun cl => ?_) (Cont.bind (Cont.call (f := f) (args := renL (ixOf (clo g 3 (addTo [] (idsL args)))) args) (obs := sub.map (Ob.ren (ixOf (clo g 3 (addTo [] (idsL args))))))) (G := fun r _ =>
          let is := clo g 3 (addTo [] (idsL args))
          let back := fun i => if i < is.length then is.getD i 0 else nx + (i - is.length)
          let obs := r.2.map (Ob.ren back)
          some ⟨ren back r.1, is, zipTo is obs ++ zipAt nx (obs.drop is.length), nx + (obs.length - is.length)⟩) fun _ => Cont.const)
        dsimp only
        cases cl f _ _ <;> rfl
    · simp only [ho]
      cases frzL g args with
      | none => exact Cont.const
      | some args' =>
        refine Cont.of _ (fun cl => ?_) (Cont.bind (Cont.call (f := f) (args := args') (obs := [])) (G := fun r _ =>
          let is := clo g 3 (addTo [] (idsL args))
          match (if is.isEmpty || (plain r.1 && r.2.isEmpty) then some [] else roAll g is) with
          | none => none
          | some ro => some ⟨ren (nx + ·) r.1, is, zipAt nx (r.2.map (Ob.ren (nx + ·))) ++ ro, nx + r.2.length⟩) fun _ => Cont.const)
        dsimp only
        cases cl f _ _ <;> rfl
  · simp only [hc, Bool.not_false, if_true]
    exact Cont.const

theorem cont_opv {op : Op} {ρ : Operand → AV} {g : Nat → Option Ob} {nx : Nat} : Cont (fun cl => opv P cl E op ρ g nx) := by
  cases op <;> try exact Cont.const
  rename_i c
  obtain ⟨callee, args, ats⟩ := c
  unfold opv
  dsimp only
  cases callee with
  | builtin b => cases b <;> exact Cont.const
  | value f =>
    dsimp only
    cases ρ f <;> try exact Cont.const
    rename_i fn first cap
    cases fn <;> try exact Cont.const
    exact cont_callV
  | _ => exact Cont.const

theorem cont_stpE {ops : Array Oper} {o : Oper} {s : St} : Cont (fun cl => stpE P cl E ops o s) := by
  unfold stpE
  cases gdA ops o (lk s.tm) with
  | none => exact Cont.const
  | some b => cases b with
    | false => exact Cont.const
    | true =>
      refine Cont.of _ (fun cl => ?_) (Cont.bind (cont_opv (P := P) (E := E) (op := o.op) (ρ := s.ρ) (g := lkp s.hp) (nx := s.nx)) (G := fun e _ => if s.nx ≤ e.nx then some e else none) fun _ => Cont.const)
      dsimp only
      cases opv P cl E o.op s.ρ (lkp s.hp) s.nx <;> rfl

theorem cont_sq {ops : Array Oper} : ∀ {os : List Oper} {s : St}, Cont (fun cl => sq P cl E ops os s)
  | [], s => Cont.const
  | o :: os, s => by
    refine Cont.of _ (fun cl => ?_) (Cont.bind (cont_stpE (P := P) (E := E) (ops := ops) (o := o) (s := s)) (G := fun e cl => sq P cl E ops os (aft s o e)) fun e => cont_sq)
    simp only [sq]
    cases stpE P cl E ops o s <;> rfl

theorem cont_dr {ops : Array Oper} : ∀ {os : List Oper} {s : St}, Cont (fun cl => dr P cl E ops os s)
  | [], s => Cont.const
  | o :: os, s => by
    refine Cont.of _ (fun cl => ?_) (Cont.bind (cont_stpE (P := P) (E := E) (ops := ops) (o := o) (s := s)) (G := fun e cl => (dr P cl E ops os (aft s o e)).bind fun r => some (r.1, ⟨o, s, e⟩ :: r.2)) fun e => Cont.bind cont_dr fun _ => Cont.const)
    simp only [dr]
    cases stpE P cl E ops o s with
    | none => rfl
    | some e => simp only [Option.bind_some]; cases dr P cl E ops os (aft s o e) <;> rfl

theorem cont_drA {ops : Array Oper} {s : St} : Cont (fun cl => drA P cl E ops s) := by
  refine Cont.of _ (fun cl => ?_) (Cont.bind (cont_dr (P := P) (E := E) (ops := ops) (os := ops.toList) (s := s)) (G := fun r _ => if heapOk (mkPre ops.toList []) (r.2.map Rec.ids) && r.2.all newOk then some r.1 else none) fun _ => Cont.const)
  simp only [drA]
  cases dr P cl E ops ops.toList s <;> rfl

theorem cont_loopN {f : Cl → St → Option (Ex × St)} (hf : ∀ s, Cont (fun cl => f cl s)) : ∀ {k : Nat} {s : St}, Cont (fun cl => loopN (f cl) k s)
  | 0, s => Cont.const
  | k + 1, s => by
    refine Cont.of _ (fun cl => ?_) (Cont.bind (hf s) (G := fun r cl => match r with | (.normal, s') => loopN (f cl) k s' | r => some r) fun r => ?_)
    · simp only [loopN]
      cases h : f cl s with
      | none => rfl
      | some r => obtain ⟨e, s'⟩ := r; cases e <;> rfl
    · obtain ⟨e, s'⟩ := r
      cases e with
      | normal => exact cont_loopN hf
      | exit _ => exact Cont.const
      | ret => exact Cont.const

theorem cont_run {k : Nat} : ∀ {c : Code} {s : St}, Cont (fun cl => run P cl E k c s)
  | .skip, s => by simp only [run]; exact Cont.const
  | .label _, s => by simp only [run]; exact Cont.const
  | .exit _, s => by simp only [run]; exact Cont.const
  | .ret, s => by simp only [run]; exact Cont.const
  | .seq a b, s => by
    refine Cont.of _ (fun cl => ?_) (Cont.bind (cont_run (k := k) (c := a) (s := s)) (G := fun r cl => match r with | (.normal, s') => run P cl E k b s' | r => some r) fun r => ?_)
    · simp only [run]
      cases h : run P cl E k a s with
      | none => rfl
      | some r => obtain ⟨e, s'⟩ := r; cases e <;> rfl
    · obtain ⟨e, s'⟩ := r
      cases e with
      | normal => exact cont_run
      | exit _ => exact Cont.const
      | ret => exact Cont.const
  | .cond c a b, s => by
    simp only [run]
    cases s.ρ c <;> try exact Cont.const
    rename_i t
    cases t
    · simp only [Bool.false_eq_true, if_false]; exact cont_run
    · simp only [if_true]; exact cont_run
  | .block id b, s => by
    refine Cont.of _ (fun cl => ?_) (Cont.bind (cont_run (k := k) (c := b) (s := s)) (G := fun r _ => match r with | (.exit i, s') => if i = id then some (.normal, s') else some (.exit i, s') | r => some r) fun r => Cont.const)
    simp only [run]
    cases h : run P cl E k b s with
    | none => rfl
    | some r => obtain ⟨e, s'⟩ := r; cases e <;> rfl
  | .loop c, s => by
    simp only [run]
    exact cont_loopN fun s => cont_run
  | .region _ ops d, s => by
    cases d with
    | true =>
      refine Cont.of _ (fun cl => ?_) (Cont.bind (cont_drA (P := P) (E := E) (ops := ops) (s := s)) (G := fun r _ => some (Ex.normal, r)) fun _ => Cont.const)
      simp only [run, if_true]
      cases drA P cl E ops s <;> rfl
    | false =>
      refine Cont.of _ (fun cl => ?_) (Cont.bind (cont_sq (P := P) (E := E) (ops := ops) (os := ops.toList) (s := s)) (G := fun r _ => some (Ex.normal, r)) fun _ => Cont.const)
      simp only [run, Bool.false_eq_true, if_false]
      cases sq P cl E ops ops.toList s <;> rfl
  | .goto .., s => by simp only [run]; exact Cont.const
  | .refuse .., s => by simp only [run]; exact Cont.const
  | .rangeFunc .., s => by simp only [run]; exact Cont.const
  | .scope .., s => by simp only [run]; exact Cont.const

theorem cont_bodyF {k : Nat} {f : FuncId} {fn : Func} {args : List AV} {obs : List Ob} : Cont (fun cl => bodyF P cl E k f fn args obs) := by
  unfold bodyF
  cases fn.body with
  | none => exact Cont.const
  | some b =>
    dsimp only
    by_cases hl : args.length ≤ fn.ntmps
    · simp only [hl, if_true]
      refine Cont.of _ (fun cl => ?_) (Cont.bind (cont_run (P := P) (E := E) (k := k) (c := b) (s := startS args obs)) (G := fun r _ => match r with
        | (.exit _, _) => none
        | (_, s) => match resV P fn s with
          | none => none
          | some v => doneV (E f) obs.length (lkp s.hp) v) fun r => ?_)
      · cases run P cl E k b (startS args obs) with
        | none => rfl
        | some r => obtain ⟨e, s⟩ := r; cases e <;> rfl
      · exact Cont.const
    · simp only [hl, if_false]; exact Cont.const

theorem mono_loopN {f f' : St → Option (Ex × St)} (h : ∀ s r, f s = some r → f' s = some r) : ∀ {k : Nat} {s : St} {r : Ex × St}, loopN f k s = some r → loopN f' (k + 1) s = some r
  | 0, s, r, hr => by simp [loopN] at hr
  | k + 1, s, r, hr => by
    simp only [loopN] at hr
    rw [loopN]
    cases hs : f s with
    | none => rw [hs] at hr; cases hr
    | some x =>
      rw [hs] at hr
      rw [h s x hs]
      obtain ⟨e, s'⟩ := x
      cases e with
      | normal => exact mono_loopN h hr
      | exit _ => exact hr
      | ret => exact hr

theorem mono_run {cl : Cl} {k : Nat} : ∀ {c : Code} {s : St} {r : Ex × St}, run P cl E k c s = some r → run P cl E (k + 1) c s = some r
  | .skip, s, r, h => by simpa only [run] using h
  | .label _, s, r, h => by simpa only [run] using h
  | .exit _, s, r, h => by simpa only [run] using h
  | .ret, s, r, h => by simpa only [run] using h
  | .seq a b, s, r, h => by
    simp only [run] at h ⊢
    cases hs : run P cl E k a s with
    | none => rw [hs] at h; cases h
    | some x =>
      rw [hs] at h
      rw [mono_run hs]
      obtain ⟨e, s'⟩ := x
      cases e with
      | normal => exact mono_run h
      | exit _ => exact h
      | ret => exact h
  | .cond c a b, s, r, h => by
    simp only [run] at h ⊢
    cases hc : s.ρ c <;> rw [hc] at h <;> try (cases h; done)
    rename_i t
    cases t
    · simp only [Bool.false_eq_true, if_false] at h ⊢; exact mono_run h
    · simp only [if_true] at h ⊢; exact mono_run h
  | .block id b, s, r, h => by
    simp only [run] at h ⊢
    cases hs : run P cl E k b s with
    | none => rw [hs] at h; cases h
    | some x => rw [hs] at h; rw [mono_run hs]; exact h
  | .loop c, s, r, h => by
    simp only [run] at h ⊢
    exact mono_loopN (fun s r h => mono_run h) h
  | .region _ ops d, s, r, h => by simpa only [run] using h
  | .goto .., s, r, h => by simp only [run] at h; cases h
  | .refuse .., s, r, h => by simp only [run] at h; cases h
  | .rangeFunc .., s, r, h => by simp only [run] at h; cases h
  | .scope .., s, r, h => by simp only [run] at h; cases h

noncomputable def runI (P : Program) (cl : Cl) (E : FuncId → Md) (c : Code) (s : St) : Option (Ex × St) := lim fun k => run P cl E k c s

theorem runI_iff {cl : Cl} {c : Code} {s : St} {r : Ex × St} : runI P cl E c s = some r ↔ ∃ k, run P cl E k c s = some r := lim_iff (f := fun k => run P cl E k c s) fun _ _ h => mono_run h

section
variable {cl : Cl}

theorem runI_const {c : Code} {s : St} {o : Option (Ex × St)} (h : ∀ k, run P cl E k c s = o) : runI P cl E c s = o := opt_ext fun r => by
  rw [runI_iff]; simp only [h]; exact ⟨fun ⟨_, h⟩ => h, fun h => ⟨0, h⟩⟩

theorem runI_skip {s : St} : runI P cl E .skip s = some (.normal, s) := runI_const fun _ => by simp only [run]
theorem runI_label {l} {s : St} : runI P cl E (.label l) s = some (.normal, s) := runI_const fun _ => by simp only [run]
theorem runI_exit {id} {s : St} : runI P cl E (.exit id) s = some (.exit id, s) := runI_const fun _ => by simp only [run]
theorem runI_ret {s : St} : runI P cl E .ret s = some (.ret, s) := runI_const fun _ => by simp only [run]
theorem runI_region {p} {ops : Array Oper} {d : Bool} {s : St} : runI P cl E (.region p ops d) s = (if d then drA P cl E ops s else sq P cl E ops ops.toList s).map (Ex.normal, ·) := runI_const fun _ => by simp only [run]

/-- What comes behind. -/
def andThen (r : Option (Ex × St)) (k : St → Option (Ex × St)) : Option (Ex × St) := match r with
  | some (.normal, s) => k s
  | r => r

theorem runI_seq {a b : Code} {s : St} : runI P cl E (.seq a b) s = andThen (runI P cl E a s) (runI P cl E b) := opt_ext fun r => by
  constructor
  · intro h
    obtain ⟨k, h⟩ := runI_iff.1 h
    simp only [run] at h
    cases hs : run P cl E k a s with
    | none => rw [hs] at h; cases h
    | some x =>
      rw [hs] at h
      rw [runI_iff.2 ⟨k, hs⟩]
      obtain ⟨e, s'⟩ := x
      cases e with
      | normal => exact runI_iff.2 ⟨k, h⟩
      | exit _ => exact h
      | ret => exact h
  · intro h
    cases hs : runI P cl E a s with
    | none => rw [hs] at h; cases h
    | some x =>
      rw [hs] at h
      obtain ⟨k, hk⟩ := runI_iff.1 hs
      obtain ⟨e, s'⟩ := x
      cases e with
      | normal =>
        obtain ⟨j, hj⟩ := runI_iff.1 h
        refine runI_iff.2 ⟨max k j, ?_⟩
        have h1 := Mono.le (f := fun k => run P cl E k a s) (fun _ _ h => mono_run h) hk (Nat.le_max_left k j)
        have h2 := Mono.le (f := fun k => run P cl E k b s') (fun _ _ h => mono_run h) hj (Nat.le_max_right k j)
        simp only [run]
        rw [h1]; exact h2
      | exit _ => refine runI_iff.2 ⟨k, ?_⟩; simp only [run]; rw [hk]; exact h
      | ret => refine runI_iff.2 ⟨k, ?_⟩; simp only [run]; rw [hk]; exact h

theorem runI_cond {c : Operand} {a b : Code} {s : St} : runI P cl E (.cond c a b) s = match s.ρ c with
    | .bool t => if t then runI P cl E a s else runI P cl E b s
    | _ => none := by
  cases hc : s.ρ c <;> try (refine runI_const fun k => ?_; simp only [run, hc]; done)
  rename_i t
  cases t <;> (refine opt_ext fun r => ?_; simp [runI_iff, run, hc])

theorem runI_block {id : Nat} {b : Code} {s : St} : runI P cl E (.block id b) s = match runI P cl E b s with
    | some (.exit i, s') => if i = id then some (.normal, s') else some (.exit i, s')
    | r => r := opt_ext fun r => by
  constructor
  · intro h
    obtain ⟨k, h⟩ := runI_iff.1 h
    simp only [run] at h
    cases hs : run P cl E k b s with
    | none => rw [hs] at h; cases h
    | some x => rw [hs] at h; rw [runI_iff.2 ⟨k, hs⟩]; exact h
  · intro h
    cases hs : runI P cl E b s with
    | none => rw [hs] at h; cases h
    | some x =>
      rw [hs] at h
      obtain ⟨k, hk⟩ := runI_iff.1 hs
      refine runI_iff.2 ⟨k, ?_⟩
      simp only [run]; rw [hk]; exact h

theorem runI_loop {c : Code} {s : St} : runI P cl E (.loop c) s = andThen (runI P cl E c s) (runI P cl E (.loop c)) := opt_ext fun r => by
  constructor
  · intro h
    obtain ⟨k, h⟩ := runI_iff.1 h
    simp only [run] at h
    cases k with
    | zero => simp [loopN] at h
    | succ k =>
      simp only [loopN] at h
      cases hs : run P cl E (k + 1) c s with
      | none => rw [hs] at h; cases h
      | some x =>
        rw [hs] at h
        rw [runI_iff.2 ⟨_, hs⟩]
        obtain ⟨e, s'⟩ := x
        cases e with
        | normal =>
          refine runI_iff.2 ⟨k + 1, ?_⟩
          simp only [run]
          exact mono_loopN (f := run P cl E (k + 1) c) (fun _ _ h => h) h
        | exit _ => exact h
        | ret => exact h
  · intro h
    cases hs : runI P cl E c s with
    | none => rw [hs] at h; cases h
    | some x =>
      rw [hs] at h
      obtain ⟨k, hk⟩ := runI_iff.1 hs
      obtain ⟨e, s'⟩ := x
      cases e with
      | normal =>
        obtain ⟨j, hj⟩ := runI_iff.1 h
        refine runI_iff.2 ⟨max k j + 1, ?_⟩
        have h1 := Mono.le (f := fun k => run P cl E k c s) (fun _ _ h => mono_run h) hk (show k ≤ max k j + 1 by omega)
        have h2 := Mono.le (f := fun k => run P cl E k (.loop c) s') (fun _ _ h => mono_run h) hj (show j ≤ max k j by omega)
        simp only [run, loopN]
        rw [h1]
        simp only [run] at h2
        have h3 := mono_loopN (f := run P cl E (max k j) c) (f' := run P cl E (max k j + 1) c) (fun _ _ h => mono_run h) h2
        -- one turn more than is needed
        have key : ∀ {f : St → Option (Ex × St)} (n : Nat) {s : St} {r : Ex × St}, loopN f n s = some r → loopN f (n + 1) s = some r := fun n _ _ h => mono_loopN (fun _ _ h => h) h
        have h4 : loopN (run P cl E (max k j + 1) c) (max k j) s' = some r := by
          have aux : ∀ {f f' : St → Option (Ex × St)} (h : ∀ s r, f s = some r → f' s = some r) (k : Nat) {s : St} {r : Ex × St}, loopN f k s = some r → loopN f' k s = some r := by
            intro f f' hff k
            induction k with
            | zero => intro s r h; simp [loopN] at h
            | succ k ih =>
              intro s r h
              simp only [loopN] at h ⊢
              cases hs : f s with
              | none => rw [hs] at h; cases h
              | some x =>
                rw [hs] at h; rw [hff s x hs]
                obtain ⟨e, s'⟩ := x
                cases e with
                | normal => exact ih h
                | exit _ => exact h
                | ret => exact h
          exact aux (fun _ _ h => mono_run h) _ h2
        exact h4
      | exit _ =>
        refine runI_iff.2 ⟨k + 1, ?_⟩
        simp only [run, loopN]; rw [mono_run hk]; exact h
      | ret =>
        refine runI_iff.2 ⟨k + 1, ?_⟩
        simp only [run, loopN]; rw [mono_run hk]; exact h
end

noncomputable def bodyI (P : Program) (cl : Cl) (E : FuncId → Md) (f : FuncId) (fn : Func) (args : List AV) (obs : List Ob) : Option (AV × List Ob) :=
  match fn.body with
  | none => none
  | some b =>
    if args.length ≤ fn.ntmps then
      match runI P cl E b (startS args obs) with
      | some (.exit _, _) | none => none
      | some (_, s) => match resV P fn s with
        | none => none
        | some v => doneV (E f) obs.length (lkp s.hp) v
    else none

theorem bodyI_iff {cl : Cl} {f : FuncId} {fn : Func} {args : List AV} {obs : List Ob} {r : AV × List Ob} : bodyI P cl E f fn args obs = some r ↔ ∃ k, bodyF P cl E k f fn args obs = some r := by
  unfold bodyI bodyF
  cases fn.body with
  | none => simp
  | some b =>
    dsimp only
    by_cases hl : args.length ≤ fn.ntmps
    · simp only [hl, if_true]
      constructor
      · intro h
        cases hs : runI P cl E b (startS args obs) with
        | none => rw [hs] at h; cases h
        | some x =>
          obtain ⟨k, hk⟩ := runI_iff.1 hs
          rw [hs] at h
          exact ⟨k, by rw [hk]; exact h⟩
      · rintro ⟨k, h⟩
        cases hs : run P cl E k b (startS args obs) with
        | none => rw [hs] at h; cases h
        | some x =>
          rw [hs] at h
          rw [runI_iff.2 ⟨k, hs⟩]; exact h
    · simp [hl]

theorem mono_bodyF {cl : Cl} {k : Nat} {f : FuncId} {fn : Func} {args : List AV} {obs : List Ob} {r : AV × List Ob} (h : bodyF P cl E k f fn args obs = some r) : bodyF P cl E (k + 1) f fn args obs = some r := by
  unfold bodyF at h ⊢
  cases hb : fn.body with
  | none => rw [hb] at h; cases h
  | some b =>
    rw [hb] at h
    dsimp only at h ⊢
    by_cases hl : args.length ≤ fn.ntmps
    · simp only [hl, if_true] at h ⊢
      cases hs : run P cl E k b (startS args obs) with
      | none => rw [hs] at h; cases h
      | some x => rw [hs] at h; rw [mono_run hs]; exact h
    · simp [hl] at h

theorem mono_callK {X : Xt} : ∀ {k : Nat} {f : FuncId} {args : List AV} {obs : List Ob} {r : AV × List Ob}, callK P E X k f args obs = some r → callK P E X (k + 1) f args obs = some r
  | 0, f, args, obs, r, h => by simp [callK] at h
  | k + 1, f, args, obs, r, h => by
    simp only [callK.eq_2] at h ⊢
    cases hx : X f with
    | some x => rw [hx] at h; exact h
    | none =>
      rw [hx] at h
      cases hf : P.funcs[f]? with
      | none => rw [hf] at h; cases h
      | some fn =>
        rw [hf] at h
        dsimp only at h ⊢
        by_cases hc : chkF fn = true
        · simp only [hc, if_true] at h ⊢
          exact mono_bodyF (cont_bodyF.mono (fun f args obs r h => mono_callK h) h)
        · simp [hc] at h

noncomputable def callI (P : Program) (E : FuncId → Md) (X : Xt) : Cl := fun f args obs => lim fun k => callK P E X k f args obs

theorem callI_iff {X : Xt} {f : FuncId} {args : List AV} {obs : List Ob} {r : AV × List Ob} : callI P E X f args obs = some r ↔ ∃ k, callK P E X k f args obs = some r := lim_iff (f := fun k => callK P E X k f args obs) fun _ _ h => mono_callK h

theorem callI_x {X : Xt} {f : FuncId} {args : List AV} {obs : List Ob} {x} (hx : X f = some x) : callI P E X f args obs = x args obs := opt_ext fun r => by
  rw [callI_iff]
  constructor
  · rintro ⟨k, h⟩
    cases k with
    | zero => simp [callK] at h
    | succ k => simpa [callK, hx] using h
  · intro h; exact ⟨1, by simpa [callK, hx] using h⟩

theorem callI_body {X : Xt} {f : FuncId} {fn : Func} {args : List AV} {obs : List Ob} (hx : X f = none) (hf : P.funcs[f]? = some fn) (hc : chkF fn = true) : callI P E X f args obs = bodyI P (callI P E X) E f fn args obs := opt_ext fun r => by
  rw [callI_iff, bodyI_iff]
  constructor
  · rintro ⟨k, h⟩
    cases k with
    | zero => simp [callK] at h
    | succ k =>
      simp only [callK, hx, hf, hc, if_true] at h
      exact ⟨k, cont_bodyF.mono (fun f args obs r h => callI_iff.2 ⟨k, h⟩) h⟩
  · rintro ⟨k, h⟩
    obtain ⟨qs, h1, h2⟩ := cont_bodyF (P := P) (E := E) (k := k) (f := f) (fn := fn) (args := args) (obs := obs) _ _ h
    have hK : ∃ K, k ≤ K ∧ ∀ q ∈ qs, Ans (callK P E X K) q := by
      clear h h2
      induction qs with
      | nil => exact ⟨k, Nat.le_refl _, by simp⟩
      | cons q qs ih =>
        obtain ⟨K, hk, hK⟩ := ih fun q hq => h1 q (List.mem_cons_of_mem _ hq)
        obtain ⟨j, hj⟩ := callI_iff.1 (h1 q List.mem_cons_self)
        refine ⟨max K j, by omega, fun q' hq' => ?_⟩
        rcases List.mem_cons.1 hq' with rfl | hq'
        · exact Mono.le (f := fun k => callK P E X k q'.1 q'.2.1 q'.2.2.1) (fun _ _ h => mono_callK h) hj (Nat.le_max_right _ _)
        · exact Mono.le (f := fun k => callK P E X k q'.1 q'.2.1 q'.2.2.1) (fun _ _ h => mono_callK h) (hK q' hq') (Nat.le_max_left _ _)
    obtain ⟨K, hk, hK⟩ := hK
    have h3 := h2 _ hK
    refine ⟨K + 1, ?_⟩
    simp only [callK, hx, hf, hc, if_true]
    exact Mono.le (f := fun k => bodyF P (callK P E X K) E k f fn args obs) (fun _ _ h => mono_bodyF h) h3 hk

theorem callI_sound {X : Xt} (hX : XtS P X) (hm : P.follows .mixedOrders = true) : ClS' P (callI P E X) := fun f args obs v obs' h => by
  obtain ⟨k, h⟩ := callI_iff.1 h
  exact callK_sound hX hm k f args obs v obs' h
end
end Go.Proofs.Ytfhglldoejeedaa.Am
