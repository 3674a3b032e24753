import Derived.Test.YtfhglldoejeedaaAmU
namespace Go.Proofs.Ytfhglldoejeedaa.Am
open Go

variable {P : Program}

section
variable {φ : FM} {m : LM} {g gi : Nat → Option Ob} {w w' : World}

theorem wp_value {o : Oper} {a : Act} {v : Value} {next : Act → World → Prop} {Q : Exit → Act → World → Prop} (h : (execOp a.eval o).run P w = .ok (.value v) w') (k : next (a.put o.dst v) w') : o.wp P a w next Q := by
  unfold Oper.wp; rw [h]; exact k

theorem wp_skip' {o : Oper} {a : Act} {next : Act → World → Prop} {Q : Exit → Act → World → Prop} (h : (execOp a.eval o).run P w = .ok .skip w') (k : next (a.put o.dst undef) w') : o.wp P a w next Q := by
  unfold Oper.wp; rw [h]; exact k

theorem run_v {s : Sem Value} {v : Value} (h : s.run P w = .ok v w') : (do pure (Next.value (← s)) : Sem Next).run P w = .ok (.value v) w' := by
  simp [h]

theorem VRL_map {ρ : Operand → AV} {ev : Operand → Value} (h : ∀ x, VR φ m (ρ x) (ev x)) : ∀ xs : List Operand, VRL φ m (xs.map ρ) (xs.map ev)
  | [] => by simp [VRL]
  | x :: xs => by simp only [List.map_cons, VRL]; exact ⟨_, _, rfl, h x, VRL_map h xs⟩

theorem parts_rel {ρ : Operand → AV} {ev : Operand → Value} (h : ∀ x, VR φ m (ρ x) (ev x)) (ps : Array (Nat × Operand)) :
    (ps.toList.map fun p => (p.1, ρ p.2)).map (·.1) = (ps.map fun (i, x) => (i, ev x)).toList.map (·.1) ∧
    ∀ (j : Nat) (p : Nat × AV) (q : Nat × Value), (ps.toList.map fun p => (p.1, ρ p.2))[j]? = some p → (ps.map fun (i, x) => (i, ev x)).toList[j]? = some q → VR φ m p.2 q.2 := by
  refine ⟨?_, fun j p q hp hq => ?_⟩
  · simp [Function.comp_def]
  · simp only [List.getElem?_map, Array.toList_map, Option.map_eq_some_iff] at hp hq
    obtain ⟨a, h1, rfl⟩ := hp
    obtain ⟨b, h2, rfl⟩ := hq
    rw [h1] at h2; cases h2
    exact h _

/-- What a call does, as the abstract machine's oracle says. -/
def CallOK (P : Program) (f : FuncId) (args : List AV) (obs : List Ob) (v : AV) (obs' : List Ob) : Prop :=
  ∀ (φ : FM) (m : LM) (w : World) (cargs : Array Value), VRL φ m args cargs.toList → Inv φ m (fun i => obs[i]?) w → (∀ i, obs.length ≤ i → m i = none) →
    Calls P f cargs w fun e w' => ∃ cv, e = .returned cv ∧ ∃ φ' m', VR φ' m' v cv ∧ Inv φ' m' (fun i => obs'[i]?) w' ∧ Fr φ m (fun i => obs[i]?) w φ' m' (fun i => obs'[i]?) w' ∧ (∀ i, obs'.length ≤ i → m' i = none) ∧ obs.length ≤ obs'.length

def ClS (P : Program) (cl : Cl) : Prop := ∀ f args obs v obs', cl f args obs = some (v, obs') → CallOK P f args obs v obs'

/-- The function that is called has Go code. -/
def Bodied (P : Program) (f : FuncId) : Prop := ∃ fn b, P.funcs[f]? = some fn ∧ fn.body = some b ∧ (fn.name == "runtime.NumGoroutine") = false

/-- What an operation that is no call does. -/
def opn (op : Op) : Bool := match op with
  | .call { callee := .value _, .. } => false
  | _ => true

theorem op_sound {cl : Cl} {E : FuncId → Md} {o : Oper} {ρ : Operand → AV} {nx : Nat} {e : Eff} {a : Act} {next : Act → World → Prop} {Q : Exit → Act → World → Prop}
    (hn : opn o.op = true) (h : opv P cl E o.op ρ gi nx = some e) (hg : ∀ j ∈ e.rd, g j = gi j) (hinv : Inv φ m g w) (hρ : ∀ x, VR φ m (ρ x) (a.eval x))
    (hf : ∀ i, nx ≤ i → i < e.nx → g i = none ∧ m i = none) (k : ∀ cv w', Post φ m g w e cv w' → next (a.put o.dst cv) w') : o.wp P a w next Q := by
  have pv : ∀ {s : Sem Value} {cv : Value}, execOp a.eval o = (do pure (Next.value (← s))) → s.run P w = .ok cv w → VR φ m e.v cv → e.wr = [] → o.wp P a w next Q := by
    intro s cv h1 h2 h3 h4
    refine wp_value (w' := w) (v := cv) (by rw [h1]; exact run_v h2) (k cv w ?_)
    refine ⟨φ, m, h3, ?_, ?_, fun _ _ h => h⟩
    · rw [h4, upd_nil]; exact hinv
    · rw [h4, upd_nil]; exact Fr.refl ..
  have pp : ∀ {s : Sem Value}, execOp a.eval o = (do pure (Next.value (← s))) → (∃ cv w', s.run P w = .ok cv w' ∧ Post φ m g w e cv w') → o.wp P a w next Q := by
    intro s h1 ⟨cv, w', h2, h3⟩
    exact wp_value (by rw [h1]; exact run_v h2) (k cv w' h3)
  have pure' : ∀ {v : AV} {n : Nat}, some e = Eff.pure v n → e.v = v ∧ e.wr = [] := by
    intro v n h; simp only [Eff.pure, Option.some.injEq] at h; subst h; exact ⟨rfl, rfl⟩
  have bnd : ∀ {x : Option AV} {n : Nat}, (x.bind fun v => Eff.pure v n) = some e → ∃ v, x = some v ∧ e.v = v ∧ e.wr = [] := by
    intro x n h
    simp only [Option.bind_eq_some_iff, Eff.pure, Option.some.injEq] at h
    obtain ⟨v, h1, rfl⟩ := h
    exact ⟨v, h1, rfl, rfl⟩
  cases ho : o.op with
  | move x =>
    rw [ho] at h; simp only [opv] at h
    obtain ⟨h1, h2⟩ := pure' h.symm
    exact pv (s := pure (a.eval x)) (cv := a.eval x) (by simp [execOp, ho]) (by simp) (by rw [h1]; exact hρ x) h2
  | assign x =>
    rw [ho] at h; simp only [opv] at h
    obtain ⟨h1, h2⟩ := pure' h.symm
    exact pv (s := pure (a.eval x)) (cv := a.eval x) (by simp [execOp, ho]) (by simp) (by rw [h1]; exact hρ x) h2
  | pick c x y =>
    rw [ho] at h; simp only [opv] at h
    split at h
    · rename_i t ht
      obtain ⟨h1, h2⟩ := pure' h.symm
      have hc := hρ c
      rw [ht] at hc; simp only [VR] at hc
      refine pv (s := pure (if t then a.eval x else a.eval y)) (cv := if t then a.eval x else a.eval y) (by simp [execOp, ho, hc, asBool]) (by simp) ?_ h2
      rw [h1]; cases t
      · exact hρ y
      · exact hρ x
    · cases h
  | alloc t =>
    rw [ho] at h; simp only [opv] at h
    split at h
    · rename_i z hz
      split at h
      · rename_i hb
        simp only [Option.some.injEq] at h; subst h
        obtain ⟨i, zv, hinf, hzv, rfl, hzrun⟩ := zer_run hz w
        obtain ⟨f1, f2⟩ := hf nx (Nat.le_refl _) (by simp)
        obtain ⟨p1, p2, p3⟩ := new_box (t := t) hinv f2 f1 (ofV_cells hb.1) hb.1 hb.2
        refine pp (s := Instr.alloc t true (.tuple #[])) (by simp [execOp, ho]) ⟨.pointer (some ⟨w.heap.size, 0, none⟩), w.alloc (.cells zv.cells t), ?_, _, _, p1, p2, p3, put_new (by simp) (by simp [lkp])⟩
        simp [Instr.alloc, hzrun, newVar, newRow]
      · cases h
    · cases h
  | box t x =>
    rw [ho] at h; simp only [opv] at h
    split at h
    · rename_i hb
      simp only [Option.some.injEq] at h; subst h
      obtain ⟨f1, f2⟩ := hf nx (Nat.le_refl _) (by simp)
      obtain ⟨p1, p2, p3⟩ := new_box (t := t) hinv f2 f1 (VR_cells (hρ x) hb.1) hb.1 hb.2
      refine pp (s := Instr.box t (a.eval x)) (by simp [execOp, ho]) ⟨.pointer (some ⟨w.heap.size, 0, none⟩), w.alloc (.cells (a.eval x).cells t), ?_, _, _, p1, p2, p3, put_new (by simp) (by simp [lkp])⟩
      simp [Instr.box, newVar, newRow]
    · cases h
  | build t parts =>
    rw [ho] at h; simp only [opv] at h
    obtain ⟨v, h1, h2, h3⟩ := bnd h
    obtain ⟨r1, r2⟩ := parts_rel hρ parts
    have : ∃ cv, (Instr.build t (parts.map fun (i, x) => (i, a.eval x))).run P w = .ok cv w ∧ VR φ m v cv := by
      cases ha : isArr P t with
      | true => rw [ha] at h1; exact bldArr_sound (by simpa using h1) r1 r2 w
      | false => rw [ha] at h1; exact bld_sound (by simpa using h1) ha r1 r2 w
    obtain ⟨cv, c1, c2⟩ := this
    exact pv (s := Instr.build t (parts.map fun (i, x) => (i, a.eval x))) (by simp [execOp, ho]) c1 (by rw [h2]; exact c2) h3
  | buildSlice t len parts =>
    rw [ho] at h; simp only [opv] at h
    obtain ⟨r1, r2⟩ := parts_rel hρ parts
    have hnx : nx < e.nx := by
      unfold bslA at h
      (repeat' split at h) <;> first | (cases h; done) | (simp only [Option.some.injEq] at h; subst h; simp)
    obtain ⟨f1, f2⟩ := hf nx (Nat.le_refl _) hnx
    exact pp (s := Instr.buildSlice t len (parts.map fun (i, x) => (i, a.eval x))) (by simp [execOp, ho]) (bsl_sound h hg hinv f1 f2 r1 r2)
  | load t x =>
    rw [ho] at h; simp only [opv] at h
    obtain ⟨cv, c1, c2, c3, _⟩ := ld_sound h hg hinv (hρ x)
    exact pv (s := Instr.loadAt t (a.eval x)) (by simp [execOp, ho]) c1 c2 c3
  | store t x y =>
    rw [ho] at h; simp only [opv] at h
    obtain ⟨w', φ', c1, c2, c3, c4, _⟩ := st_sound h hg hinv (hρ x) (hρ y)
    refine wp_skip' (w' := w') (by simp [execOp, ho, c1]) (k undef w' ⟨φ', m, by rw [c4]; simp [VR], c2, c3, fun _ _ h => h⟩)
  | nilCheck x =>
    rw [ho] at h; simp only [opv] at h
    have hx := hρ x
    have fin : ∀ {b off : Nat}, a.eval x = .pointer (some ⟨b, off, none⟩) → VR φ m e.v (a.eval x) → e.wr = [] → o.wp P a w next Q := by
      intro b off h1 h2 h3
      exact pv (s := pure (a.eval x)) (cv := a.eval x) (by simp [execOp, ho, h1]) (by simp) h2 h3
    split at h
    · rename_i i off t hx'
      split at h
      · rename_i hl
        simp only [Option.some.injEq] at h; subst h
        rw [hx'] at hx
        obtain ⟨l, _, _, _, hc⟩ := live_optr hinv (hg i (by simp)) hl hx
        exact fin hc hx rfl
      · cases h
    · rename_i i ix off t hx'
      split at h
      · rename_i hl
        simp only [Option.some.injEq] at h; subst h
        rw [hx'] at hx
        obtain ⟨l, _, _, _, hc⟩ := live_eptr hinv (hg i (by simp)) hl hx
        exact fin hc hx rfl
      · cases h
    · rename_i cs off hx'
      obtain ⟨h1, h2⟩ := pure' h.symm
      rw [hx'] at hx
      have hx2 := hx
      simp only [VR] at hx2
      obtain ⟨b, o', hc, _⟩ := hx2
      exact fin hc (by rw [h1]; exact hx) h2
    · cases h
  | binOp op t x y t2 =>
    rw [ho] at h; simp only [opv] at h
    obtain ⟨v, h1, h2, h3⟩ := bnd h
    obtain ⟨cv, c1, c2⟩ := bin_sound (P := P) (ox := x) (oy := y) h1 (hρ x) (hρ y) w
    exact pv (s := do eqGuard op t x y (a.eval x) (a.eval y); binOp op t (a.eval x) (a.eval y)) (by simp only [execOp, ho]) c1 (by rw [h2]; exact c2) h3
  | unOp op t x =>
    rw [ho] at h; simp only [opv] at h
    obtain ⟨v, h1, h2, h3⟩ := bnd h
    obtain ⟨cv, c1, c2⟩ := un_sound (P := P) h1 (hρ x) w
    exact pv (s := Op.unary op (a.eval x)) (by simp [execOp, ho]) c1 (by rw [h2]; exact c2) h3
  | convert src dst x =>
    rw [ho] at h; simp only [opv] at h
    obtain ⟨cv, c1, c2, c3, _⟩ := cv_sound h hg hinv (hρ x)
    exact pv (s := convert src dst (a.eval x)) (by simp [execOp, ho]) c1 c2 c3
  | makeFunc fn first cap =>
    rw [ho] at h; simp only [opv] at h
    obtain ⟨h1, h2⟩ := pure' h.symm
    refine pv (s := Instr.makeFunc fn (first.map a.eval) (cap.map a.eval)) (cv := .func fn (first.map a.eval) (cap.map a.eval)) (by simp [execOp, ho]) (by simp [Instr.makeFunc]) ?_ h2
    rw [h1]
    simp only [VR]
    exact ⟨_, _, rfl, by simpa using VRL_map hρ first.toList, by simpa using VRL_map hρ cap.toList⟩
  | makeSlice t l c =>
    rw [ho] at h; simp only [opv] at h
    have hnx : nx < e.nx := by
      unfold mkA at h
      (repeat' split at h) <;> first | (cases h; done) | (simp only [Option.some.injEq] at h; subst h; simp)
    obtain ⟨f1, f2⟩ := hf nx (Nat.le_refl _) hnx
    exact pp (s := Instr.makeSlice t (a.eval l) (a.eval c)) (by simp [execOp, ho]) (mk_sound h hinv f1 f2 (hρ l) (hρ c))
  | slice t x lo hi mx =>
    rw [ho] at h; simp only [opv] at h
    have ov : ∀ q : Option Operand, OV φ m (q.map ρ) (q.map a.eval) := by
      intro q; cases q with
      | none => simp [OV]
      | some q => simp only [Option.map_some, OV]; exact hρ q
    obtain ⟨cv, c1, c2, c3⟩ := slc_sound h hg hinv (hρ x) (ov lo) (ov hi) (ov mx)
    exact pv (s := Instr.sliceAt t (a.eval x) (lo.map a.eval) (hi.map a.eval) (mx.map a.eval)) (by simp [execOp, ho]) c1 c2 c3
  | fieldAddr s x f =>
    rw [ho] at h; simp only [opv] at h
    have hx := hρ x
    split at h
    · rename_i o' ts id off tot hfl hx'
      split at h
      · rename_i hl
        simp only [Option.some.injEq] at h; subst h
        rw [hx'] at hx
        obtain ⟨l, hm, ht, _, hc⟩ := live_optr hinv (hg id (by simp)) hl hx
        refine pv (s := Instr.fieldAt s (a.eval x) f) (by simp [execOp, ho]) (by rw [hc]; exact fieldAt_run hfl _ _ w) ?_ rfl
        simp only [VR]
        exact ⟨rfl, l, hm, ht, fun _ => rfl⟩
      · cases h
    · rename_i o' ts id ix off tot hfl hx'
      split at h
      · rename_i hl
        simp only [Option.some.injEq] at h; subst h
        rw [hx'] at hx
        obtain ⟨l, hm, ht, _, hc⟩ := live_eptr hinv (hg id (by simp)) hl hx
        refine pv (s := Instr.fieldAt s (a.eval x) f) (by simp [execOp, ho]) (by rw [hc]; exact fieldAt_run hfl _ _ w) ?_ rfl
        simp only [VR]
        exact ⟨rfl, l, hm, ht, fun _ => by rw [Nat.add_assoc]⟩
      · cases h
    · rename_i o' ts cs off hfl hx'
      obtain ⟨h1, h2⟩ := pure' h.symm
      rw [hx'] at hx
      simp only [VR] at hx
      obtain ⟨b, o2, hc, hv⟩ := hx
      refine pv (s := Instr.fieldAt s (a.eval x) f) (by simp [execOp, ho]) (by rw [hc]; exact fieldAt_run hfl _ _ w) ?_ h2
      rw [h1]; simp only [VR]
      exact ⟨b, o2, by rw [Nat.add_assoc], hv⟩
    · cases h
  | field s x f =>
    rw [ho] at h; simp only [opv] at h
    have hx := hρ x
    split at h
    · rename_i o' ts cs hfl hx'
      obtain ⟨v, h1, h2, h3⟩ := bnd h
      rw [hx'] at hx
      obtain ⟨cv, c1, c2⟩ := field_run (P := P) hfl hx h1 w
      exact pv (s := Instr.field s (a.eval x) f) (by simp [execOp, ho]) c1 (by rw [h2]; exact c2) h3
    · cases h
  | indexAddr t x i =>
    rw [ho] at h; simp only [opv] at h
    obtain ⟨cv, c1, c2, c3⟩ := ix_sound h hg hinv (hρ x) (hρ i)
    exact pv (s := Instr.indexAt t (a.eval x) (a.eval i)) (by simp [execOp, ho]) c1 c2 c3
  | index t x i =>
    rw [ho] at h; simp only [opv] at h
    obtain ⟨v, h1, h2, h3⟩ := bnd h
    obtain ⟨cv, c1, c2⟩ := idx_sound (P := P) h1 (hρ x) (hρ i) w
    exact pv (s := Instr.index t (a.eval x) (a.eval i)) (by simp [execOp, ho]) c1 (by rw [h2]; exact c2) h3
  | extract t i =>
    rw [ho] at h; simp only [opv] at h
    have hx := hρ t
    split at h
    · rename_i vs hx'
      obtain ⟨v, h1, h2, h3⟩ := bnd h
      rw [hx'] at hx
      simp only [VR] at hx
      obtain ⟨as, hc, hv⟩ := hx
      obtain ⟨cv, c1, c2⟩ := VRL_get hv h1
      refine pv (s := Instr.extract (a.eval t) i) (cv := cv) (by simp [execOp, ho]) ?_ (by rw [h2]; exact c2) h3
      have : as[i]? = some cv := by simpa using c1
      simp [Instr.extract, hc, this]
    · cases h
  | call c =>
    rw [ho] at h; simp only [opv] at h
    cases hcal : c.callee with
    | value f => rw [ho] at hn; obtain ⟨callee, args, tys⟩ := c; simp only at hcal; subst hcal; simp [opn] at hn
    | invoke r n => rw [hcal] at h; cases h
    | builtin b =>
      rw [hcal] at h
      have hres : ∀ {s : Sem Value}, (builtin b c.argTypes o.type (c.args.map fun | .const _ => true | _ => false) (c.args.map a.eval)) = (do pure (Next.value (← s))) → execOp a.eval o = (do pure (Next.value (← s))) := by
        intro s h1
        simp only [execOp, ho, resolve, hcal, pure_bind, invoke]
        exact h1
      have hargs : ∀ {xs : List Operand}, c.args.toList = xs → (c.args.map a.eval) = (xs.map a.eval).toArray := by
        intro xs hxs; rw [← hxs]; apply Array.ext'; simp
      have htys : ∀ {ts : List TypeId}, c.argTypes.toList = ts → c.argTypes = ts.toArray := by
        intro ts hts; rw [← hts]
      cases b with
      | append =>
        simp only at h
        split at h
        · rename_i s x t t2 ha ht
          exact pp (s := Builtin.append_ #[t, t2] o.type #[a.eval s, a.eval x]) (hres (by rw [hargs ha, htys ht]; rfl)) (app_sound h hg hinv (fun hlt => hf nx (Nat.le_refl _) hlt) (hρ s) (hρ x))
        · cases h
      | copy =>
        simp only at h
        split at h
        · rename_i s x t t2 ha ht
          exact pp (s := Builtin.copy_ #[t, t2] o.type #[a.eval s, a.eval x]) (hres (by rw [hargs ha, htys ht]; rfl)) (cpy_sound h hg hinv (hρ s) (hρ x))
        · cases h
      | clear =>
        simp only at h
        split at h
        · rename_i x t ha ht
          exact pp (s := Builtin.clear_ #[t] o.type #[a.eval x]) (hres (by rw [hargs ha, htys ht]; rfl)) (clr_sound h hg hinv (hρ x))
        · cases h
      | len =>
        simp only at h
        split at h
        · rename_i x t ha ht
          obtain ⟨cv, c1, c2, c3⟩ := len_sound (ty := o.type) h hg hinv (hρ x)
          exact pv (s := Builtin.len_ #[t] o.type #[a.eval x]) (hres (by rw [hargs ha, htys ht]; rfl)) c1 c2 c3
        · cases h
      | max =>
        simp only at h
        split at h
        · rename_i x xs ha
          obtain ⟨v, h1, h2, h3⟩ := bnd h
          obtain ⟨cv, c1, c2⟩ := fold_max (P := P) (w := w) h1 (hρ x) (VRL_map hρ xs)
          refine pv (s := Builtin.max_ c.argTypes o.type (c.args.map a.eval)) (cv := cv) (hres rfl) ?_ (by rw [h2]; exact c2) h3
          rw [hargs ha]
          simpa [Builtin.max_] using c1
        · cases h
      | min =>
        simp only at h
        split at h
        · rename_i x xs ha
          obtain ⟨v, h1, h2, h3⟩ := bnd h
          obtain ⟨cv, c1, c2⟩ := fold_min (P := P) (w := w) h1 (hρ x) (VRL_map hρ xs)
          refine pv (s := Builtin.min_ c.argTypes o.type (c.args.map a.eval)) (cv := cv) (hres rfl) ?_ (by rw [h2]; exact c2) h3
          rw [hargs ha]
          simpa [Builtin.min_] using c1
        · cases h
      | _ => cases h
  | _ => rw [ho] at h; simp only [opv] at h; cases h
end
end Go.Proofs.Ytfhglldoejeedaa.Am
