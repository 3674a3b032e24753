import Derived.Test.YtfhglldoejeedaaAmY
namespace Go.Proofs.Ytfhglldoejeedaa.Am
open Go

variable {P : Program}

/-! ## Operations with calls -/
section
variable {φ : FM} {m : LM} {g gi : Nat → Option Ob} {w w' : World}

theorem op_all {cl : Cl} {E : FuncId → Md} {o : Oper} {ρ : Operand → AV} {nx : Nat} {e : Eff} {a : Act} {next : Act → World → Prop} {Q : Exit → Act → World → Prop}
    (hcl : ClS' P cl) (h : opv P cl E o.op ρ gi nx = some e) (hg : ∀ j ∈ e.rd, g j = gi j) (hinv : Inv φ m g w) (hρ : ∀ x, VR φ m (ρ x) (a.eval x))
    (hf : ∀ i, nx ≤ i → i < e.nx → g i = none ∧ m i = none) (k : ∀ cv w', Post φ m g w e cv w' → next (a.put o.dst cv) w') : o.wp P a w next Q := by
  by_cases hn : opn o.op = true
  · exact op_sound hn h hg hinv hρ hf k
  · unfold opn at hn
    split at hn
    · rename_i f args tys ho
      rw [ho] at h
      simp only [opv] at h
      split at h
      · rename_i f' first cap hfv
        have hx := hρ f
        rw [hfv] at hx
        simp only [VR] at hx
        obtain ⟨fv, cw, he, h1, h2⟩ := hx
        have hargs : VRL φ m (first ++ args.toList.map ρ ++ cap) ((fv ++ args.map a.eval) ++ cw).toList := by
          simp only [Array.toList_append, Array.toList_map]
          exact VRL_append (VRL_append h1 (VRL_map hρ _)) h2
        obtain ⟨⟨fn, b, hb1, hb2, hb3⟩, hcalls⟩ := call_sound h hcl hg hinv hargs hf
        have hrun : (execOp a.eval o).run P w = .ok (.enter f' ((fv ++ args.map a.eval) ++ cw)) w := by
          simp only [execOp, ho, resolve, he, Deferred.ofValue, pure_bind, invoke, callFunc, Sem.run_bind, run_program, Result.andThen_ok, hb1, hb3, hb2]
          rfl
        unfold Oper.wp
        rw [hrun]
        refine Calls.mono hcalls fun ee w' => ?_
        rintro ⟨cv, rfl, hp⟩
        exact k cv w' hp
      · cases h
    · exact absurd rfl hn
end

/-! ## Runs -/
structure St where
  tm : List (Nat × AV)
  hp : Hp
  nx : Nat

def rho (tm : Nat → AV) : Operand → AV
  | .tmp t => tm t
  | .const v => ofV v
  | .global _ => .any
  | .func f => .func (.func f) [] []

def St.ρ (s : St) : Operand → AV
  | .tmp t => lk s.tm t
  | .const v => ofV v
  | .global _ => .any
  | .func f => .func (.func f) [] []

theorem St.ρ_eq (s : St) : s.ρ = rho (lk s.tm) := by funext x; cases x <;> rfl

def putT (tm : List (Nat × AV)) (dst : Option Tmp) (v : AV) : List (Nat × AV) := match dst with
  | some d => (d, v) :: tm
  | none => tm

def gdA (ops : Array Oper) (o : Oper) (tm : Nat → AV) : Option Bool := match o.guard with
  | none => some true
  | some (j, want) => match (ops[j]?).bind (·.dst) with
    | some d => match tm d with
      | .bool b => some (b == want)
      | _ => none
    | none => none

/-- One operation: what it gives, and what it does to the heap. -/
def stpE (P : Program) (cl : Cl) (E : FuncId → Md) (ops : Array Oper) (o : Oper) (s : St) : Option Eff :=
  match gdA ops o (lk s.tm) with
  | none => none
  | some false => some ⟨.any, [], [], s.nx⟩
  | some true => match opv P cl E o.op s.ρ (lkp s.hp) s.nx with
    | none => none
    | some e => if s.nx ≤ e.nx then some e else none

def aft (s : St) (o : Oper) (e : Eff) : St := ⟨putT s.tm o.dst e.v, e.wr ++ s.hp, e.nx⟩

def sq (P : Program) (cl : Cl) (E : FuncId → Md) (ops : Array Oper) : List Oper → St → Option St
  | [], s => some s
  | o :: os, s => match stpE P cl E ops o s with
    | none => none
    | some e => sq P cl E ops os (aft s o e)

/-- The states of a run, in order. -/
structure Rec where
  o : Oper
  s : St
  e : Eff

def dr (P : Program) (cl : Cl) (E : FuncId → Md) (ops : Array Oper) : List Oper → St → Option (St × List Rec)
  | [], s => some (s, [])
  | o :: os, s => match stpE P cl E ops o s with
    | none => none
    | some e => match dr P cl E ops os (aft s o e) with
      | none => none
      | some (s', rs) => some (s', ⟨o, s, e⟩ :: rs)

structure SR (P : Program) (n : Nat) (φ : FM) (m : LM) (s : St) (a : Act) (w : World) : Prop where
  sz : a.tmps.size = n
  vr : ∀ t, VR φ m (lk s.tm t) (a.tmps.getD t undef)
  inv : Inv φ m (lkp s.hp) w
  fr : ∀ i, s.nx ≤ i → m i = none
  df : a.defers = []

theorem put_df (a : Act) (dst : Option Tmp) (v : Value) : (a.put dst v).defers = a.defers := by cases dst <;> rfl

theorem rho_VR {φ : FM} {m : LM} {tm : Nat → AV} {a : Act} (h : ∀ t, VR φ m (tm t) (a.tmps.getD t undef)) : ∀ x, VR φ m (rho tm x) (a.eval x)
  | .tmp t => h t
  | .const v => ofV_VR φ m v
  | .global _ => by simp [rho, VR]
  | .func f => by simp [rho, VR, VRL, Act.eval]

theorem put_VR {φ φ' : FM} {m m' : LM} {tm : Nat → AV} {a : Act} {n : Nat} {dst : Option Tmp} {v : AV} {cv : Value} (hsz : a.tmps.size = n) (hd : ∀ d, dst = some d → d < n)
    (h : ∀ t, VR φ m (tm t) (a.tmps.getD t undef)) (hφ : φ.le φ') (hm : Ext m m') (hv : VR φ' m' v cv) :
    (a.put dst cv).tmps.size = n ∧ ∀ t, VR φ' m' (match dst with | some d => if d = t then v else tm t | none => tm t) ((a.put dst cv).tmps.getD t undef) := by
  cases dst with
  | none => exact ⟨hsz, fun t => VR.mono hφ _ hm (h t)⟩
  | some d =>
    refine ⟨by simpa [Act.put] using hsz, fun t => ?_⟩
    simp only [Act.put]
    by_cases e : d = t
    · subst e
      have : d < a.tmps.size := by rw [hsz]; exact hd d rfl
      simpa [this] using hv
    · have := VR.mono hφ (m' := m') _ hm (h t)
      simpa [e, Array.getElem?_setIfInBounds_ne e] using this

theorem lk_putT (tm : List (Nat × AV)) (dst : Option Tmp) (v : AV) (t : Nat) : lk (putT tm dst v) t = match dst with | some d => if d = t then v else lk tm t | none => lk tm t := by
  cases dst with
  | none => rfl
  | some d =>
    simp only [putT, lk, lkp]
    split <;> rfl

theorem yield_of {φ : FM} {m : LM} {tm : Nat → AV} {a : Act} {ops : Array Oper} {o : Oper} {b : Bool} (h : ∀ t, VR φ m (tm t) (a.tmps.getD t undef)) (hg : gdA ops o tm = some b) :
    Region.wanted o (yielded ops a.tmps) = b := by
  unfold gdA at hg
  unfold Region.wanted
  split at hg
  · rename_i h0; cases hg; rw [h0]
  · rename_i j want h0
    rw [h0]
    simp only
    split at hg
    · rename_i d hd
      split at hg
      · rename_i b' hb
        cases hg
        have := h d
        rw [hb] at this
        simp only [VR] at this
        have hq : a.tmps[d]? = some (.bool b') := by
          cases hx : a.tmps[d]? with
          | none => simp [Array.getD_eq_getD_getElem?, hx, undef] at this
          | some u => simp [Array.getD_eq_getD_getElem?, hx] at this; rw [this]
        unfold yielded
        rw [hd]
        simp [hq]
      · cases hg
    · cases hg

/-- One operation of a region, in a state that may lie at some other place of the region than the machine's own. -/
theorem stp_sound {cl : Cl} {E : FuncId → Md} {ops : Array Oper} {o : Oper} {i : Nat} {s : St} {e : Eff} {n : Nat} {φ : FM} {m : LM} {tm : Nat → AV} {g : Nat → Option Ob} {a : Act} {w : World}
    {K : Act → World → Prop} {Q : Exit → Act → World → Prop} (hcl : ClS' P cl) (ho : ops[i]? = some o) (h : stpE P cl E ops o s = some e)
    (hgd : gdA ops o tm = gdA ops o (lk s.tm)) (hop : opv P cl E o.op (rho tm) (lkp s.hp) s.nx = opv P cl E o.op s.ρ (lkp s.hp) s.nx)
    (hg : ∀ j ∈ e.rd, g j = lkp s.hp j) (hsz : a.tmps.size = n) (hd : ∀ d, o.dst = some d → d < n) (hv : ∀ t, VR φ m (tm t) (a.tmps.getD t undef)) (hinv : Inv φ m g w)
    (hf : ∀ i, s.nx ≤ i → i < e.nx → g i = none ∧ m i = none)
    (k : ∀ cv w', Post φ m g w e cv w' → K (a.put o.dst cv) w') : wpOp P ops Q i K a w := by
  unfold wpOp
  rw [ho]
  simp only
  unfold stpE at h
  split at h
  · cases h
  · rename_i hgd'
    simp only [Option.some.injEq] at h; subst h
    rw [yield_of hv (hgd.trans hgd')]
    simp only [Bool.false_eq_true, if_false]
    exact k undef w ⟨φ, m, by simp [VR], by rw [upd_nil]; exact hinv, by rw [upd_nil]; exact Fr.refl .., fun _ _ h => h⟩
  · rename_i hgd'
    rw [yield_of hv (hgd.trans hgd')]
    simp only [if_true]
    split at h
    · cases h
    · rename_i e' he
      split at h
      · simp only [Option.some.injEq] at h; subst h
        exact .inl (op_all hcl (hop.trans he) hg hinv (rho_VR hv) hf k)
      · cases h

theorem aft_hp (s : St) (o : Oper) (e : Eff) : lkp (aft s o e).hp = upd (lkp s.hp) e.wr := by
  funext i
  simp only [aft, lkp_append, upd]
  cases lkp e.wr i <;> rfl

theorem stpE_nx {cl : Cl} {E : FuncId → Md} {ops : Array Oper} {o : Oper} {s : St} {e : Eff} (h : stpE P cl E ops o s = some e) : s.nx ≤ e.nx := by
  unfold stpE at h
  split at h
  · cases h
  · cases h; exact Nat.le_refl _
  · split at h
    · cases h
    · split at h
      · rename_i hle; cases h; exact hle
      · cases h

theorem Inv.free {φ : FM} {m : LM} {g : Nat → Option Ob} {w : World} (h : Inv φ m g w) {i : Nat} (hm : m i = Option.none) : g i = Option.none := by
  cases hg : g i with
  | none => rfl
  | some ob => obtain ⟨l, h1, _⟩ := h.own i ob hg; rw [hm] at h1; cases h1

/-- A state, and where it came from. -/
def Rel (P : Program) (n : Nat) (φ0 : FM) (m0 : LM) (g0 : Nat → Option Ob) (w0 : World) (s : St) (a : Act) (w : World) : Prop :=
  ∃ φ m, SR P n φ m s a w ∧ Fr φ0 m0 g0 w0 φ m (lkp s.hp) w

theorem rel_step {n : Nat} {φ0 : FM} {m0 : LM} {g0 : Nat → Option Ob} {w0 : World} {s : St} {a : Act} {w : World} {φ : FM} {m : LM} {o : Oper} {e : Eff} {cv : Value} {w' : World}
    (h : SR P n φ m s a w) (hF : Fr φ0 m0 g0 w0 φ m (lkp s.hp) w) (hd : ∀ d, o.dst = some d → d < n) (hnx : s.nx ≤ e.nx) (hp : Post φ m (lkp s.hp) w e cv w') :
    Rel P n φ0 m0 g0 w0 (aft s o e) (a.put o.dst cv) w' := by
  obtain ⟨φ', m', p1, p2, p3, p4⟩ := hp
  obtain ⟨q1, q2⟩ := put_VR h.sz hd h.vr p3.φle p3.ext p1
  refine ⟨φ', m', ⟨q1, fun t => ?_, by rw [aft_hp]; exact p2, fun i hi => p4 i (.inl hi) (h.fr i (Nat.le_trans hnx hi)), by rw [put_df]; exact h.df⟩, by rw [aft_hp]; exact hF.trans p3⟩
  show VR φ' m' (lk (putT s.tm o.dst e.v) t) _
  rw [lk_putT]; exact q2 t

theorem sq_sound {cl : Cl} {E : FuncId → Md} {ops : Array Oper} {n : Nat} {φ0 : FM} {m0 : LM} {g0 : Nat → Option Ob} {w0 : World} {Q : Exit → Act → World → Prop} (hcl : ClS' P cl)
    (hd : ∀ o ∈ ops.toList, ∀ d, o.dst = some d → d < n) : ∀ (os : List Oper) (k : Nat) {s s' : St} {a : Act} {w : World}, ops.toList.drop k = os → sq P cl E ops os s = some s' →
    Rel P n φ0 m0 g0 w0 s a w → (∀ a w, Rel P n φ0 m0 g0 w0 s' a w → Q .normal a w) → wpOps P ops Q (List.range' k os.length) a w
  | [], k, s, s', a, w, _, h, hr, hq => by
    simp only [sq, Option.some.injEq] at h; subst h
    simpa [wpOps] using hq a w hr
  | o :: os, k, s, s', a, w, hk, h, hr, hq => by
    simp only [sq] at h
    split at h
    · cases h
    rename_i e he
    have hko : ops.toList[k]? = some o := by
      have : (ops.toList.drop k)[0]? = some o := by rw [hk]; rfl
      simpa using this
    have hko' : ops[k]? = some o := by simpa using hko
    simp only [List.length_cons, List.range'_succ]
    rw [wpOps_cons]
    obtain ⟨φ, m, h1, h2⟩ := hr
    have hnx := stpE_nx he
    refine stp_sound hcl hko' he rfl (by rw [St.ρ_eq]) (fun _ _ => rfl) h1.sz (hd o (List.mem_of_getElem? hko)) h1.vr h1.inv (fun i hi _ => ⟨h1.inv.free (h1.fr i hi), h1.fr i hi⟩) fun cv w' hp => ?_
    refine sq_sound hcl hd os (k + 1) ?_ h (rel_step h1 h2 (hd o (List.mem_of_getElem? hko)) hnx hp) hq
    rw [← List.drop_drop, hk]; rfl
end Go.Proofs.Ytfhglldoejeedaa.Am
