import Derived.Test.YtfhglldoejeedaaAmZ
namespace Go.Proofs.Ytfhglldoejeedaa.Am
open Go

variable {P : Program}

theorem map_congr' {α β : Type} {f g : α → β} {l : List α} (h : ∀ x ∈ l, f x = g x) : l.map f = l.map g := List.map_congr_left h

theorem opv_congr {cl : Cl} {E : FuncId → Md} {op : Op} {ρ ρ' : Operand → AV} {g : Nat → Option Ob} {nx : Nat} (h : ∀ x ∈ op.operands.toList, ρ x = ρ' x) : opv P cl E op ρ g nx = opv P cl E op ρ' g nx := by
  cases op with
  | call c =>
    have hargs : c.args.toList.map ρ = c.args.toList.map ρ' := map_congr' fun x hx => h x (by simp only [Op.operands, Call.operands, Array.toList_append, List.mem_append]; exact .inr hx)
    have hone : ∀ {x : Operand}, x ∈ c.args.toList → ρ x = ρ' x := fun hx => h _ (by simp only [Op.operands, Call.operands, Array.toList_append, List.mem_append]; exact .inr hx)
    simp only [opv]
    cases hc : c.callee with
    | value f =>
      have hf : ρ f = ρ' f := h f (by simp [Op.operands, Call.operands, hc])
      simp only [hf, hargs]
    | invoke r n => rfl
    | builtin b =>
      cases b <;> simp only
      all_goals
        split <;> simp_all
      all_goals (rw [map_congr' (f := ρ) (g := ρ') hone.2])
  | build t parts =>
    have : (parts.toList.map fun p => (p.1, ρ p.2)) = parts.toList.map fun p => (p.1, ρ' p.2) := map_congr' fun p hp => by
      rw [h p.2 (by simp only [Op.operands]; simpa using ⟨p.1, by simpa using hp⟩)]
    simp only [opv, this]
  | buildSlice t len parts =>
    have : (parts.toList.map fun p => (p.1, ρ p.2)) = parts.toList.map fun p => (p.1, ρ' p.2) := map_congr' fun p hp => by
      rw [h p.2 (by simp only [Op.operands]; simpa using ⟨p.1, by simpa using hp⟩)]
    simp only [opv, this]
  | makeFunc fn first cap =>
    have h1 : first.toList.map ρ = first.toList.map ρ' := map_congr' fun x hx => h x (by simp only [Op.operands, Array.toList_append, List.mem_append]; exact .inl hx)
    have h2 : cap.toList.map ρ = cap.toList.map ρ' := map_congr' fun x hx => h x (by simp only [Op.operands, Array.toList_append, List.mem_append]; exact .inr hx)
    simp only [opv, h1, h2]
  | slice t x lo hi mx =>
    have h1 : lo.map ρ = lo.map ρ' := by cases lo with
      | none => rfl
      | some q => simp only [Option.map_some]; rw [h q (by simp [Op.operands])]
    have h2 : hi.map ρ = hi.map ρ' := by cases hi with
      | none => rfl
      | some q => simp only [Option.map_some]; rw [h q (by simp [Op.operands])]
    have h3 : mx.map ρ = mx.map ρ' := by cases mx with
      | none => rfl
      | some q => simp only [Option.map_some]; rw [h q (by simp [Op.operands])]
    have h4 : ρ x = ρ' x := h x (by simp [Op.operands])
    simp only [opv, h1, h2, h3, h4]
  | pick c a b => simp only [opv, h c (by simp [Op.operands]), h a (by simp [Op.operands]), h b (by simp [Op.operands])]
  | move x => simp only [opv, h x (by simp [Op.operands])]
  | assign x => simp only [opv, h x (by simp [Op.operands])]
  | alloc t => rfl
  | box t x => simp only [opv, h x (by simp [Op.operands])]
  | load t x => simp only [opv, h x (by simp [Op.operands])]
  | store t x y => simp only [opv, h x (by simp [Op.operands]), h y (by simp [Op.operands])]
  | nilCheck x => simp only [opv, h x (by simp [Op.operands])]
  | binOp op t x y t2 => simp only [opv, h x (by simp [Op.operands]), h y (by simp [Op.operands])]
  | unOp op t x => simp only [opv, h x (by simp [Op.operands])]
  | convert s d x => simp only [opv, h x (by simp [Op.operands])]
  | makeSlice t x y => simp only [opv, h x (by simp [Op.operands]), h y (by simp [Op.operands])]
  | fieldAddr s x f => simp only [opv, h x (by simp [Op.operands])]
  | field s x f => simp only [opv, h x (by simp [Op.operands])]
  | indexAddr t x y => simp only [opv, h x (by simp [Op.operands]), h y (by simp [Op.operands])]
  | index t x y => simp only [opv, h x (by simp [Op.operands]), h y (by simp [Op.operands])]
  | extract t i => simp only [opv, h t (by simp [Op.operands])]
  | _ => rfl

/-! ## What some of the writers of a row leave -/
section
variable {X V : Type}
def Fw (L : Nat → Bool) (W : Nat → X → Option V) (base : X → V) : Nat → X → V
  | 0, x => base x
  | k + 1, x => if L k then (match W k x with | some v => v | none => Fw L W base k x) else Fw L W base k x

theorem Fw_agree {L L' : Nat → Bool} {W : Nat → X → Option V} {base : X → V} {x : X} : ∀ {n : Nat}, (∀ k, k < n → W k x ≠ none → L k = L' k) → Fw L W base n x = Fw L' W base n x
  | 0, _ => rfl
  | n + 1, h => by
    have ih := Fw_agree (n := n) (base := base) fun k hk => h k (by omega)
    simp only [Fw, ih]
    cases hw : W n x with
    | none => simp
    | some v => rw [h n (by omega) (by rw [hw]; simp)]

theorem Fw_lt {W : Nat → X → Option V} {base : X → V} {x : X} {i : Nat} : ∀ {n : Nat}, i ≤ n → Fw (fun k => decide (k < i)) W base n x = Fw (fun _ => true) W base i x
  | 0, h => by
    have : i = 0 := by omega
    subst this; rfl
  | n + 1, h => by
    by_cases e : i = n + 1
    · subst e
      refine Fw_agree fun k hk _ => ?_
      simp [hk]
    · simp only [Fw]
      rw [if_neg (by simp; omega)]
      exact Fw_lt (by omega)

theorem Fw_add {L : Nat → Bool} {W : Nat → X → Option V} {base : X → V} {x : X} {i : Nat} : ∀ {n : Nat}, i < n → L i = false → (∀ k, k < n → i < k → L k = true → W i x ≠ none → W k x = none) →
    Fw (fun k => L k || decide (k = i)) W base n x = match W i x with | some v => v | none => Fw L W base n x
  | 0, h, _, _ => by omega
  | n + 1, h, hL, hw => by
    by_cases e : n = i
    · subst e
      have : Fw (fun k => L k || decide (k = n)) W base n x = Fw L W base n x := Fw_agree fun k hk _ => by
        have : ¬ (k = n) := by omega
        simp [this]
      simp only [Fw, this]
      simp only [decide_true, Bool.or_true, if_true, hL, Bool.false_eq_true, if_false]
    · have ih := Fw_add (n := n) (base := base) (by omega) hL fun k hk => hw k (by omega)
      simp only [Fw, ih]
      have : decide (n = i) = false := by simpa using e
      rw [this, Bool.or_false]
      cases hl : L n with
      | false => simp
      | true =>
        simp only [if_true]
        cases hi : W i x with
        | none => rfl
        | some v =>
          have := hw n (by omega) (by omega) hl (by rw [hi]; simp)
          rw [this]
end

/-! ## Regions whose order is drawn -/
/-- The operations that stand ahead by an edge. -/
def dirs (o : Oper) : List Nat := o.after.toList.filterMap fun e => if Region.binds .any e then some e.on else none

/-- All that stand ahead, edge by edge. -/
def mkPre : List Oper → List (List Nat) → List (List Nat)
  | [], acc => acc
  | o :: os, acc => mkPre os (acc ++ [dirs o ++ (dirs o).flatMap fun k => acc.getD k []])

def isPre (pr : List (List Nat)) (k i : Nat) : Bool := (pr.getD i []).contains k

def preOk (ops : List Oper) (pr : List (List Nat)) : Bool :=
  (List.range ops.length).all fun i => match ops[i]? with
    | some o => (dirs o).all (· < i) && (pr.getD i []).all fun k => (dirs o).contains k || (dirs o).any fun d => isPre pr k d
    | none => true

def lkd (dst : Option Tmp) (l : List Tmp) : Bool := match dst with
  | some d => l.contains d
  | none => false

/-- May two operations be turned, as far as slots go? -/
def apart (ops : Array Oper) (x y : Oper) : Bool := !lkd x.dst (y.looksAt ops) && !lkd y.dst (x.looksAt ops) && (match x.dst, y.dst with | some a, some b => a != b | _, _ => true)

def slotsOk (ops : Array Oper) (pr : List (List Nat)) : Bool :=
  (List.range ops.size).all fun i => (List.range i).all fun k => isPre pr k i || (match ops[k]?, ops[i]? with
    | some x, some y => apart ops x y
    | _, _ => true)

/-- The numbers that an operation asks for, and those that it writes. -/
def Rec.ids (r : Rec) : List Nat × List Nat := (r.e.rd, r.e.wr.map (·.1))

def disj (a b : List Nat) : Bool := a.all fun x => !b.contains x

def apartH (x y : List Nat × List Nat) : Bool := disj x.2 y.1 && disj x.2 y.2 && disj y.2 x.1

def heapOk (pr : List (List Nat)) (l : List (List Nat × List Nat)) : Bool :=
  (List.range l.length).all fun i => (List.range i).all fun k => isPre pr k i || (match l[k]?, l[i]? with
    | some x, some y => apartH x y
    | _, _ => true)

/-- What is new is written by whoever made it. -/
def newOk (r : Rec) : Bool := (List.range (r.e.nx - r.s.nx)).all fun j => (r.e.wr.map (·.1)).contains (r.s.nx + j)

def drA (P : Program) (cl : Cl) (E : FuncId → Md) (ops : Array Oper) (s : St) : Option St :=
  match dr P cl E ops ops.toList s with
  | none => none
  | some (s', rs) => if heapOk (mkPre ops.toList []) (rs.map Rec.ids) && rs.all newOk then some s' else none

theorem dr_recs {cl : Cl} {E : FuncId → Md} {ops : Array Oper} : ∀ {os : List Oper} {s s' : St} {rs : List Rec}, dr P cl E ops os s = some (s', rs) →
    rs.length = os.length ∧ (∀ (i : Nat) (r : Rec), rs[i]? = some r → os[i]? = some r.o ∧ stpE P cl E ops r.o r.s = some r.e ∧
      (rs[i + 1]? = none → s' = aft r.s r.o r.e) ∧ ∀ r', rs[i + 1]? = some r' → r'.s = aft r.s r.o r.e) ∧ (∀ r, rs[0]? = some r → r.s = s) ∧ (rs = [] → s' = s)
  | [], s, s', rs, h => by
    simp only [dr, Option.some.injEq, Prod.mk.injEq] at h
    obtain ⟨rfl, rfl⟩ := h
    simp
  | o :: os, s, s', rs, h => by
    simp only [dr] at h
    split at h
    · cases h
    rename_i e he
    split at h
    · cases h
    rename_i s2 rs2 hd
    simp only [Option.some.injEq, Prod.mk.injEq] at h
    obtain ⟨rfl, rfl⟩ := h
    obtain ⟨h1, h2, h3, h4⟩ := dr_recs hd
    refine ⟨by simp [h1], fun i r hr => ?_, fun r hr => by simp at hr; rw [← hr], fun hr => by cases hr⟩
    cases i with
    | zero =>
      simp at hr; subst hr
      refine ⟨rfl, he, fun hn => ?_, fun r' hr' => h3 r' (by simpa using hr')⟩
      have : rs2 = [] := by cases rs2 with
        | nil => rfl
        | cons _ _ => simp at hn
      exact h4 this
    | succ i =>
      have := h2 i r (by simpa using hr)
      exact ⟨by simpa using this.1, this.2.1, fun hn => this.2.2.1 (by simpa using hn), fun r' hr' => this.2.2.2 r' (by simpa using hr')⟩
end Go.Proofs.Ytfhglldoejeedaa.Am

