import Derived.Test.YtfhglldoejeedaaAmLim
namespace Go.Proofs.Ytfhglldoejeedaa.Am
open Go

/-! ## Rules by which a run is computed -/
section
variable {P : Program} {cl : Cl} {E : FuncId → Md} {ops : Array Oper} {α : Type}

/-- A choice by a bool. -/
def sel {β : Sort _} (c : Bool) (a b : β) : β := match c with
  | true => a
  | false => b
@[congr] theorem sel_congr {β : Sort _} {c c' : Bool} {a a' b b' : β} (h : c = c') (ha : c' = true → a = a') (hb : c' = false → b = b') : sel c a b = sel c' a' b' := by
  subst h; cases c
  · exact hb rfl
  · exact ha rfl
/-- A choice whose bool has not been looked at yet. -/
def selQ {β : Sort _} (c : Bool) (a b : β) : β := sel c a b
@[congr] theorem selQ_congr {β : Sort _} {c c' : Bool} {a b : β} (h : c = c') : selQ c a b = selQ c' a b := by rw [h]
@[simp] theorem selQ_true {β : Sort _} {a b : β} : selQ true a b = a := rfl
@[simp] theorem selQ_false {β : Sort _} {a b : β} : selQ false a b = b := rfl
@[simp] theorem selQ_not {β : Sort _} {c : Bool} {a b : β} : selQ (!c) a b = selQ c b a := by cases c <;> rfl
@[simp low] theorem selQ_sel {β : Sort _} {c : Bool} {a b : β} : selQ c a b = sel c a b := rfl
@[simp] theorem sel_true {β : Sort _} {a b : β} : sel true a b = a := rfl
@[simp] theorem sel_false {β : Sort _} {a b : β} : sel false a b = b := rfl
@[simp] theorem sel_not {β : Sort _} {c : Bool} {a b : β} : sel (!c) a b = sel c b a := by cases c <;> rfl
@[simp] theorem sel_same {β : Sort _} {c : Bool} {a : β} : sel c a a = a := by cases c <;> rfl
@[simp] theorem sel_tb {c b : Bool} : sel c true b = (c || b) := by cases c <;> rfl
@[simp] theorem sel_bf {c b : Bool} : sel c b false = (c && b) := by cases c <;> rfl
@[simp] theorem sel_fb {c b : Bool} : sel c false b = (!c && b) := by cases c <;> rfl
@[simp] theorem sel_bt {c b : Bool} : sel c b true = (!c || b) := by cases c <;> cases b <;> rfl
@[simp] theorem sel_AVb {c a b : Bool} : sel c (AV.bool a) (AV.bool b) = .bool (sel c a b) := by cases c <;> rfl
@[simp] theorem sel_AVi {c : Bool} {k : IntKind} {a b : Int} : sel c (AV.int k a) (AV.int k b) = .int k (sel c a b) := by cases c <;> rfl
@[simp] theorem sel_AVs {c : Bool} {a b : ByteArray} : sel c (AV.str a) (AV.str b) = .str (sel c a b) := by cases c <;> rfl
theorem sel_eq {β : Type} {c : Bool} {a b : β} : sel c a b = if c = true then a else b := by cases c <;> rfl

def xnor (a b : Bool) : Bool := match b with
  | true => a
  | false => !a
@[simp] theorem xnor_t {a} : xnor a true = a := rfl
@[simp] theorem xnor_f {a} : xnor a false = !a := rfl
def inBlk (id : Nat) (r : Option (Ex × St)) : Option (Ex × St) := match r with
    | some (.exit i, s') => if i = id then some (.normal, s') else some (.exit i, s')
    | r => r

/-- What stands behind. -/
inductive Fm where
  | seq (b : Code)
  | blk (id : Nat)
  | lp (c : Code)

noncomputable def unw (P : Program) (cl : Cl) (E : FuncId → Md) : List Fm → Option (Ex × St) → Option (Ex × St)
  | [], r => r
  | .seq b :: K, r => unw P cl E K (andThen r (runI P cl E b))
  | .blk id :: K, r => unw P cl E K (inBlk id r)
  | .lp c :: K, r => unw P cl E K (andThen r (runI P cl E (.loop c)))

theorem unw_none : ∀ {K : List Fm}, unw P cl E K none = none
  | [] => rfl
  | .seq _ :: K => unw_none (K := K)
  | .blk _ :: K => unw_none (K := K)
  | .lp _ :: K => unw_none (K := K)

noncomputable def go (P : Program) (cl : Cl) (E : FuncId → Md) (D : Option (Ex × St) → α) (c : Code) (s : St) (K : List Fm) : α := D (unw P cl E K (runI P cl E c s))
/-- On to what stands behind. -/
noncomputable def nxt (P : Program) (cl : Cl) (E : FuncId → Md) (D : Option (Ex × St) → α) (s : St) (K : List Fm) : α := D (unw P cl E K (some (.normal, s)))
noncomputable def exi (P : Program) (cl : Cl) (E : FuncId → Md) (D : Option (Ex × St) → α) (i : Nat) (s : St) (K : List Fm) : α := D (unw P cl E K (some (.exit i, s)))

variable {D : Option (Ex × St) → α} {K : List Fm} {s : St}
@[simp] theorem nxt_nil : nxt P cl E D s [] = D (some (.normal, s)) := rfl
@[simp] theorem nxt_seq {b} : nxt P cl E D s (.seq b :: K) = go P cl E D b s K := rfl
@[simp] theorem nxt_blk {i} : nxt P cl E D s (.blk i :: K) = nxt P cl E D s K := rfl
@[simp] theorem nxt_lp {c} : nxt P cl E D s (.lp c :: K) = go P cl E D (.loop c) s K := rfl
@[simp] theorem exi_seq {i b} : exi P cl E D i s (.seq b :: K) = exi P cl E D i s K := rfl
@[simp] theorem exi_lp {i b} : exi P cl E D i s (.lp b :: K) = exi P cl E D i s K := rfl
@[simp] theorem exi_blk {i j} : exi P cl E D i s (.blk j :: K) = if i = j then nxt P cl E D s K else exi P cl E D i s K := by
  unfold exi nxt; rw [unw.eq_3, inBlk]; split <;> rfl
@[simp] theorem go_skip : go P cl E D .skip s K = nxt P cl E D s K := by unfold go nxt; rw [runI_skip]
@[simp] theorem go_label {l} : go P cl E D (.label l) s K = nxt P cl E D s K := by unfold go nxt; rw [runI_label]
@[simp] theorem go_exit {i} : go P cl E D (.exit i) s K = exi P cl E D i s K := by unfold go exi; rw [runI_exit]
theorem unw_ret : ∀ {K : List Fm}, unw P cl E K (some (.ret, s)) = some (.ret, s)
  | [] => rfl
  | .seq _ :: K => unw_ret (K := K)
  | .blk _ :: K => unw_ret (K := K)
  | .lp _ :: K => unw_ret (K := K)
@[simp] theorem go_ret : go P cl E D .ret s K = D (some (.ret, s)) := by unfold go; rw [runI_ret, unw_ret]
@[simp] theorem go_seq {a b} : go P cl E D (.seq a b) s K = go P cl E D a s (.seq b :: K) := by unfold go; rw [runI_seq]; rfl
@[simp] theorem go_block {i b} : go P cl E D (.block i b) s K = go P cl E D b s (.blk i :: K) := by unfold go; rw [runI_block]; rfl
theorem go_loop {c} : go P cl E D (.loop c) s K = go P cl E D c s (.lp c :: K) := by
  unfold go; rw [runI_loop]; rfl
/-- A branch. -/
noncomputable def br (P : Program) (cl : Cl) (E : FuncId → Md) (D : Option (Ex × St) → α) (v : AV) (a b : Code) (s : St) (K : List Fm) : α := match v with
  | .bool t => if t = true then go P cl E D a s K else go P cl E D b s K
  | _ => D none
@[simp] theorem br_bool {t a b} : br P cl E D (.bool t) a b s K = selQ t (go P cl E D a s K) (go P cl E D b s K) := by cases t <;> rfl
@[simp] theorem br_ite {c : Prop} [Decidable c] {u v a b} : br P cl E D (if c then u else v) a b s K = if c then br P cl E D u a b s K else br P cl E D v a b s K := by split <;> rfl
@[simp] theorem br_sel {c : Bool} {u v a b} : br P cl E D (sel c u v) a b s K = selQ c (br P cl E D u a b s K) (br P cl E D v a b s K) := by cases c <;> rfl
@[simp] theorem go_cond {c a b} : go P cl E D (.cond c a b) s K = br P cl E D (s.ρ c) a b s K := by
  unfold go br; rw [runI_cond]
  cases s.ρ c <;> try (simp only [unw_none]; done)
  rename_i t
  cases t <;> rfl

def ck (nx : Nat) (o : Option Eff) : Option Eff := match o with
  | none => none
  | some e => if nx ≤ e.nx then some e else none

/-- The rest of a region. -/
noncomputable def gsq (P : Program) (cl : Cl) (E : FuncId → Md) (D : Option (Ex × St) → α) (ops : List Oper) (os : List Oper) (s : St) (K : List Fm) : α := D (unw P cl E K ((sq P cl E ops.toArray os s).map (Ex.normal, ·)))
noncomputable def sqE (P : Program) (cl : Cl) (E : FuncId → Md) (D : Option (Ex × St) → α) (ops : List Oper) (r : Option Eff) (dst : Option Tmp) (os : List Oper) (s : St) (K : List Fm) : α := match r with
  | some e => gsq P cl E D ops os ⟨putT s.tm dst e.v, e.wr ++ s.hp, e.nx⟩ K
  | none => D none
@[simp] theorem go_regF {p} {l : List Oper} : go P cl E D (.region p l.toArray false) s K = gsq P cl E D l l s K := by unfold go gsq; rw [runI_region]; simp
@[simp] theorem gsq_nil {l : List Oper} : gsq P cl E D l [] s K = nxt P cl E D s K := rfl
theorem gsq_cons {l : List Oper} {o : Oper} {os : List Oper} : gsq P cl E D l (o :: os) s K = sqE P cl E D l (stpE P cl E l.toArray o s) o.dst os s K := by
  unfold gsq sqE
  simp only [sq]
  cases stpE P cl E l.toArray o s with
  | none => simp [unw_none]
  | some e => rfl
@[simp] theorem sqE_d {l e d os} : sqE P cl E D l (some e) (some d) os s K = gsq P cl E D l os ⟨(d, e.v) :: s.tm, e.wr ++ s.hp, e.nx⟩ K := rfl
@[simp] theorem sqE_n {l e os} : sqE P cl E D l (some e) none os s K = gsq P cl E D l os ⟨s.tm, e.wr ++ s.hp, e.nx⟩ K := rfl
@[simp] theorem sqE_none {l d os} : sqE P cl E D l none d os s K = D none := rfl
@[simp] theorem sqE_ite {l d os} {c : Prop} [Decidable c] {a b} : sqE P cl E D l (if c then a else b) d os s K = if c then sqE P cl E D l a d os s K else sqE P cl E D l b d os s K := by split <;> rfl

@[simp] theorem gsq_n {l : List Oper} {os dst op ty pos aft} : gsq P cl E D l (⟨dst, op, ty, pos, aft, none⟩ :: os) s K = sqE P cl E D l (ck s.nx (opv P cl E op s.ρ (lkp s.hp) s.nx)) dst os s K := by rw [gsq_cons]; rfl

def gslot (ops : List Oper) (j : Nat) : Option Tmp := (ops[j]?).bind (·.dst)

/-- A guarded operation: is it done? -/
noncomputable def sqG (P : Program) (cl : Cl) (E : FuncId → Md) (D : Option (Ex × St) → α) (l : List Oper) (g : AV) (want : Bool) (op : Op) (dst : Option Tmp) (os : List Oper) (s : St) (K : List Fm) : α := match g with
  | .bool b => if b = want then sqE P cl E D l (ck s.nx (opv P cl E op s.ρ (lkp s.hp) s.nx)) dst os s K else gsq P cl E D l os ⟨putT s.tm dst .any, s.hp, s.nx⟩ K
  | _ => D none
@[simp] theorem sqG_b {l b want op dst os} : sqG P cl E D l (.bool b) want op dst os s K = selQ (xnor b want) (sqE P cl E D l (ck s.nx (opv P cl E op s.ρ (lkp s.hp) s.nx)) dst os s K) (gsq P cl E D l os ⟨putT s.tm dst .any, s.hp, s.nx⟩ K) := by cases b <;> cases want <;> rfl
noncomputable def sqS (P : Program) (cl : Cl) (E : FuncId → Md) (D : Option (Ex × St) → α) (l : List Oper) (d : Option Tmp) (want : Bool) (op : Op) (dst : Option Tmp) (os : List Oper) (s : St) (K : List Fm) : α := match d with
  | some d => sqG P cl E D l (lk s.tm d) want op dst os s K
  | none => D none
@[simp] theorem sqS_some {l d want op dst os} : sqS P cl E D l (some d) want op dst os s K = sqG P cl E D l (lk s.tm d) want op dst os s K := rfl
@[simp] theorem gsq_g {l : List Oper} {os dst op ty pos aft j want} : gsq P cl E D l (⟨dst, op, ty, pos, aft, some (j, want)⟩ :: os) s K = sqS P cl E D l (gslot l j) want op dst os s K := by
  rw [gsq_cons]
  unfold stpE gdA sqS gslot sqG
  simp only [List.getElem?_toArray]
  cases (l[j]?).bind (·.dst) with
  | none => rfl
  | some d =>
    dsimp only
    cases lk s.tm d <;> try rfl
    rename_i b
    cases b <;> cases want <;> rfl
@[simp] theorem putT_some {tm d v} : putT tm (some d) v = (d, v) :: tm := rfl
@[simp] theorem putT_none {tm v} : putT tm none v = tm := rfl
@[simp] theorem gslot_zero {o os} : gslot (o :: os) 0 = o.dst := rfl
@[simp] theorem gslot_succ {o os j} : gslot (o :: os) (j + 1) = gslot os j := by simp [gslot]

@[simp] theorem ck_pure {nx : Nat} {v : AV} : ck nx (Eff.pure v nx) = some ⟨v, [], [], nx⟩ := by simp [ck, Eff.pure]
@[simp] theorem ck_some {nx : Nat} {v rd wr} : ck nx (some ⟨v, rd, wr, nx⟩) = some ⟨v, rd, wr, nx⟩ := by simp [ck]
@[simp] theorem ck_new {nx : Nat} {v rd wr} : ck nx (some ⟨v, rd, wr, nx + 1⟩) = some ⟨v, rd, wr, nx + 1⟩ := by simp [ck]
@[simp] theorem ck_le {nx nx' : Nat} {v rd wr} (h : nx ≤ nx') : ck nx (some ⟨v, rd, wr, nx'⟩) = some ⟨v, rd, wr, nx'⟩ := by simp [ck, h]
@[simp] theorem ck_none {nx : Nat} : ck nx none = none := rfl
@[simp] theorem ck_ite {c : Prop} [Decidable c] {a b nx} : ck nx (if c then a else b) = if c then ck nx a else ck nx b := by split <;> rfl
@[simp] theorem map_ite {α β : Type} {c : Prop} [Decidable c] {a b : Option α} {k : α → β} : Option.map k (if c then a else b) = if c then Option.map k a else Option.map k b := by split <;> rfl

/-! A region whose order is drawn: what it does in the order written, and that no two parts meet. -/
def fold (pr : List (List Nat)) (recs : List (List Nat × List Nat)) (news : Bool) : Bool := heapOk pr recs && news
noncomputable def gdr (P : Program) (cl : Cl) (E : FuncId → Md) (D : Option (Ex × St) → α) (ops : List Oper) (os : List Oper) (rs : List (List Nat × List Nat)) (nw : Bool) (s : St) (K : List Fm) : α :=
  match dr P cl E ops.toArray os s with
  | none => D none
  | some (s', rs') => if (heapOk (mkPre ops []) (rs.reverse ++ rs'.map Rec.ids) && (nw && rs'.all newOk)) = true then nxt P cl E D s' K else D none
noncomputable def drE (P : Program) (cl : Cl) (E : FuncId → Md) (D : Option (Ex × St) → α) (ops : List Oper) (r : Option Eff) (dst : Option Tmp) (os : List Oper) (rs : List (List Nat × List Nat)) (nw : Bool) (s : St) (K : List Fm) : α := match r with
  | some e => gdr P cl E D ops os ((e.rd, e.wr.map (·.1)) :: rs) (nw && (List.range (e.nx - s.nx)).all fun j => (e.wr.map (·.1)).contains (s.nx + j)) ⟨putT s.tm dst e.v, e.wr ++ s.hp, e.nx⟩ K
  | none => D none
@[simp] theorem go_regT {p} {l : List Oper} : go P cl E D (.region p l.toArray true) s K = gdr P cl E D l l [] true s K := by
  unfold go gdr nxt
  rw [runI_region]
  simp only [if_true, drA]
  cases dr P cl E l.toArray l s with
  | none => simp [unw_none]
  | some r =>
    obtain ⟨s', rs⟩ := r
    simp only [List.reverse_nil, List.nil_append, Bool.true_and]
    split <;> simp [unw_none]
def quiet : List (List Nat × List Nat) → Bool
  | [] => true
  | (_, []) :: rs => quiet rs
  | _ => false
@[simp] theorem quiet_nil : quiet [] = true := rfl
@[simp] theorem quiet_cons {a rs} : quiet ((a, []) :: rs) = quiet rs := rfl
@[simp] theorem quiet_wr {a x xs rs} : quiet ((a, x :: xs) :: rs) = false := rfl
theorem quiet_all : ∀ {rs : List (List Nat × List Nat)}, quiet rs = true → ∀ r ∈ rs, r.2 = []
  | [], _, r, hr => by simp at hr
  | (_, []) :: rs, h, r, hr => by
    rcases List.mem_cons.1 hr with rfl | hr
    · rfl
    · exact quiet_all (rs := rs) h r hr
  | (_, _ :: _) :: rs, h, r, hr => by simp at h
theorem quiet_ok {pr : List (List Nat)} {rs : List (List Nat × List Nat)} (h : quiet rs = true) : heapOk pr rs.reverse = true := by
  unfold heapOk
  simp only [List.all_eq_true, Bool.or_eq_true]
  intro i _ k _
  refine .inr ?_
  cases h1 : rs.reverse[k]? with
  | none => rfl
  | some x =>
    cases h2 : rs.reverse[i]? with
    | none => rfl
    | some y =>
      have e1 := quiet_all h x (List.mem_reverse.1 (List.mem_of_getElem? h1))
      have e2 := quiet_all h y (List.mem_reverse.1 (List.mem_of_getElem? h2))
      simp [apartH, disj, e1, e2]
/-- Behind a check that is left to be made. -/
def hokQ {β : Type} (l : List Oper) (rs : List (List Nat × List Nat)) (nw : Bool) (a b : β) : β := if (heapOk (mkPre l []) rs.reverse && nw) = true then a else b
@[congr] theorem hokQ_congr {β : Type} {l : List Oper} {rs : List (List Nat × List Nat)} {nw nw' : Bool} {a b : β} (h : nw = nw') : hokQ l rs nw a b = hokQ l rs nw' a b := by rw [h]
theorem hokQ_of {β : Type} {l : List Oper} {rs : List (List Nat × List Nat)} {nw : Bool} {a b : β} (h : (heapOk (mkPre l []) rs.reverse && nw) = true) : hokQ l rs nw a b = a := by unfold hokQ; rw [if_pos h]
@[simp] theorem gdr_nil {l : List Oper} {rs nw} : gdr P cl E D l [] rs nw s K = selQ (quiet rs && nw) (nxt P cl E D s K) (hokQ l rs nw (nxt P cl E D s K) (D none)) := by
  simp only [gdr, dr, hokQ, List.map_nil, List.append_nil, List.all_nil, Bool.and_true]
  cases hq : quiet rs with
  | false => rfl
  | true =>
    rw [quiet_ok hq]
    cases nw <;> simp
theorem gdr_cons {l : List Oper} {o : Oper} {os : List Oper} {rs nw} : gdr P cl E D l (o :: os) rs nw s K = drE P cl E D l (stpE P cl E l.toArray o s) o.dst os rs nw s K := by
  unfold gdr drE
  simp only [dr]
  cases stpE P cl E l.toArray o s with
  | none => rfl
  | some e =>
    dsimp only [aft]
    unfold gdr
    cases dr P cl E l.toArray os ⟨putT s.tm o.dst e.v, e.wr ++ s.hp, e.nx⟩ with
    | none => rfl
    | some r =>
      obtain ⟨s', rs'⟩ := r
      simp only [List.reverse_cons, List.append_assoc, List.singleton_append, List.map_cons, List.all_cons, Rec.ids, newOk, Bool.and_assoc]
def newB (nx nx' : Nat) (wr : List Nat) : Bool := (List.range (nx' - nx)).all fun j => wr.contains (nx + j)
@[simp] theorem newB_same {nx wr} : newB nx nx wr = true := by simp [newB]
@[simp] theorem newB_one {nx wr} : newB nx (nx + 1) (nx :: wr) = true := by simp [newB]
@[simp] theorem drE_d {l e d os rs nw} : drE P cl E D l (some e) (some d) os rs nw s K = gdr P cl E D l os ((e.rd, e.wr.map (·.1)) :: rs) (nw && newB s.nx e.nx (e.wr.map (·.1))) ⟨(d, e.v) :: s.tm, e.wr ++ s.hp, e.nx⟩ K := rfl
@[simp] theorem drE_n {l e os rs nw} : drE P cl E D l (some e) none os rs nw s K = gdr P cl E D l os ((e.rd, e.wr.map (·.1)) :: rs) (nw && newB s.nx e.nx (e.wr.map (·.1))) ⟨s.tm, e.wr ++ s.hp, e.nx⟩ K := rfl
@[simp] theorem drE_none {l d os rs nw} : drE P cl E D l none d os rs nw s K = D none := rfl
@[simp] theorem drE_ite {l d os rs nw} {c : Prop} [Decidable c] {a b} : drE P cl E D l (if c then a else b) d os rs nw s K = if c then drE P cl E D l a d os rs nw s K else drE P cl E D l b d os rs nw s K := by split <;> rfl
@[simp] theorem gdr_n {l : List Oper} {os dst op ty pos aft rs nw} : gdr P cl E D l (⟨dst, op, ty, pos, aft, none⟩ :: os) rs nw s K = drE P cl E D l (ck s.nx (opv P cl E op s.ρ (lkp s.hp) s.nx)) dst os rs nw s K := by rw [gdr_cons]; rfl
noncomputable def drG (P : Program) (cl : Cl) (E : FuncId → Md) (D : Option (Ex × St) → α) (l : List Oper) (g : AV) (want : Bool) (op : Op) (dst : Option Tmp) (os : List Oper) (rs : List (List Nat × List Nat)) (nw : Bool) (s : St) (K : List Fm) : α := match g with
  | .bool b => if b = want then drE P cl E D l (ck s.nx (opv P cl E op s.ρ (lkp s.hp) s.nx)) dst os rs nw s K else gdr P cl E D l os (([], []) :: rs) nw ⟨putT s.tm dst .any, s.hp, s.nx⟩ K
  | _ => D none
@[simp] theorem drG_b {l b want op dst os rs nw} : drG P cl E D l (.bool b) want op dst os rs nw s K = selQ (xnor b want) (drE P cl E D l (ck s.nx (opv P cl E op s.ρ (lkp s.hp) s.nx)) dst os rs nw s K) (gdr P cl E D l os (([], []) :: rs) nw ⟨putT s.tm dst .any, s.hp, s.nx⟩ K) := by cases b <;> cases want <;> rfl
noncomputable def drS (P : Program) (cl : Cl) (E : FuncId → Md) (D : Option (Ex × St) → α) (l : List Oper) (d : Option Tmp) (want : Bool) (op : Op) (dst : Option Tmp) (os : List Oper) (rs : List (List Nat × List Nat)) (nw : Bool) (s : St) (K : List Fm) : α := match d with
  | some d => drG P cl E D l (lk s.tm d) want op dst os rs nw s K
  | none => D none
@[simp] theorem drS_some {l d want op dst os rs nw} : drS P cl E D l (some d) want op dst os rs nw s K = drG P cl E D l (lk s.tm d) want op dst os rs nw s K := rfl
@[simp] theorem gdr_g {l : List Oper} {os dst op ty pos aft j want rs nw} : gdr P cl E D l (⟨dst, op, ty, pos, aft, some (j, want)⟩ :: os) rs nw s K = drS P cl E D l (gslot l j) want op dst os rs nw s K := by
  rw [gdr_cons]
  unfold stpE gdA drS gslot drG
  simp only [List.getElem?_toArray]
  have key : drE P cl E D l (some ⟨.any, [], [], s.nx⟩) dst os rs nw s K = gdr P cl E D l os (([], []) :: rs) nw ⟨putT s.tm dst .any, s.hp, s.nx⟩ K := by
    simp [drE]
  cases (l[j]?).bind (·.dst) with
  | none => rfl
  | some d =>
    dsimp only
    cases lk s.tm d <;> try rfl
    rename_i b
    cases b <;> cases want <;> first | rfl | exact key

/-! Functions -/
def don (md : Md) (n : Nat) (g : Nat → Option Ob) (o : Option AV) : Option (AV × List Ob) := match o with
        | none => none
        | some v => doneV md n g v
@[simp] theorem don_some {md n g v} : don md n g (some v) = doneV md n g v := rfl
def fin (P : Program) (E : FuncId → Md) (f : FuncId) (fn : Func) (n : Nat) (r : Option (Ex × St)) : Option (AV × List Ob) := match r with
  | some (.exit _, _) | none => none
  | some (_, s) => don (E f) n (lkp s.hp) (resV P fn s)
@[simp] theorem fin_ret {f fn n} : fin P E f fn n (some (.ret, s)) = don (E f) n (lkp s.hp) (resV P fn s) := rfl
@[simp] theorem fin_normal {f fn n} : fin P E f fn n (some (.normal, s)) = don (E f) n (lkp s.hp) (resV P fn s) := rfl
@[simp] theorem fin_none {f fn n} : fin P E f fn n none = none := rfl

theorem call_eq {X : Xt} {f : FuncId} {fn : Func} {b : Code} {args : List AV} {obs : List Ob} (hf : P.funcs[f]? = some fn) (hb : fn.body = some b) (hx : X f = none) (hc : chkF fn = true) (hl : decide (args.length ≤ fn.ntmps) = true) :
    callI P E X f args obs = go P (callI P E X) E (fin P E f fn obs.length) b (startS args obs) [] := by
  rw [callI_body hx hf hc]
  unfold bodyI fin go unw
  rw [hb]
  simp only [of_decide_eq_true hl, if_true]
  rfl

@[simp] theorem lk_cons {i j : Nat} {v : AV} {m : List (Nat × AV)} : lk ((i, v) :: m) j = if i = j then v else lk m j := by
  simp only [lk, lkp]; split <;> rfl
@[simp] theorem lkp_cons {α : Type} {i j : Nat} {v : α} {m : List (Nat × α)} : lkp ((i, v) :: m) j = if i = j then some v else lkp m j := rfl
@[simp] theorem lkp_nil {α : Type} {j : Nat} : lkp ([] : List (Nat × α)) j = none := rfl

@[simp] theorem ρ_tmp {t} : s.ρ (.tmp t) = lk s.tm t := rfl
@[simp] theorem ρ_const {v} : s.ρ (.const v) = ofV v := rfl
@[simp] theorem ρ_func {f} : s.ρ (.func f) = .func (.func f) [] [] := rfl
@[simp] theorem ofV_int {k n} : ofV (.int k n) = .int k n := by simp [ofV]
@[simp] theorem ofV_bool {b} : ofV (.bool b) = .bool b := by simp [ofV]
@[simp] theorem ofV_str {s} : ofV (.string s) = .str s := by simp [ofV]
@[simp] theorem ofV_nilp : ofV (.pointer none) = .nilp := by simp [ofV]
@[simp] theorem ofV_nilsl : ofV (.slice none 0 0) = .nilsl := by simp [ofV]
@[simp] theorem ofV_nilf : ofV .nilFunc = .nilf := by simp [ofV]

@[simp] theorem tm0_nil {k} : tm0 k [] = [] := rfl
@[simp] theorem tm0_cons {k v vs} : tm0 k (v :: vs) = (k, v) :: tm0 (k + 1) vs := rfl
@[simp] theorem zipAt_nil {k} : zipAt k [] = [] := rfl
@[simp] theorem zipAt_cons {k o os} : zipAt k (o :: os) = (k, o) :: zipAt (k + 1) os := rfl
@[simp] theorem startS_eq {args obs} : startS args obs = ⟨tm0 0 args, zipAt 0 obs, obs.length⟩ := rfl
end
end Go.Proofs.Ytfhglldoejeedaa.Am
