import Derived.Test.YtfhglldoejeedaaAmEv
namespace Go.Proofs.Ytfhglldoejeedaa.Am
open Go

section
variable {P : Program} {cl : Cl} {E : FuncId → Md} {ρ : Operand → AV} {g : Nat → Option Ob} {nx : Nat}

@[simp] theorem opv_move {x} : opv P cl E (.move x) ρ g nx = Eff.pure (ρ x) nx := rfl
@[simp] theorem opv_assign {x} : opv P cl E (.assign x) ρ g nx = Eff.pure (ρ x) nx := rfl
def pck (c a b : AV) (nx : Nat) : Option Eff := match c with
    | .bool t => Eff.pure (if t = true then a else b) nx
    | _ => none
@[simp] theorem opv_pick {c a b} : opv P cl E (.pick c a b) ρ g nx = pck (ρ c) (ρ a) (ρ b) nx := rfl
@[simp] theorem pck_bool {t a b nx} : pck (.bool t) a b nx = Eff.pure (selQ t a b) nx := by cases t <;> rfl
@[simp] theorem opv_load {t a} : opv P cl E (.load t a) ρ g nx = ldA P t (ρ a) g nx := rfl
@[simp] theorem opv_store {t a x} : opv P cl E (.store t a x) ρ g nx = stA P t (ρ a) (ρ x) g nx := rfl

/-- A value's cells put in a box. -/
def bxA (v : AV) (nx : Nat) : Option Eff := if v.cells.all AV.one ∧ 0 < v.cells.length then some ⟨.optr nx 0 v.cells.length, [], [(nx, .box v.cells)], nx + 1⟩ else none
@[simp] theorem opv_box {t x} : opv P cl E (.box t x) ρ g nx = bxA (ρ x) nx := rfl
def alA (z : Option AV) (nx : Nat) : Option Eff := match z with
    | some z => if z.cells.all AV.one ∧ 0 < z.cells.length then some ⟨.optr nx 0 z.cells.length, [], [(nx, .box z.cells)], nx + 1⟩ else none
    | none => none
@[simp] theorem opv_alloc {t} : opv P cl E (.alloc t) ρ g nx = alA (zer P t) nx := rfl
@[simp] theorem alA_some {z nx} : alA (some z) nx = bxA z nx := rfl
@[simp] theorem bxA_int {k n nx} : bxA (.int k n) nx = some ⟨.optr nx 0 1, [], [(nx, .box [.int k n])], nx + 1⟩ := by simp [bxA, AV.cells, AV.one]
@[simp] theorem bxA_bool {n nx} : bxA (.bool n) nx = some ⟨.optr nx 0 1, [], [(nx, .box [.bool n])], nx + 1⟩ := by simp [bxA, AV.cells, AV.one]
@[simp] theorem bxA_str {n nx} : bxA (.str n) nx = some ⟨.optr nx 0 1, [], [(nx, .box [.str n])], nx + 1⟩ := by simp [bxA, AV.cells, AV.one]
@[simp] theorem bxA_fsl {n nx} : bxA (.fsl n) nx = some ⟨.optr nx 0 1, [], [(nx, .box [.fsl n])], nx + 1⟩ := by simp [bxA, AV.cells, AV.one]
@[simp] theorem bxA_osl {i o l t nx} : bxA (.osl i o l t) nx = some ⟨.optr nx 0 1, [], [(nx, .box [.osl i o l t])], nx + 1⟩ := by simp [bxA, AV.cells, AV.one]
@[simp] theorem bxA_nilsl {nx} : bxA .nilsl nx = some ⟨.optr nx 0 1, [], [(nx, .box [.nilsl])], nx + 1⟩ := by simp [bxA, AV.cells, AV.one]
@[simp] theorem bxA_nilp {nx} : bxA .nilp nx = some ⟨.optr nx 0 1, [], [(nx, .box [.nilp])], nx + 1⟩ := by simp [bxA, AV.cells, AV.one]
@[simp] theorem bxA_optr {i o t nx} : bxA (.optr i o t) nx = some ⟨.optr nx 0 1, [], [(nx, .box [.optr i o t])], nx + 1⟩ := by simp [bxA, AV.cells, AV.one]
@[simp] theorem bxA_agg {cs nx} : bxA (.agg cs) nx = if cs.all AV.one ∧ 0 < cs.length then some ⟨.optr nx 0 cs.length, [], [(nx, .box cs)], nx + 1⟩ else none := rfl

@[simp] theorem one_int {k n} : AV.one (.int k n) = true := rfl
@[simp] theorem one_bool {n} : AV.one (.bool n) = true := rfl
@[simp] theorem one_str {n} : AV.one (.str n) = true := rfl
@[simp] theorem one_fsl {n} : AV.one (.fsl n) = true := rfl
@[simp] theorem one_osl {i o l t} : AV.one (.osl i o l t) = true := rfl
@[simp] theorem one_nilsl : AV.one .nilsl = true := rfl
@[simp] theorem one_nilp : AV.one .nilp = true := rfl
@[simp] theorem one_nilf : AV.one .nilf = true := rfl
@[simp] theorem one_optr {i o t} : AV.one (.optr i o t) = true := rfl
@[simp] theorem one_func {a b c} : AV.one (.func a b c) = true := rfl
@[simp] theorem cells_int {k n} : AV.cells (.int k n) = [.int k n] := rfl
@[simp] theorem cells_bool {n} : AV.cells (.bool n) = [.bool n] := rfl
@[simp] theorem cells_str {n} : AV.cells (.str n) = [.str n] := rfl
@[simp] theorem cells_fsl {n} : AV.cells (.fsl n) = [.fsl n] := rfl
@[simp] theorem cells_osl {i o l t} : AV.cells (.osl i o l t) = [.osl i o l t] := rfl
@[simp] theorem cells_nilsl : AV.cells .nilsl = [.nilsl] := rfl
@[simp] theorem cells_nilp : AV.cells .nilp = [.nilp] := rfl
@[simp] theorem cells_agg {cs} : AV.cells (.agg cs) = cs := rfl

/-! Fields -/
def faA (r : Option (Nat × TS)) (a : AV) (g : Nat → Option Ob) (nx : Nat) : Option Eff := match r, a with
    | some (o, _), .optr id off tot => if liveA g id tot then some ⟨.optr id (off + o) tot, [id], [], nx⟩ else none
    | some (o, _), .eptr id ix off tot => if liveA g id tot then some ⟨.eptr id ix (off + o) tot, [id], [], nx⟩ else none
    | some (o, _), .fptr cs off => Eff.pure (.fptr cs (off + o)) nx
    | _, _ => none
@[simp] theorem opv_fieldAddr {s x f} : opv P cl E (.fieldAddr s x f) ρ g nx = faA (fld P s f) (ρ x) g nx := rfl
@[simp] theorem faA_optr {o ts id off tot} : faA (some (o, ts)) (.optr id off tot) g nx = if liveA g id tot then some ⟨.optr id (off + o) tot, [id], [], nx⟩ else none := rfl
@[simp] theorem faA_eptr {o ts id ix off tot} : faA (some (o, ts)) (.eptr id ix off tot) g nx = if liveA g id tot then some ⟨.eptr id ix (off + o) tot, [id], [], nx⟩ else none := rfl
@[simp] theorem faA_fptr {o ts cs off} : faA (some (o, ts)) (.fptr cs off) g nx = Eff.pure (.fptr cs (off + o)) nx := rfl
def fdA (r : Option (Nat × TS)) (a : AV) (nx : Nat) : Option Eff := match r, a with
    | some (o, ts), .agg cs => (ldc ts cs o).bind fun v => Eff.pure v nx
    | _, _ => none
@[simp] theorem opv_field {s x f} : opv P cl E (.field s x f) ρ g nx = fdA (fld P s f) (ρ x) nx := rfl
@[simp] theorem fdA_agg {o ts cs} : fdA (some (o, ts)) (.agg cs) nx = (ldc ts cs o).bind fun v => Eff.pure v nx := rfl
@[simp] theorem opv_build {t parts} : opv P cl E (.build t parts) ρ g nx = (if isArr P t then bldArr P t (parts.toList.map fun p => (p.1, ρ p.2)) else bldA P t (parts.toList.map fun p => (p.1, ρ p.2))).bind fun v => Eff.pure v nx := rfl
@[simp] theorem opv_buildSlice {t len parts} : opv P cl E (.buildSlice t len parts) ρ g nx = bslA P t len (parts.toList.map fun p => (p.1, ρ p.2)) g nx := rfl
def ncA (v : AV) (g : Nat → Option Ob) (nx : Nat) : Option Eff := match v with
    | .optr i o t => if liveA g i t then some ⟨.optr i o t, [i], [], nx⟩ else none
    | .eptr i ix o t => if liveA g i t then some ⟨.eptr i ix o t, [i], [], nx⟩ else none
    | .fptr cs o => Eff.pure (.fptr cs o) nx
    | _ => none
@[simp] theorem opv_nilCheck {x} : opv P cl E (.nilCheck x) ρ g nx = ncA (ρ x) g nx := by
  simp only [opv, ncA]; cases ρ x <;> rfl
@[simp] theorem ncA_optr {i o t} : ncA (.optr i o t) g nx = if liveA g i t then some ⟨.optr i o t, [i], [], nx⟩ else none := rfl
@[simp] theorem ncA_eptr {i ix o t} : ncA (.eptr i ix o t) g nx = if liveA g i t then some ⟨.eptr i ix o t, [i], [], nx⟩ else none := rfl
@[simp] theorem ncA_fptr {cs o} : ncA (.fptr cs o) g nx = Eff.pure (.fptr cs o) nx := rfl
@[simp] theorem opv_binOp {op t x y z} : opv P cl E (.binOp op t x y z) ρ g nx = (binA P op t (ρ x) (ρ y)).bind fun v => Eff.pure v nx := rfl
@[simp] theorem opv_unOp {op t x} : opv P cl E (.unOp op t x) ρ g nx = (unA op (ρ x)).bind fun v => Eff.pure v nx := rfl
@[simp] theorem opv_convert {s d x} : opv P cl E (.convert s d x) ρ g nx = cvA P s d g nx (ρ x) := rfl
@[simp] theorem opv_makeFunc {fn first cap} : opv P cl E (.makeFunc fn first cap) ρ g nx = Eff.pure (.func fn (first.toList.map ρ) (cap.toList.map ρ)) nx := rfl
@[simp] theorem opv_makeSlice {t l c} : opv P cl E (.makeSlice t l c) ρ g nx = mkA P t (ρ l) (ρ c) nx := rfl
@[simp] theorem opv_slice {t x lo hi mx} : opv P cl E (.slice t x lo hi mx) ρ g nx = slcA P t (ρ x) (lo.map ρ) (hi.map ρ) (mx.map ρ) g nx := rfl
@[simp] theorem opv_indexAddr {t x i} : opv P cl E (.indexAddr t x i) ρ g nx = ixA P t (ρ x) (ρ i) g nx := rfl
@[simp] theorem opv_index {t x i} : opv P cl E (.index t x i) ρ g nx = (idxA P t (ρ x) (ρ i)).bind fun v => Eff.pure v nx := rfl
def exA (v : AV) (i nx : Nat) : Option Eff := match v with
    | .tup vs => (vs[i]?).bind fun v => Eff.pure v nx
    | _ => none
@[simp] theorem opv_extract {t i} : opv P cl E (.extract t i) ρ g nx = exA (ρ t) i nx := by
  simp only [opv, exA]; cases ρ t <;> rfl
@[simp] theorem exA_tup {vs i} : exA (.tup vs) i nx = (vs[i]?).bind fun v => Eff.pure v nx := rfl
def cvF (cl : Cl) (E : FuncId → Md) (v : AV) (args : List AV) (g : Nat → Option Ob) (nx : Nat) : Option Eff := match v with
      | .func (.func f) first cap => callV cl E f (first ++ args ++ cap) g nx
      | _ => none
@[simp] theorem opv_call {f args tys} : opv P cl E (.call ⟨.value f, args, tys⟩) ρ g nx = cvF cl E (ρ f) (args.toList.map ρ) g nx := rfl
@[simp] theorem cvF_func {f a c args} : cvF cl E (.func (.func f) a c) args g nx = callV cl E f (a ++ args ++ c) g nx := rfl
@[simp] theorem opv_len {x t} : opv P cl E (.call ⟨.builtin .len, #[x], #[t]⟩) ρ g nx = lnA P t (ρ x) g nx := rfl
@[simp] theorem opv_append {s x t u} : opv P cl E (.call ⟨.builtin .append, #[s, x], #[t, u]⟩) ρ g nx = appA P t u (ρ s) (ρ x) g nx := rfl
@[simp] theorem opv_copy {s x t u} : opv P cl E (.call ⟨.builtin .copy, #[s, x], #[t, u]⟩) ρ g nx = cpyA P t u (ρ s) (ρ x) g nx := rfl
@[simp] theorem opv_clear {x t} : opv P cl E (.call ⟨.builtin .clear, #[x], #[t]⟩) ρ g nx = clrA P t (ρ x) g nx := rfl
@[simp] theorem opv_max {x y t} : opv P cl E (.call ⟨.builtin .max, #[x, y], t⟩) ρ g nx = (max2A (ρ x) (ρ y)).bind fun v => Eff.pure v nx := by
  simp only [opv, foldA, List.map]
  cases max2A (ρ x) (ρ y) <;> rfl
@[simp] theorem opv_min {x y t} : opv P cl E (.call ⟨.builtin .min, #[x, y], t⟩) ρ g nx = (min2A (ρ x) (ρ y)).bind fun v => Eff.pure v nx := by
  simp only [opv, foldA, List.map]
  cases min2A (ρ x) (ρ y) <;> rfl
@[simp] theorem max2A_int {k x y} : max2A (.int k x) (.int k y) = some (.int k (max x y)) := by simp [max2A]; omega
@[simp] theorem min2A_int {k x y} : min2A (.int k x) (.int k y) = some (.int k (min x y)) := by simp [min2A]; omega

/-! Structs built -/
def bldK (pl : Option (List (Nat × Nat))) (z : Option AV) (parts : List (Nat × AV)) : Option AV :=
  match pl, z with
  | some pl, some z => if z.cells.all AV.one then (filA (pl[·]?) z.cells parts).map .agg else none
  | _, _ => none
@[simp] theorem bldA_eq {t parts} : bldA P t parts = bldK (plc P t) (zer P t) parts := rfl
@[simp] theorem bldK_some {pl z parts} : bldK (some pl) (some z) parts = if z.cells.all AV.one then (filA (pl[·]?) z.cells parts).map .agg else none := rfl
@[simp] theorem filA_nil {pl cs} : filA pl cs [] = some cs := rfl
def filS (pl : Nat → Option (Nat × Nat)) (r : Option (Nat × Nat)) (cells : List AV) (v : AV) (rest : List (Nat × AV)) : Option (List AV) := match r with
    | none => none
    | some (off, size) =>
      if v.cells.length = size ∧ off + size ≤ cells.length ∧ v.cells.all AV.one then filA pl (spl cells off v.cells) rest else none
@[simp] theorem filA_cons {pl cs i v rest} : filA pl cs ((i, v) :: rest) = filS pl (pl i) cs v rest := rfl
@[simp] theorem filS_some {pl cs off size v rest} : filS pl (some (off, size)) cs v rest = if v.cells.length = size ∧ off + size ≤ cs.length ∧ v.cells.all AV.one then filA pl (spl cs off v.cells) rest else none := rfl

/-! Loads and stores -/
def ldT (ts : Option TS) (a : AV) (g : Nat → Option Ob) (nx : Nat) : Option Eff :=
  match ts with
  | none => none
  | some ts =>
    match a with
    | .fptr cs off => (ldc ts cs off).bind fun v => Eff.pure v nx
    | .optr id off tot => match g id with
      | some (.box cs) => if tot = cs.length then (ldc ts cs off).map fun v => ⟨v, [id], [], nx⟩ else none
      | _ => none
    | .eptr id ix off tot => match g id with
      | some (.arr _ es _) => if tot = es.length then match es[ix]? with
        | some e => (ldc ts e.cells off).map fun v => ⟨v, [id], [], nx⟩
        | none => none
        else none
      | _ => none
    | _ => none
@[simp] theorem ldA_eq {t a} : ldA P t a g nx = ldT (tsh P t) a g nx := rfl
@[simp] theorem ldT_fptr {ts cs off} : ldT (some ts) (.fptr cs off) g nx = (ldc ts cs off).bind fun v => Eff.pure v nx := rfl
theorem ldT_optr {ts id off tot cs} (h : g id = some (.box cs)) (ht : tot = cs.length) : ldT (some ts) (.optr id off tot) g nx = (ldc ts cs off).map fun v => ⟨v, [id], [], nx⟩ := by simp [ldT, h, ht]
def ldO (ts : TS) (o : Option Ob) (id off tot nx : Nat) : Option Eff := match o with
      | some (.box cs) => if tot = cs.length then (ldc ts cs off).map fun v => ⟨v, [id], [], nx⟩ else none
      | _ => none
@[simp] theorem ldT_o {ts id off tot} : ldT (some ts) (.optr id off tot) g nx = ldO ts (g id) id off tot nx := rfl
@[simp] theorem ldO_some {ts cs id off tot} : ldO ts (some (.box cs)) id off tot nx = if tot = cs.length then (ldc ts cs off).map fun v => ⟨v, [id], [], nx⟩ else none := rfl
def ldE (ts : TS) (o : Option Ob) (id ix off tot nx : Nat) : Option Eff := match o with
      | some (.arr _ es _) => if tot = es.length then match es[ix]? with
        | some e => (ldc ts e.cells off).map fun v => ⟨v, [id], [], nx⟩
        | none => none
        else none
      | _ => none
@[simp] theorem ldT_e {ts id ix off tot} : ldT (some ts) (.eptr id ix off tot) g nx = ldE ts (g id) id ix off tot nx := rfl
@[simp] theorem ldE_some {ts es z r id ix off tot} : ldE ts (some (.arr z es r)) id ix off tot nx = if tot = es.length then match es[ix]? with
        | some e => (ldc ts e.cells off).map fun v => ⟨v, [id], [], nx⟩
        | none => none
        else none := rfl
@[simp] theorem ldc_sc {cs off} : ldc .sc cs off = cs[off]? := rfl
@[simp] theorem ldc_ag {n cs off} : ldc (.ag n) cs off = if off + n ≤ cs.length then some (.agg ((cs.drop off).take n)) else none := rfl
def stT (ts : Option TS) (a x : AV) (g : Nat → Option Ob) (nx : Nat) : Option Eff :=
  match ts with
  | none => none
  | some ts =>
    if x.cells.length = ts.size ∧ x.cells.all AV.one then
      match a with
      | .optr id off tot => match g id with
        | some (.box cs) => if tot = cs.length ∧ off + ts.size ≤ cs.length then some ⟨.any, [id], [(id, .box (spl cs off x.cells))], nx⟩ else none
        | _ => none
      | .eptr id ix off tot =>
        match frz g x, roAll g (addTo [] (ids x)) with
        | some x', some ro => match g id with
          | some (.arr esz es false) => if tot = es.length ∧ !(ids x).contains id then match es[ix]? with
            | some e => match sve e off x'.cells with
              | some e' => some ⟨.any, id :: ids x, (id, .arr esz (es.set ix e') false) :: ro, nx⟩
              | none => none
            | none => none
            else none
          | _ => none
        | _, _ => none
      | _ => none
    else none
@[simp] theorem stA_eq {t a x} : stA P t a x g nx = stT (tsh P t) a x g nx := rfl
def stO (ts : TS) (o : Option Ob) (x : AV) (id off tot nx : Nat) : Option Eff := match o with
        | some (.box cs) => if tot = cs.length ∧ off + ts.size ≤ cs.length then some ⟨.any, [id], [(id, .box (spl cs off x.cells))], nx⟩ else none
        | _ => none
@[simp] theorem stT_o {ts id off tot x} : stT (some ts) (.optr id off tot) x g nx = if x.cells.length = ts.size ∧ x.cells.all AV.one then stO ts (g id) x id off tot nx else none := rfl
@[simp] theorem stO_some {ts cs x id off tot} : stO ts (some (.box cs)) x id off tot nx = if tot = cs.length ∧ off + ts.size ≤ cs.length then some ⟨.any, [id], [(id, .box (spl cs off x.cells))], nx⟩ else none := rfl
@[simp] theorem size_sc : TS.size .sc = 1 := rfl
@[simp] theorem size_ag {n} : TS.size (.ag n) = n := rfl
@[simp] theorem liveA_some {id tot} {o : Ob} (h : g id = some o) : liveA g id tot = (tot == o.len) := by simp [liveA, h]
@[simp] theorem len_box {cs} : Ob.len (.box cs) = cs.length := rfl
@[simp] theorem len_arr {z es r} : Ob.len (.arr z es r) = es.length := rfl
@[simp] theorem spl_eq {cs off new} : spl cs off new = cs.take off ++ new ++ cs.drop (off + new.length) := rfl

/-! Whole numbers -/
/-- At most, and the same: bools that hide how they are decided. -/
def ile (x y : Int) : Bool := decide (x ≤ y)
def ieq (x y : Int) : Bool := decide (x = y)
def seq' (x y : ByteArray) : Bool := decide (x = y)
theorem ile_t {x y : Int} : ile x y = true ↔ x ≤ y := by simp [ile]
theorem ile_f {x y : Int} : ile x y = false ↔ y < x := by simp [ile]
theorem ieq_t {x y : Int} : ieq x y = true ↔ x = y := by simp [ieq]
theorem ieq_f {x y : Int} : ieq x y = false ↔ x ≠ y := by simp [ieq]
@[simp] theorem ile_self {x : Int} : ile x x = true := by simp [ile]
@[simp] theorem ieq_self {x : Int} : ieq x x = true := by simp [ieq]
section
variable {k : IntKind} {t : TypeId} {x y : Int}
@[simp] theorem binA_add : binA P .add t (.int k x) (.int k y) = some (.int k (k.wrap (x + y))) := by simp [binA, intA]
@[simp] theorem binA_sub : binA P .sub t (.int k x) (.int k y) = some (.int k (k.wrap (x - y))) := by simp [binA, intA]
@[simp] theorem binA_mul : binA P .mul t (.int k x) (.int k y) = some (.int k (k.wrap (x * y))) := by simp [binA, intA]
@[simp] theorem binA_quo : binA P .quo t (.int k x) (.int k y) = if y = 0 then none else some (.int k (k.wrap (x.tdiv y))) := by simp [binA, intA]
@[simp] theorem binA_rem : binA P .rem t (.int k x) (.int k y) = if y = 0 then none else some (.int k (x.tmod y)) := by simp [binA, intA]
@[simp] theorem binA_eql : binA P .eql t (.int k x) (.int k y) = some (.bool (ieq x y)) := by simp [binA, intA, ile, ieq]
@[simp] theorem binA_neq : binA P .neq t (.int k x) (.int k y) = some (.bool (!ieq x y)) := by simp [binA, intA, ile, ieq]
@[simp] theorem binA_lss : binA P .lss t (.int k x) (.int k y) = some (.bool (!ile y x)) := by simp [binA, intA, ile]; exact Bool.eq_iff_iff.2 (by simp)
@[simp] theorem binA_leq : binA P .leq t (.int k x) (.int k y) = some (.bool (ile x y)) := by simp [binA, intA, ile, ieq]
@[simp] theorem binA_gtr : binA P .gtr t (.int k x) (.int k y) = some (.bool (!ile x y)) := by simp [binA, intA, ile]; exact Bool.eq_iff_iff.2 (by simp)
@[simp] theorem binA_geq : binA P .geq t (.int k x) (.int k y) = some (.bool (ile y x)) := by simp [binA, intA, ile, ieq]
@[simp] theorem binA_and : binA P .and t (.int k x) (.int k y) = (bitsA .and k x y).map (.int k) := by simp [binA, intA]
@[simp] theorem binA_or : binA P .or t (.int k x) (.int k y) = (bitsA .or k x y).map (.int k) := by simp [binA, intA]
@[simp] theorem unA_neg : unA .neg (.int k x) = some (.int k (k.wrap (0 - x))) := rfl
@[simp] theorem unA_not {b} : unA .not (.bool b) = some (.bool !b) := rfl
@[simp] theorem binA_seq {a b} : binA P .eql t (.str a) (.str b) = some (.bool (seq' a b)) := rfl
@[simp] theorem binA_sne {a b} : binA P .neq t (.str a) (.str b) = some (.bool (!seq' a b)) := by simp [binA, seq']
@[simp] theorem binA_aeq {a b} : binA P .eql t (.agg a) (.agg b) = (eqA P t (.agg a) (.agg b)).map .bool := rfl
@[simp] theorem binA_ane {a b} : binA P .neq t (.agg a) (.agg b) = (eqA P t (.agg a) (.agg b)).map (fun b => .bool (!b)) := rfl
@[simp] theorem binA_beq {a b} : binA P .eql t (.bool a) (.bool b) = (eqA P t (.bool a) (.bool b)).map .bool := rfl
@[simp] theorem binA_bne {a b} : binA P .neq t (.bool a) (.bool b) = (eqA P t (.bool a) (.bool b)).map (fun b => .bool (!b)) := rfl
end
@[simp] theorem bind_pure {v : AV} {nx : Nat} : ((some v).bind fun v => Eff.pure v nx) = Eff.pure v nx := rfl
@[simp] theorem bind_ite_av {c : Prop} [Decidable c] {a b : Option AV} {nx : Nat} : ((if c then a else b).bind fun v => Eff.pure v nx) = if c then a.bind (fun v => Eff.pure v nx) else b.bind fun v => Eff.pure v nx := by split <;> rfl

/-! Calls -/
@[simp] theorem ids_int {k n} : ids (.int k n) = [] := by simp [ids]
@[simp] theorem ids_bool {n} : ids (.bool n) = [] := by simp [ids]
@[simp] theorem ids_str {n} : ids (.str n) = [] := by simp [ids]
@[simp] theorem ids_fsl {n} : ids (.fsl n) = [] := by simp [ids]
@[simp] theorem ids_fptr {n o} : ids (.fptr n o) = [] := by simp [ids]
@[simp] theorem ids_nilsl : ids .nilsl = [] := by simp [ids]
@[simp] theorem ids_nilp : ids .nilp = [] := by simp [ids]
@[simp] theorem ids_nilf : ids .nilf = [] := by simp [ids]
@[simp] theorem ids_any : ids .any = [] := by simp [ids]
@[simp] theorem ids_osl {i o l t} : ids (.osl i o l t) = [i] := by simp [ids]
@[simp] theorem ids_optr {i o t} : ids (.optr i o t) = [i] := by simp [ids]
@[simp] theorem ids_eptr {i x o t} : ids (.eptr i x o t) = [i] := by simp [ids]
@[simp] theorem ids_agg {cs} : ids (.agg cs) = idsL cs := by simp [ids]
@[simp] theorem ids_tup {cs} : ids (.tup cs) = idsL cs := by simp [ids]
@[simp] theorem ids_func {f a c} : ids (.func f a c) = idsL a ++ idsL c := by simp [ids]
@[simp] theorem idsL_nil : idsL [] = [] := by simp [idsL]
@[simp] theorem idsL_cons {c cs} : idsL (c :: cs) = ids c ++ idsL cs := by simp [idsL]

section
variable {bx : List AV → Option (List AV)}
@[simp] theorem frzW_int {k n} : frzW g bx (.int k n) = some (.int k n) := by simp [frzW]
@[simp] theorem frzW_bool {n} : frzW g bx (.bool n) = some (.bool n) := by simp [frzW]
@[simp] theorem frzW_str {n} : frzW g bx (.str n) = some (.str n) := by simp [frzW]
@[simp] theorem frzW_fsl {n} : frzW g bx (.fsl n) = some (.fsl n) := by simp [frzW]
@[simp] theorem frzW_fptr {n o} : frzW g bx (.fptr n o) = some (.fptr n o) := by simp [frzW]
@[simp] theorem frzW_nilsl : frzW g bx .nilsl = some (.fsl []) := by simp [frzW]
@[simp] theorem frzW_nilp : frzW g bx .nilp = some .nilp := by simp [frzW]
@[simp] theorem frzW_nilf : frzW g bx .nilf = some .nilf := by simp [frzW]
@[simp] theorem frzW_agg {cs} : frzW g bx (.agg cs) = (frzWL g bx cs).map .agg := by simp [frzW]
@[simp] theorem frzW_tup {cs} : frzW g bx (.tup cs) = (frzWL g bx cs).map .tup := by simp [frzW]
def frzS (o : Option Ob) (off len tot : Nat) : Option AV := match o with
    | some (.arr _ es _) => if tot = es.length ∧ off + len ≤ es.length then some (.fsl ((es.drop off).take len)) else none
    | _ => none
@[simp] theorem frzW_osl {i off len tot} : frzW g bx (.osl i off len tot) = frzS (g i) off len tot := by rw [frzW]; rfl
@[simp] theorem frzS_some {z es r off len tot} : frzS (some (.arr z es r)) off len tot = if tot = es.length ∧ off + len ≤ es.length then some (.fsl ((es.drop off).take len)) else none := rfl
def frzP (bx : List AV → Option (List AV)) (o : Option Ob) (off tot : Nat) : Option AV := match o with
    | some (.box cs) => if tot = cs.length then (bx cs).map (.fptr · off) else none
    | _ => none
@[simp] theorem frzW_optr {i off tot} : frzW g bx (.optr i off tot) = frzP bx (g i) off tot := by rw [frzW]; rfl
@[simp] theorem frzP_some {cs off tot} : frzP bx (some (.box cs)) off tot = if tot = cs.length then (bx cs).map (.fptr · off) else none := rfl
@[simp] theorem frzWL_nil : frzWL g bx [] = some [] := by simp [frzWL]
def cnL (o : Option AV) (l : Option (List AV)) : Option (List AV) := match o, l with
  | some c, some cs => some (c :: cs)
  | _, _ => none
@[simp] theorem frzWL_cons {c cs} : frzWL g bx (c :: cs) = cnL (frzW g bx c) (frzWL g bx cs) := by simp only [frzWL, cnL]; cases frzW g bx c <;> cases frzWL g bx cs <;> rfl
@[simp] theorem cnL_some {c cs} : cnL (some c) (some cs) = some (c :: cs) := rfl
end
@[simp] theorem frz_eq {v} : frz g v = frzW g (bxD g 3) v := rfl
@[simp] theorem frzL_eq {v} : frzL g v = frzWL g (bxD g 3) v := rfl
@[simp] theorem bxD_succ {d cs} : bxD g (d + 1) cs = frzWL g (bxD g d) cs := rfl

section
variable {f : Nat → Nat}
@[simp] theorem ren_int {k n} : ren f (.int k n) = .int k n := by simp [ren]
@[simp] theorem ren_bool {n} : ren f (.bool n) = .bool n := by simp [ren]
@[simp] theorem ren_str {n} : ren f (.str n) = .str n := by simp [ren]
@[simp] theorem ren_fsl {n} : ren f (.fsl n) = .fsl n := by simp [ren]
@[simp] theorem ren_fptr {n o} : ren f (.fptr n o) = .fptr n o := by simp [ren]
@[simp] theorem ren_nilsl : ren f .nilsl = .nilsl := by simp [ren]
@[simp] theorem ren_nilp : ren f .nilp = .nilp := by simp [ren]
@[simp] theorem ren_nilf : ren f .nilf = .nilf := by simp [ren]
@[simp] theorem ren_any : ren f .any = .any := by simp [ren]
@[simp] theorem ren_osl {i o l t} : ren f (.osl i o l t) = .osl (f i) o l t := by simp [ren]
@[simp] theorem ren_optr {i o t} : ren f (.optr i o t) = .optr (f i) o t := by simp [ren]
@[simp] theorem ren_eptr {i x o t} : ren f (.eptr i x o t) = .eptr (f i) x o t := by simp [ren]
@[simp] theorem ren_agg {cs} : ren f (.agg cs) = .agg (renL f cs) := by simp [ren]
@[simp] theorem ren_tup {cs} : ren f (.tup cs) = .tup (renL f cs) := by simp [ren]
@[simp] theorem renL_nil : renL f [] = [] := by simp [renL]
@[simp] theorem renL_cons {c cs} : renL f (c :: cs) = ren f c :: renL f cs := by simp [renL]
end

/-- A call whose arguments are frozen. -/
def callF (nx : Nat) (r : Option (AV × List Ob)) : Option Eff := match r with
  | none => none
  | some (v, obs) => some ⟨ren (nx + ·) v, [], zipAt nx (obs.map (Ob.ren (nx + ·))), nx + obs.length⟩
def callL (cl : Cl) (f : FuncId) (nx : Nat) (a : Option (List AV)) : Option Eff := match a with
  | none => none
  | some a => callF nx (cl f a [])
@[simp] theorem callL_some {f a} : callL cl f nx (some a) = callF nx (cl f a []) := rfl
@[simp] theorem callF_some {v} : callF nx (some (v, [])) = some ⟨ren (nx + ·) v, [], [], nx⟩ := rfl
@[simp] theorem callF_ite {c : Prop} [Decidable c] {a b} : callF nx (if c then a else b) = if c then callF nx a else callF nx b := by split <;> rfl

theorem clo_nil {n} : clo g n [] = [] := by
  induction n with
  | zero => rfl
  | succ n ih => simpa [clo, addTo] using ih

@[simp] theorem callV_f {f args} (ho : (E f).own = false) (hi : idsL args = []) : callV cl E f args g nx = callL cl f nx (frzL g args) := by
  unfold callV callL callF
  simp only [hi, addTo, clo_nil, ho]
  cases frzL g args with
  | none => simp [closed]
  | some a =>
    cases h : cl f a [] with
    | none => simp [closed, h]
    | some r => simp [closed, h]

/-! Results -/
@[simp] theorem addTo_nil {l} : addTo l [] = l := rfl
@[simp] theorem addTo_cons {l x xs} : addTo l (x :: xs) = if l.contains x then addTo l xs else addTo (l ++ [x]) xs := rfl

def thn (v : Option AV) : Option (AV × List Ob) := match v with
  | none => none
  | some v => some (v, [])
@[simp] theorem thn_some {v} : thn (some v) = some (v, []) := rfl
/-- Nothing came in: what goes out is frozen. -/
@[simp] theorem doneV_f {md v} (hk : md.keep = false) (hi : closed g (clo g 3 (addTo [] (ids v))) = true) : doneV md 0 g v = thn (frz g v) := by
  unfold doneV
  simp only [hk, List.range_zero, clo_nil, hi]
  simp [closed, outOf, thn]
  cases frzW g (bxD g 3) v <;> rfl
end
end Go.Proofs.Ytfhglldoejeedaa.Am
