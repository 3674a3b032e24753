import Derived.Test.YtfhglldoejeedaaAmTy
namespace Go.Proofs.Ytfhglldoejeedaa.Am
open Go Go.Proofs
set_option maxRecDepth 100000
set_option linter.unusedSimpArgs false
set_option linter.unusedVariables false
abbrev E0 : FuncId → Md := fun _ => {}
abbrev I (n : Int) : AV := .int .i64 n
abbrev B (b : Bool) : AV := .bool b
noncomputable abbrev C (f : FuncId) (a : List AV) : Option (AV × List Ob) := callI Try.prog E0 X0 f a []
def tin (x a b : Int) : Bool := ile a x && ile x b
theorem wr_in {n : Int} (h : -9223372036854775808 ≤ n ∧ n ≤ 9223372036854775807) : IntKind.i64.wrap n = n := Go.IntWalk.i64_in n h
/-- A number that a variable can bear. -/
def okI (n : Int) : Prop := -9223372036854775808 ≤ n ∧ n ≤ 9223372036854775807
@[simp] theorem c_spec_l01In (x a b : Int) : C 89 [I x, I a, I b] = some (B (tin x a b), []) := by
  refine (call_eq Try.func89 rfl rfl (by decide +kernel) rfl).trans ?_
  simp -implicitDefEqProofs +contextual [tin]
  grind [sel_eq, ile, ieq]
@[simp] theorem c_impl_inRange (x a b : Int) : C 92 [I x, I a, I b] = some (B (tin x a b), []) := by
  refine (call_eq Try.func92 rfl rfl (by decide +kernel) rfl).trans ?_
  simp -implicitDefEqProofs +contextual [tin]
  grind [sel_eq, ile, ieq]
@[simp] theorem c_impl_isSide (x : Int) : C 90 [I x] = some (B (tin x 1 12), []) := by
  refine (call_eq Try.func90 rfl rfl (by decide +kernel) rfl).trans ?_
  simp -implicitDefEqProofs +contextual
def tileCount (w h : Int) : Int := if tin w 1 12 && tin h 1 12 then ((w + 3) / 4) * ((h + 3) / 4) else 0
theorem tin_t {x a b : Int} : tin x a b = true ↔ a ≤ x ∧ x ≤ b := by simp [tin, ile_t]
theorem four {w : Int} (h : tin w 1 12 = true) : (w + 3) / 4 = 1 ∨ (w + 3) / 4 = 2 ∨ (w + 3) / 4 = 3 := by rw [tin_t] at h; omega
theorem wr9 {w h : Int} (hw : tin w 1 12 = true) (hh : tin h 1 12 = true) : IntKind.i64.wrap ((w + 3) / 4 * ((h + 3) / 4)) = (w + 3) / 4 * ((h + 3) / 4) := by
  refine wr_in ?_
  rcases four hw with e | e | e <;> rcases four hh with f | f | f <;> rw [e, f] <;> decide
theorem up4 {w : Int} (h : tin w 1 12 = true) : IntKind.i64.wrap ((IntKind.i64.wrap (w + 3)).tdiv 4) = (w + 3) / 4 := by
  rw [tin_t] at h
  rw [wr_in (n := w + 3) (by omega), Int.tdiv_eq_ediv_of_nonneg (by omega), wr_in (by omega)]
theorem tdiv4 {x : Int} (h : 0 ≤ x) : x.tdiv 4 = x / 4 := Int.tdiv_eq_ediv_of_nonneg h
def along (n : Int) : Int := IntKind.i64.wrap ((IntKind.i64.wrap (IntKind.i64.wrap (n + 4) - 1)).tdiv 4)
@[simp] theorem c_impl_tilesAlong (x : Int) : C 91 [I x] = some (I (along x), []) := by
  refine (call_eq Try.func91 rfl rfl (by decide +kernel) rfl).trans ?_
  simp -implicitDefEqProofs +contextual [along]
theorem along_eq {x : Int} (h : tin x 1 12 = true) : along x = (x + 3) / 4 := by
  simp only [tin, Bool.and_eq_true, ile_t] at h
  unfold along
  rw [wr_in (n := x + 4) (by omega), wr_in (n := x + 4 - 1) (by omega), tdiv4 (by omega), wr_in (by omega)]
  omega
@[simp] theorem c_impl_TileCount (w h : Int) : C 17 [I w, I h] = some (I (tileCount w h), []) := by
  refine (call_eq Try.func17 rfl rfl (by decide +kernel) rfl).trans ?_
  simp -implicitDefEqProofs +contextual
  unfold tileCount
  cases hw : tin w 1 12 <;> cases hh : tin h 1 12 <;> simp [along_eq, wr9, *]
@[simp] theorem c_spec_TileCount (w h : Int) : C 16 [I w, I h] = some (I (tileCount w h), []) := by
  refine (call_eq Try.func16 rfl rfl (by decide +kernel) rfl).trans ?_
  simp -implicitDefEqProofs +contextual
  unfold tileCount
  cases hw : tin w 1 12 <;> cases hh : tin h 1 12 <;> simp [up4, wr9, *]
structure Box where
  x0 : Int
  y0 : Int
  x1 : Int
  y1 : Int
  deriving DecidableEq
@[simp] def eBox (b : Box) : AV := .agg [I b.x0, I b.y0, I b.x1, I b.y1]
def Box.empty (b : Box) : Bool := ile b.x1 b.x0 || ile b.y1 b.y0
def Box.zero : Box := ⟨0, 0, 0, 0⟩
def meet (a b : Box) : Box :=
  let c : Box := ⟨max a.x0 b.x0, max a.y0 b.y0, min a.x1 b.x1, min a.y1 b.y1⟩
  if c.empty then .zero else c
theorem mx (a b : Int) : (if a < b then b else a) = max a b := by omega
theorem mn (a b : Int) : (if b < a then b else a) = min a b := by omega
@[simp] theorem c_impl_Empty (x0 y0 x1 y1 : Int) : C 190 [.agg [I x0, I y0, I x1, I y1]] = some (B (Box.mk x0 y0 x1 y1).empty, []) := by
  refine (call_eq Try.func190 rfl rfl (by decide +kernel) rfl).trans ?_
  simp -implicitDefEqProofs +contextual [Box.empty]
  grind [sel_eq, ile, ieq]
@[simp] theorem c_spec_Empty (x0 y0 x1 y1 : Int) : C 27 [.agg [I x0, I y0, I x1, I y1]] = some (B (Box.mk x0 y0 x1 y1).empty, []) := by
  refine (call_eq Try.func27 rfl rfl (by decide +kernel) rfl).trans ?_
  simp -implicitDefEqProofs +contextual [Box.empty]
  grind [sel_eq, ile, ieq]
@[simp] theorem c_spec_l05Most (a b : Int) : C 98 [I a, I b] = some (I (max a b), []) := by
  refine (call_eq Try.func98 rfl rfl (by decide +kernel) rfl).trans ?_
  simp -implicitDefEqProofs +contextual
  grind [sel_eq, ile, ieq]
@[simp] theorem c_spec_l05Least (a b : Int) : C 99 [I a, I b] = some (I (min a b), []) := by
  refine (call_eq Try.func99 rfl rfl (by decide +kernel) rfl).trans ?_
  simp -implicitDefEqProofs +contextual
  grind [sel_eq, ile, ieq]
@[simp] theorem c_impl_MeetBox (a0 a1 a2 a3 b0 b1 b2 b3 : Int) : C 93 [.agg [I a0, I a1, I a2, I a3], .agg [I b0, I b1, I b2, I b3]] = some (eBox (meet ⟨a0, a1, a2, a3⟩ ⟨b0, b1, b2, b3⟩), []) := by
  refine (call_eq Try.func93 rfl rfl (by decide +kernel) rfl).trans ?_
  simp -implicitDefEqProofs +contextual
  unfold meet
  cases h : Box.empty ⟨max a0 b0, max a1 b1, min a2 b2, min a3 b3⟩ <;> simp [h, Box.zero]
@[simp] theorem c_spec_MeetBox (a0 a1 a2 a3 b0 b1 b2 b3 : Int) : C 28 [.agg [I a0, I a1, I a2, I a3], .agg [I b0, I b1, I b2, I b3]] = some (eBox (meet ⟨a0, a1, a2, a3⟩ ⟨b0, b1, b2, b3⟩), []) := by
  refine (call_eq Try.func28 rfl rfl (by decide +kernel) rfl).trans ?_
  simp -implicitDefEqProofs +contextual +decide [hokQ_of]
  unfold meet
  cases h : Box.empty ⟨max a0 b0, max a1 b1, min a2 b2, min a3 b3⟩ <;> simp [h, Box.zero]
def eqB (a b : Box) : Bool := ieq a.x0 b.x0 && (ieq a.y0 b.y0 && (ieq a.x1 b.x1 && ieq a.y1 b.y1))
@[simp] theorem eqB_self (a : Box) : eqB a a = true := by simp [eqB]
@[simp] theorem eqB_self' (a : Box) : eqB ⟨a.x0, a.y0, a.x1, a.y1⟩ ⟨a.x0, a.y0, a.x1, a.y1⟩ = true := by simp [eqB]
@[simp] theorem c_laws_eqBox (a0 a1 a2 a3 b0 b1 b2 b3 : Int) : C 20 [.agg [I a0, I a1, I a2, I a3], .agg [I b0, I b1, I b2, I b3]] = some (B (eqB ⟨a0, a1, a2, a3⟩ ⟨b0, b1, b2, b3⟩), []) := by
  refine (call_eq Try.func20 rfl rfl (by decide +kernel) rfl).trans ?_
  simp -implicitDefEqProofs +contextual [eqB]
  cases ieq a0 b0 <;> cases ieq a1 b1 <;> cases ieq a2 b2 <;> cases ieq a3 b3 <;> rfl
def tileBox (w h i : Int) : Box :=
  if tin i 0 (tileCount w h - 1) then
    let x := i % ((w + 3) / 4) * 4
    let y := i / ((w + 3) / 4) * 4
    meet ⟨x, y, x + 4, y + 4⟩ ⟨0, 0, w, h⟩
  else .zero
theorem tc_bd (w h : Int) : 0 ≤ tileCount w h ∧ tileCount w h ≤ 9 := by
  unfold tileCount
  cases hw : tin w 1 12 <;> cases hh : tin h 1 12 <;> simp
  rcases four hw with e | e | e <;> rcases four hh with f | f | f <;> rw [e, f] <;> decide
@[simp] theorem tc_wrap (w h : Int) : IntKind.i64.wrap (tileCount w h - 1) = tileCount w h - 1 := by
  have := tc_bd w h
  exact wr_in (by omega)
theorem tb_facts {w h i : Int} (hi : tin i 0 (tileCount w h - 1) = true) : tin w 1 12 = true ∧ 0 ≤ i ∧ i ≤ 8 := by
  have := tc_bd w h
  rw [tin_t] at hi
  refine ⟨?_, by omega, by omega⟩
  cases hw : tin w 1 12 with
  | true => rfl
  | false =>
    have : tileCount w h = 0 := by simp [tileCount, hw]
    omega
theorem up4' {w : Int} (h : tin w 1 12 = true) : (IntKind.i64.wrap (w + 3)).tdiv 4 = (w + 3) / 4 := by
  rw [tin_t] at h
  rw [wr_in (n := w + 3) (by omega), Int.tdiv_eq_ediv_of_nonneg (by omega)]
theorem tb_x {r i : Int} (hr : r = 1 ∨ r = 2 ∨ r = 3) (h0 : 0 ≤ i) (h1 : i ≤ 8) : IntKind.i64.wrap (i.tmod r * 4) = i % r * 4 ∧ IntKind.i64.wrap (i % r * 4 + 4) = i % r * 4 + 4 ∧
    IntKind.i64.wrap (IntKind.i64.wrap (i.tdiv r) * 4) = i / r * 4 ∧ IntKind.i64.wrap (i / r * 4 + 4) = i / r * 4 + 4 := by
  rw [Int.tmod_eq_emod_of_nonneg h0, Int.tdiv_eq_ediv_of_nonneg h0]
  rcases hr with rfl | rfl | rfl
  · rw [wr_in (n := i / 1) (by omega)]; exact ⟨wr_in (by omega), wr_in (by omega), wr_in (by omega), wr_in (by omega)⟩
  · rw [wr_in (n := i / 2) (by omega)]; exact ⟨wr_in (by omega), wr_in (by omega), wr_in (by omega), wr_in (by omega)⟩
  · rw [wr_in (n := i / 3) (by omega)]; exact ⟨wr_in (by omega), wr_in (by omega), wr_in (by omega), wr_in (by omega)⟩
theorem four' {w : Int} (h : tin w 1 12 = true) : ¬ (w + 3) / 4 = 0 := by rcases four h with e | e | e <;> omega
@[simp] theorem c_impl_TileBox (w h i : Int) : C 19 [I w, I h, I i] = some (eBox (tileBox w h i), []) := by
  refine (call_eq Try.func19 rfl rfl (by decide +kernel) rfl).trans ?_
  simp -implicitDefEqProofs +contextual
  cases hi : tin i 0 (tileCount w h - 1) with
  | false => simp [tileBox, hi, Box.zero]
  | true =>
    obtain ⟨hw, h0, h1⟩ := tb_facts hi
    obtain ⟨e1, e2, e3, e4⟩ := tb_x (four hw) h0 h1
    simp [tileBox, hi, along_eq hw, four' hw, e1, e2, e3, e4]
@[simp] theorem c_spec_TileBox (w h i : Int) : C 18 [I w, I h, I i] = some (eBox (tileBox w h i), []) := by
  refine (call_eq Try.func18 rfl rfl (by decide +kernel) rfl).trans ?_
  simp -implicitDefEqProofs +contextual
  cases hi : tin i 0 (tileCount w h - 1) with
  | false => simp [tileBox, hi, Box.zero]
  | true =>
    obtain ⟨hw, h0, h1⟩ := tb_facts hi
    obtain ⟨e1, e2, e3, e4⟩ := tb_x (four hw) h0 h1
    simp [tileBox, hi, up4 hw, four' hw, e1, e2, e3, e4]
theorem c_laws_FnExactTileBox (w h i : Int) : C 4 [I w, I h, I i] = some (B true, []) := by
  refine (call_eq Try.func4 rfl rfl (by decide +kernel) rfl).trans ?_
  simp -implicitDefEqProofs +contextual
end Go.Proofs.Ytfhglldoejeedaa.Am
