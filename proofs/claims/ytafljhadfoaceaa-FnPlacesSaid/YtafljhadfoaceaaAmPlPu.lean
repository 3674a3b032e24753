import Derived.Test.YtafljhadfoaceaaAmPlMo
import Derived.Test.YtafljhadfoaceaaAmRo
import Derived.Test.YtafljhadfoaceaaAmLw
set_option linter.unusedVariables false
set_option linter.unusedSimpArgs false
set_option linter.unusedSectionVars false
namespace Go.Proofs.Ytafljhadfoaceaa.Am
open Go Go.Proofs
end Go.Proofs.Ytafljhadfoaceaa.Am
namespace Go.Proofs.Ytafljhadfoaceaa.Am
open Go Go.Proofs
set_option linter.unusedVariables false
set_option linter.unusedSimpArgs false
end Go.Proofs.Ytafljhadfoaceaa.Am
namespace Go.Proofs.Ytafljhadfoaceaa.Am
open Go Go.Proofs
set_option linter.unusedSimpArgs false
set_option linter.unusedVariables false
set_option maxRecDepth 100000
/-! ## Small words -/
def tin (x a b : Int) : Bool := ile a x && ile x b
theorem tin_t {x a b : Int} : tin x a b = true ↔ a ≤ x ∧ x ≤ b := by simp [tin, ile_t]
@[simp] theorem m_spec_l01In (x a b : Int) : spec_l01In x a b = some (tin x a b) := by
  unfold spec_l01In tin; cases ile a x <;> simp
@[simp] theorem m_impl_inRange (x a b : Int) : impl_inRange x a b = some (tin x a b) := by
  unfold impl_inRange tin; cases ile a x <;> simp
def tileCount (w h : Int) : Int := if tin w 1 12 && tin h 1 12 then ((w + 3) / 4) * ((h + 3) / 4) else 0
theorem four {w : Int} (h : tin w 1 12 = true) : (w + 3) / 4 = 1 ∨ (w + 3) / 4 = 2 ∨ (w + 3) / 4 = 3 := by rw [tin_t] at h; omega
theorem wr9 {w h : Int} (hw : tin w 1 12 = true) (hh : tin h 1 12 = true) : IntKind.i64.wrap ((w + 3) / 4 * ((h + 3) / 4)) = (w + 3) / 4 * ((h + 3) / 4) := by
  refine wr_in ?_
  rcases four hw with e | e | e <;> rcases four hh with f | f | f <;> rw [e, f] <;> decide
theorem up4 {w : Int} (h : tin w 1 12 = true) : IntKind.i64.wrap ((IntKind.i64.wrap (w + 3)).tdiv 4) = (w + 3) / 4 := by
  rw [tin_t] at h
  rw [wr_in (n := w + 3) (by omega), Int.tdiv_eq_ediv_of_nonneg (by omega), wr_in (by omega)]
def TBox.empty (b : TBox) : Bool := ile b.x1 b.x0 || ile b.y1 b.y0
def TBox.zero : TBox := ⟨0, 0, 0, 0⟩
def meet (a b : TBox) : TBox :=
  let c : TBox := ⟨max a.x0 b.x0, max a.y0 b.y0, min a.x1 b.x1, min a.y1 b.y1⟩
  if c.empty then .zero else c
@[simp] theorem m_spec_Empty (b : TBox) : spec_Empty b = some b.empty := by
  unfold spec_Empty TBox.empty; cases ile b.x1 b.x0 <;> simp
def inBox (b : TBox) (p : TPoint) : Bool := decide (b.x0 ≤ p.x ∧ p.x < b.x1 ∧ b.y0 ≤ p.y ∧ p.y < b.y1)
def tileBox (w h i : Int) : TBox :=
  if tin i 0 (tileCount w h - 1) then
    let x := i % ((w + 3) / 4) * 4
    let y := i / ((w + 3) / 4) * 4
    meet ⟨x, y, x + 4, y + 4⟩ ⟨0, 0, w, h⟩
  else .zero
theorem tc_bd (w h : Int) : 0 ≤ tileCount w h ∧ tileCount w h ≤ 9 := by
  unfold tileCount
  cases hw : tin w 1 12 <;> cases hh : tin h 1 12 <;> simp
  rcases four hw with e | e | e <;> rcases four hh with f | f | f <;> rw [e, f] <;> decide
@[simp] theorem tc_wrap (w h : Int) : IntKind.i64.wrap (tileCount w h - 1) = tileCount w h - 1 := by
  have := tc_bd w h
  exact wr_in (by omega)
theorem tb_facts {w h i : Int} (hi : tin i 0 (tileCount w h - 1) = true) : tin w 1 12 = true ∧ 0 ≤ i ∧ i ≤ 8 := by
  have := tc_bd w h
  rw [tin_t] at hi
  refine ⟨?_, by omega, by omega⟩
  cases hw : tin w 1 12 with
  | true => rfl
  | false =>
    have : tileCount w h = 0 := by simp [tileCount, hw]
    omega
theorem tb_x {r i : Int} (hr : r = 1 ∨ r = 2 ∨ r = 3) (h0 : 0 ≤ i) (h1 : i ≤ 8) : IntKind.i64.wrap (i.tmod r * 4) = i % r * 4 ∧ IntKind.i64.wrap (i % r * 4 + 4) = i % r * 4 + 4 ∧
    IntKind.i64.wrap (IntKind.i64.wrap (i.tdiv r) * 4) = i / r * 4 ∧ IntKind.i64.wrap (i / r * 4 + 4) = i / r * 4 + 4 := by
  rw [Int.tmod_eq_emod_of_nonneg h0, Int.tdiv_eq_ediv_of_nonneg h0]
  rcases hr with rfl | rfl | rfl
  · rw [wr_in (n := i / 1) (by omega)]; exact ⟨wr_in (by omega), wr_in (by omega), wr_in (by omega), wr_in (by omega)⟩
  · rw [wr_in (n := i / 2) (by omega)]; exact ⟨wr_in (by omega), wr_in (by omega), wr_in (by omega), wr_in (by omega)⟩
  · rw [wr_in (n := i / 3) (by omega)]; exact ⟨wr_in (by omega), wr_in (by omega), wr_in (by omega), wr_in (by omega)⟩
theorem four' {w : Int} (h : tin w 1 12 = true) : ¬ (w + 3) / 4 = 0 := by rcases four h with e | e | e <;> omega
/-! ## Draws -/
structure CurOk (c : TL01Cur) : Prop where
  lo : 0 ≤ c.i
  hi : c.i ≤ c.b.length
  big : c.b.length ≤ 1048576
theorem idx_of {α : Type} {l : List α} {i : Int} (h0 : 0 ≤ i) (h1 : i < l.length) : ∃ x, idx l i = some x ∧ x ∈ l := by
  have : i.toNat < l.length := by omega
  refine ⟨l[i.toNat], ?_, List.getElem_mem this⟩
  unfold idx; rw [if_pos h0]; exact List.getElem?_eq_getElem this
theorem and255 (x : Int) : 0 ≤ andI .i64 x 255 ∧ andI .i64 x 255 ≤ 255 := by
  have h : (BitVec.ofInt 64 x &&& BitVec.ofInt 64 255).toNat ≤ 255 := by
    rw [BitVec.toNat_and]
    exact Nat.le_trans Nat.and_le_right (by decide)
  have h2 : (((BitVec.ofInt 64 x &&& BitVec.ofInt 64 255).toNat : Nat) : Int) ≤ 255 := by exact_mod_cast h
  have e : andI .i64 x 255 = IntKind.i64.wrap (((BitVec.ofInt 64 x &&& BitVec.ofInt 64 255).toNat : Nat) : Int) := rfl
  rw [e, wr_in ⟨by omega, by omega⟩]
  exact ⟨by omega, h2⟩
theorem new_ok (a : List Int) (h : a.length ≤ 1048576) : ∃ c, spec_l01New a = some c ∧ CurOk c := by
  obtain ⟨s, h1, _⟩ := loopI_inv (f := spec_l01New_l0 a) (fun i (s : Int) => (s, (i : Int))) (min a.length 4000) (fun _ _ => True) (fun s => s) (s0 := IntKind.i64.wrap (28001 + (a.length : Int))) trivial
    (fun i s hi _ => by
      have e1 : ile (a.length : Int) (i : Int) = false := by rw [ile_f]; omega
      have e2 : ile 4000 (i : Int) = false := by rw [ile_f]; omega
      obtain ⟨x, hx, _⟩ := idx_of (l := a) (i := (i : Int)) (by omega) (by omega)
      have e3 : spec_l01New_l0 a (s, (i : Int)) = some (.inl (andI .i64 (IntKind.i64.wrap (IntKind.i64.wrap (IntKind.i64.wrap (s * 131) + IntKind.i64.wrap x) + 7)) 1073741823, ((i + 1 : Nat) : Int))) := by
        simp only [spec_l01New_l0, e1, e2, cnd_false, hx, bnd_some]
        rw [wr_in (n := (i : Int) + 1) (by omega)]
        rfl
      exact ⟨_, e3, trivial⟩)
    (fun s _ => by
      rcases Nat.le_total a.length 4000 with hl | hl
      · rw [Nat.min_eq_left hl]
        simp [spec_l01New_l0]
      · rw [Nat.min_eq_right hl]
        cases e1 : ile (a.length : Int) ((4000 : Nat) : Int)
        · have e2 : ile 4000 ((4000 : Nat) : Int) = true := by decide
          simp only [spec_l01New_l0, e1, e2, cnd_true, cnd_false]
        · simp only [spec_l01New_l0, e1, cnd_true])
  refine ⟨⟨a, 0, s⟩, ?_, by simp, by simp, h⟩
  unfold spec_l01New
  have : loopI (spec_l01New_l0 a) (IntKind.i64.wrap (28001 + (a.length : Int)), 0) = some s := h1
  rw [this]; rfl
theorem byte_ok {c : TL01Cur} (h : CurOk c) : ∃ r c', spec_l01Byte c = some (r, c') ∧ 0 ≤ r ∧ r ≤ 255 ∧ CurOk c' := by
  unfold spec_l01Byte
  cases e : ile (c.b.length : Int) c.i
  · rw [ile_f] at e
    obtain ⟨x, hx, _⟩ := idx_of (l := c.b) (i := c.i) h.lo e
    simp only [cnd_false, hx, bnd_some]
    have := h.big
    have := h.lo
    rw [wr_in (n := c.i + 1) (by omega)]
    exact ⟨_, _, rfl, (and255 _).1, (and255 _).2, by simp; omega, by simp; omega, h.big⟩
  · simp only [cnd_true]
    exact ⟨_, _, rfl, (and255 _).1, (and255 _).2, h.lo, h.hi, h.big⟩
theorem below_ok {c : TL01Cur} (h : CurOk c) {n : Int} (h0 : 0 < n) : ∃ r c', spec_l01Below n c = some (r, c') ∧ 0 ≤ r ∧ r < n ∧ CurOk c' := by
  unfold spec_l01Below
  have e0 : ile n 0 = false := by rw [ile_f]; exact h0
  have hn : ¬ n = 0 := by omega
  simp only [e0, cnd_false]
  obtain ⟨r1, c1, q1, a1, b1, k1⟩ := byte_ok h
  cases e1 : ile n 256
  · obtain ⟨r2, c2, q2, a2, b2, k2⟩ := byte_ok k1
    obtain ⟨r3, c3, q3, a3, b3, k3⟩ := byte_ok k2
    obtain ⟨r4, c4, q4, a4, b4, k4⟩ := byte_ok k3
    simp only [cnd_false, q1, q2, q3, q4, bnd_some, chkP_pos hn]
    rw [wr_in (n := r1 * 16777216) (by omega), wr_in (n := r2 * 65536) (by omega), wr_in (n := r3 * 256) (by omega)]
    rw [wr_in (n := r1 * 16777216 + r2 * 65536) (by omega)]
    rw [wr_in (n := r1 * 16777216 + r2 * 65536 + r3 * 256) (by omega)]
    rw [wr_in (by omega)]
    exact ⟨_, _, rfl, Int.tmod_nonneg _ (by omega), Int.tmod_lt_of_pos _ h0, k4⟩
  · simp only [cnd_true, q1, bnd_some, chkP_pos hn]
    exact ⟨_, _, rfl, Int.tmod_nonneg _ a1, Int.tmod_lt_of_pos _ h0, k1⟩
/-! ## Each square is in one tile -/
section
variable {a0 : List Int} {v3 v4 w h : Int}
end

/-! ## Loops that ask the same of all -/
theorem loopI_all {f : Int → Option (Int ⊕ (Unit ⊕ Unit))} (n : Nat) (p : Nat → Bool) (hn : n ≤ 9223372036854775807)
    (hs : ∀ i : Nat, i < n → f (i : Int) = cnd (p i) (some (.inl (IntKind.i64.wrap ((i : Int) + 1)))) (some (.inr (.inr ())))) (he : f (n : Int) = some (.inr (.inl ()))) :
    loopI f 0 = some (if (List.range n).all p then .inl () else .inr ()) := by
  have h := loopI_find (f := f) (fun i : Nat => (i : Int)) n (fun i => !(p i)) (fun _ => .inr ()) (r := .inl ()) (fun i hi => by
    rw [hs i hi, wr_in (by omega)]
    cases p i <;> simp) he
  have e : loopI f 0 = loopI f ((0 : Nat) : Int) := rfl
  rw [e, h]
  congr 1
  cases hq : (List.range n).find? (fun i => !(p i)) with
  | none =>
    rw [List.find?_eq_none] at hq
    have : (List.range n).all p = true := List.all_eq_true.2 fun x hx => by simpa using hq x hx
    rw [this]; rfl
  | some i =>
    have h1 := List.find?_some hq
    have h2 := List.mem_of_find?_eq_some hq
    have : (List.range n).all p = false := by
      rw [List.all_eq_false]; exact ⟨i, h2, by simpa using h1⟩
    rw [this]; rfl
theorem range_all {α : Type} {l : List α} {q : α → Bool} {p : Nat → Bool} (h : ∀ i (hi : i < l.length), p i = q l[i]) : (List.range l.length).all p = l.all q := by
  rw [Bool.eq_iff_iff, List.all_eq_true, List.all_eq_true]
  constructor
  · intro k x hx
    obtain ⟨i, hi, rfl⟩ := List.getElem_of_mem hx
    rw [← h i hi]; exact k i (List.mem_range.2 hi)
  · intro k i hi
    have hi := List.mem_range.1 hi
    rw [h i hi]; exact k _ (List.getElem_mem hi)
/-- Of a row, each element asked the same. -/
theorem loopI_row {α : Type} {l : List α} {f : Int → Option (Int ⊕ (Unit ⊕ Unit))} (q : α → Bool) (hn : l.length ≤ 9223372036854775807)
    (hs : ∀ (i : Nat) (h : i < l.length), f (i : Int) = cnd (q l[i]) (some (.inl (IntKind.i64.wrap ((i : Int) + 1)))) (some (.inr (.inr ())))) (he : f (l.length : Int) = some (.inr (.inl ()))) :
    loopI f 0 = some (if l.all q then .inl () else .inr ()) := by
  have h := loopI_all (f := f) l.length (fun i => if h : i < l.length then q l[i] else false) hn (fun i hi => by rw [hs i hi]; simp [hi]) he
  rw [h, range_all (q := q) (fun i hi => by simp [hi])]

/-! ## Masks -/
def TBox.isZero (b : TBox) : Bool := decide (b.x0 = 0) && (decide (b.y0 = 0) && (decide (b.x1 = 0) && (decide (b.y1 = 0))))
theorem empty_f {b : TBox} : b.empty = false ↔ b.x0 < b.x1 ∧ b.y0 < b.y1 := by simp [TBox.empty, ile_f]
/-! ## The first of a row that is asked for -/
def fst {α : Type} (q : α → Bool) (l : List α) : Int := match l.findIdx? q with | some i => (i : Int) | none => -1
theorem loopI_index {α ρ : Type} {l : List α} {f : Int → Option (Int ⊕ ρ)} (q : α → Bool) (a : ρ) (b : Int → ρ) (hn : l.length ≤ 9223372036854775807)
    (hs : ∀ (i : Nat) (h : i < l.length), f (i : Int) = cnd (q l[i]) (some (.inr (b (i : Int)))) (some (.inl (IntKind.i64.wrap ((i : Int) + 1))))) (he : f (l.length : Int) = some (.inr a)) :
    loopI f 0 = some (match l.findIdx? q with | some i => b (i : Int) | none => a) := by
  have h := loopI_find (f := f) (fun i : Nat => (i : Int)) l.length (fun i => match l[i]? with | some x => q x | none => false) (fun i => b (i : Int)) (r := a) (fun i hi => by
    rw [hs i hi, wr_in (by omega), List.getElem?_eq_getElem hi]
    cases h : q l[i] <;> simp [h]) he
  have e : loopI f 0 = loopI f ((0 : Nat) : Int) := rfl
  rw [e, h]
  have : (List.range l.length).find? (fun i => match l[i]? with | some x => q x | none => false) = l.findIdx? q := by
    cases hq : l.findIdx? q with
    | none =>
      rw [List.findIdx?_eq_none_iff] at hq
      rw [List.find?_eq_none]
      intro i hi
      have hi := List.mem_range.1 hi
      rw [List.getElem?_eq_getElem hi]
      simp [hq _ (List.getElem_mem hi)]
    | some i =>
      rw [List.findIdx?_eq_some_iff_getElem] at hq
      obtain ⟨h1, h2, h3⟩ := hq
      rw [List.find?_range_eq_some]
      refine ⟨by rw [List.getElem?_eq_getElem h1]; exact h2, by simpa using h1, fun j hj => ?_⟩
      have := h3 j hj
      rw [List.getElem?_eq_getElem (by omega)]
      simpa using this
  rw [this]
  cases l.findIdx? q <;> rfl
theorem fst_eq {α : Type} {q : α → Bool} {l : List α} {i : Nat} (hi : i < l.length) (hq : q l[i] = true) : fst q l = (i : Int) ↔ ∀ k (hk : k < i), q l[k] = false := by
  unfold fst
  cases h : l.findIdx? q with
  | none =>
    rw [List.findIdx?_eq_none_iff] at h
    have := h _ (List.getElem_mem hi)
    rw [hq] at this; cases this
  | some j =>
    rw [List.findIdx?_eq_some_iff_getElem] at h
    obtain ⟨h1, h2, h3⟩ := h
    show (j : Int) = (i : Int) ↔ _
    constructor
    · intro e k hk
      have : j = i := by omega
      have := h3 k (by omega)
      simpa using this
    · intro e
      have : ¬ j < i := fun hj => by have := e j hj; rw [h2] at this; cases this
      have : ¬ i < j := fun hj => h3 i hj hq
      show (j : Int) = i
      omega

/-! ## Caches -/
/-! ## Surfaces -/
theorem m_spec_ColorOk (c : TColor) : spec_ColorOk c = some (tin c.r 0 255 && tin c.g 0 255 && tin c.b 0 255 && tin c.a 0 255) := by
  unfold spec_ColorOk
  simp only [m_spec_l01In, bnd_some]
  cases tin c.r 0 255 <;> cases tin c.g 0 255 <;> cases tin c.b 0 255 <;> simp
theorem m_impl_isByte (x : Int) : impl_isByte x = some (tin x 0 255) := by unfold impl_isByte; simp only [m_impl_inRange, bnd_some]
theorem m_impl_ColorOk (c : TColor) : impl_ColorOk c = some (tin c.r 0 255 && tin c.g 0 255 && tin c.b 0 255 && tin c.a 0 255) := by
  unfold impl_ColorOk
  simp only [m_impl_isByte, bnd_some]
  cases tin c.r 0 255 <;> cases tin c.g 0 255 <;> cases tin c.b 0 255 <;> simp
/-! ## Loops from a number to another one -/
/-! ## Sparing -/
/-! ## Marks -/
/-! ## TilesOf -/
/-! ## Painting a part of a surface -/
section
variable {α : Type}
end

/-! ## Colours: the program's words are the reference's -/
/-! ## LayOver -/
/-! ## Paints -/
instance decCol : DecidableEq TColor := fun a b => decidable_of_iff (a.r = b.r ∧ a.g = b.g ∧ a.b = b.b ∧ a.a = b.a) (by cases a; cases b; simp)
instance decPt : DecidableEq TPoint := fun a b => decidable_of_iff (a.x = b.x ∧ a.y = b.y) (by cases a; cases b; simp)
theorem s_PointOk (p : TPoint) : impl_PointOk p = spec_PointOk p := by
  unfold impl_PointOk spec_PointOk impl_isFar
  rw [m_impl_inRange, m_spec_l01In, m_impl_inRange, m_spec_l01In]; rfl
theorem t_PointOk (p : TPoint) : spec_PointOk p = some (tin p.x (-8388608) 8388608 && tin p.y (-8388608) 8388608) := by
  unfold spec_PointOk
  rw [m_spec_l01In, bnd_some, m_spec_l01In]
  cases tin p.x (-8388608) 8388608 <;> simp
def pointOk (p : TPoint) : Bool := tin p.x (-8388608) 8388608 && tin p.y (-8388608) 8388608
def colOk (c : TColor) : Bool := tin c.r 0 255 && tin c.g 0 255 && tin c.b 0 255 && tin c.a 0 255
def paintOk (p : TPaint) : Bool := colOk p.first && if p.kind = 1 then decide (p.last = ⟨0, 0, 0, 0⟩) && decide (p.from_ = ⟨0, 0⟩) && decide (p.to = ⟨0, 0⟩)
  else decide (p.kind = 2) && colOk p.last && pointOk p.from_ && pointOk p.to && !decide (p.from_ = p.to)
theorem col_eq {c d : TColor} : andB (decide (c.r = d.r)) (andB (decide (c.g = d.g)) (andB (decide (c.b = d.b)) (andB (decide (c.a = d.a)) true))) = decide (c = d) := by
  cases c; cases d; simp [andB, Bool.decide_and]
theorem pt_eq {c d : TPoint} : andB (decide (c.x = d.x)) (andB (decide (c.y = d.y)) true) = decide (c = d) := by
  cases c; cases d; simp [andB, Bool.decide_and]
theorem m_spec_PaintOk (p : TPaint) : spec_PaintOk p = some (paintOk p) := by
  unfold spec_PaintOk paintOk
  rw [m_spec_ColorOk, bnd_some]
  have e1 := col_eq (c := p.last) (d := ⟨0, 0, 0, 0⟩)
  have e2 := pt_eq (c := p.from_) (d := ⟨0, 0⟩)
  have e3 := pt_eq (c := p.to) (d := ⟨0, 0⟩)
  have e4 := pt_eq (c := p.from_) (d := p.to)
  dsimp only at e1 e2 e3
  rw [e1, e2, e3, e4, m_spec_ColorOk, t_PointOk, t_PointOk]
  show cnd (colOk p.first) _ _ = _
  cases colOk p.first
  · rfl
  rw [cnd_true, Bool.true_and]
  by_cases h1 : p.kind = 1
  · rw [h1, iqt, cnd_true, if_pos rfl]
    cases decide (p.last = ⟨0, 0, 0, 0⟩) <;> simp only [cnd_true, cnd_false, Bool.false_and, Bool.true_and]
    cases decide (p.from_ = ⟨0, 0⟩) <;> simp
  · rw [iqf h1, cnd_false, if_neg h1]
    by_cases h2 : p.kind = 2
    · rw [h2, iqt, cnd_true]
      simp only [bnd_some, decide_true, Bool.true_and]
      show cnd (colOk p.last) _ _ = _
      cases colOk p.last <;> simp only [cnd_true, cnd_false, Bool.false_and, Bool.true_and]
      show cnd (pointOk p.from_) _ _ = _
      cases pointOk p.from_ <;> simp only [cnd_true, cnd_false, Bool.false_and, Bool.true_and]
      show cnd (pointOk p.to) _ _ = _
      cases pointOk p.to <;> simp
    · rw [iqf h2, cnd_false]; simp [h2]
theorem m_impl_PaintOk (p : TPaint) : impl_PaintOk p = some (paintOk p) := by
  unfold impl_PaintOk paintOk
  have e1 := col_eq (c := p.last) (d := ⟨0, 0, 0, 0⟩)
  have e2 := pt_eq (c := p.from_) (d := ⟨0, 0⟩)
  have e3 := pt_eq (c := p.to) (d := ⟨0, 0⟩)
  have e4 := pt_eq (c := p.from_) (d := p.to)
  dsimp only at e1 e2 e3
  by_cases h1 : p.kind = 1
  · rw [h1, iqt, cnd_true, m_impl_ColorOk, bnd_some, if_pos rfl]
    show cnd (colOk p.first) _ _ = _
    cases colOk p.first
    · rfl
    rw [cnd_true, Bool.true_and]
    congr 1
    rw [← e1, ← e2, ← e3]
    simp only [andB, decide_true, Bool.true_and, Bool.and_true, Bool.and_assoc]
  · rw [iqf h1, cnd_false, if_neg h1]
    by_cases h2 : p.kind = 2
    · rw [h2, iqt, cnd_true, e4, m_impl_ColorOk, m_impl_ColorOk, s_PointOk, s_PointOk, t_PointOk, t_PointOk]
      simp only [bnd_some, decide_true, Bool.true_and]
      show cnd (colOk p.first) _ _ = _
      cases colOk p.first <;> simp only [cnd_true, cnd_false, Bool.false_and, Bool.true_and]
      show cnd (colOk p.last) _ _ = _
      cases colOk p.last <;> simp only [cnd_true, cnd_false, Bool.false_and, Bool.true_and]
      show cnd (pointOk p.from_) _ _ = _
      cases pointOk p.from_ <;> simp only [cnd_true, cnd_false, Bool.false_and, Bool.true_and]
      show cnd (pointOk p.to) _ _ = _
      cases pointOk p.to <;> simp
    · rw [iqf h2, cnd_false]; simp [h2]
/-! ## PaintMask -/
/-! ## What blending yields -/
/-! ## Draws: each is told -/
theorem loopI_tot {σ ρ : Type} {f : σ → Option (σ ⊕ ρ)} (I : σ → Prop) (Q : ρ → Prop) (rk : σ → Nat) (hs : ∀ x, I x → (∃ y, f x = some (.inl y) ∧ I y ∧ rk y < rk x) ∨ (∃ r, f x = some (.inr r) ∧ Q r)) {x : σ} (hx : I x) : ∃ r, loopI f x = some r ∧ Q r := by
  have key : ∀ (n : Nat) (x : σ), rk x < n → I x → ∃ r, loopI f x = some r ∧ Q r := by
    intro n
    induction n with
    | zero => intro x h; omega
    | succ n ih =>
      intro x h hI
      rcases hs x hI with ⟨y, h1, h2, h3⟩ | ⟨r, h1, h2⟩
      · rw [loopI_go h1]; exact ih y (by omega) h2
      · exact ⟨r, loopI_end h1, h2⟩
  exact key (rk x + 1) x (by omega) hx
theorem pick_ok {c : TL01Cur} (h : CurOk c) {l : List Int} (h0 : 0 < l.length) : ∃ x c', spec_l01PickInt c l = some (x, c') ∧ x ∈ l ∧ CurOk c' := by
  obtain ⟨r, c', e, r0, r1, k⟩ := below_ok h (n := (l.length : Int)) (by omega)
  obtain ⟨x, hx, hm⟩ := idx_of (l := l) (i := r) r0 r1
  unfold spec_l01PickInt
  rw [e, bnd_some]
  try dsimp only
  rw [hx, bnd_some]
  exact ⟨x, c', rfl, hm, k⟩
theorem once_ok {c : TL01Cur} (h : CurOk c) {n : Int} (h0 : 0 < n) : ∃ b c', spec_l01Once n c = some (b, c') ∧ CurOk c' := by
  obtain ⟨r, c', e, r0, r1, k⟩ := below_ok h h0
  unfold spec_l01Once
  rw [e, bnd_some]
  exact ⟨_, c', rfl, k⟩
theorem point_ok {c : TL01Cur} (h : CurOk c) : ∃ p c', spec_l04Point c = some (p, c') ∧ CurOk c' := by
  obtain ⟨r, c1, e1, _, _, k1⟩ := below_ok h (n := 3600) (by omega)
  obtain ⟨s, c2, e2, _, _, k2⟩ := below_ok k1 (n := 3600) (by omega)
  unfold spec_l04Point
  rw [e1, bnd_some]
  try dsimp only
  rw [e2, bnd_some]
  exact ⟨_, c2, rfl, k2⟩
def need (v : Int) : Int := if v = 1 then 1 else if v = 2 then 1 else if v = 3 then 2 else if v = 4 then 3 else if v = 5 then 0 else -1
theorem m_NeedOf (v : Int) : spec_NeedOf v = some (need v) := by
  unfold spec_NeedOf
  rw [m_spec_l01In, bnd_some]
  cases h : tin v 1 5 with
  | false =>
    have h' : ¬ (1 ≤ v ∧ v ≤ 5) := by rw [← tin_t, h]; simp
    rw [cnd_false]; unfold need
    rw [if_neg (by omega), if_neg (by omega), if_neg (by omega), if_neg (by omega), if_neg (by omega)]
  | true =>
    rw [tin_t] at h
    have : v = 1 ∨ v = 2 ∨ v = 3 ∨ v = 4 ∨ v = 5 := by omega
    rcases this with rfl | rfl | rfl | rfl | rfl <;> decide
theorem need_bd (v : Int) : -1 ≤ need v ∧ need v ≤ 3 := by unfold need; repeat' split <;> omega
/-- Points drawn, as many as a verb needs. -/
theorem pts_ok {f : Int × List Int × Int × Int × List TPoint → Option ((Int × List Int × Int × Int × List TPoint) ⊕ (List Int × Int × Int × List TPoint))} {n : Int} (hn : n ≤ 3)
    (hf : ∀ (k : Int) (b : List Int) (i h : Int) (ps : List TPoint), f (k, b, i, h, ps) = bnd (some n) fun v => cnd (ile v k) (some (.inr (b, i, h, ps))) (bnd (spec_l04Point ⟨b, i, h⟩) fun (w, c) => chkP ((List.length ps + 1) * 16 ≤ 17592186044416) (nam ((ps ++ [w]) : List TPoint) fun l => some (.inl (IntKind.i64.wrap (k + 1), c.b, c.i, c.h, l)))))
    {c : TL01Cur} (hc : CurOk c) {ps : List TPoint} (hl : ps.length ≤ 100) : ∃ b i h ps', loopI f (0, c.b, c.i, c.h, ps) = some (b, i, h, ps') ∧ CurOk ⟨b, i, h⟩ ∧ (ps'.length : Int) = (ps.length : Int) + max n 0 := by
  obtain ⟨r, h1, h2⟩ := loopI_tot (f := f) (fun s => 0 ≤ s.1 ∧ s.1 ≤ max n 0 ∧ CurOk ⟨s.2.1, s.2.2.1, s.2.2.2.1⟩ ∧ (s.2.2.2.2.length : Int) = (ps.length : Int) + s.1) (fun r => CurOk ⟨r.1, r.2.1, r.2.2.1⟩ ∧ (r.2.2.2.length : Int) = (ps.length : Int) + max n 0) (fun s => (max n 0 - s.1).toNat)
    (by
      rintro ⟨k, b, i, h, qs⟩ ⟨k0, k1, k2, k3⟩
      dsimp only at k0 k1 k2 k3
      rw [hf, bnd_some]
      by_cases hk : n ≤ k
      · right
        rw [ilt hk, cnd_true]
        exact ⟨_, rfl, k2, by (try dsimp only) <;> omega⟩
      · left
        obtain ⟨p, c', e, kc⟩ := point_ok k2
        rw [ilf (by omega), cnd_false, e, bnd_some]
        try dsimp only
        rw [chkP_pos (by omega), nam_eq, wr_in (by omega)]
        exact ⟨_, rfl, ⟨by (try dsimp only) <;> omega, by (try dsimp only) <;> omega, kc, by simp <;> omega⟩, by (try dsimp only) <;> omega⟩)
    (x := (0, c.b, c.i, c.h, ps)) ⟨by omega, by (try dsimp only) <;> omega, hc, by (try dsimp only) <;> omega⟩
  obtain ⟨b, i, h, ps'⟩ := r
  exact ⟨b, i, h, ps', h1, h2.1, h2.2⟩
theorem verbs_mem {v : Int} (h : v ∈ [2, 2, 2, 3, 4, 5, 1]) : 0 ≤ need v := by
  simp only [List.mem_cons, List.mem_nil_iff, or_false] at h
  rcases h with rfl | rfl | rfl | rfl | rfl | rfl | rfl <;> decide
/-! ## Lines and masks of drawn paths: each is told -/
def nsum (vs : List Int) (i : Nat) : Int := ((vs.take i).map need).sum
theorem nsum_succ {vs : List Int} {i : Nat} (h : i < vs.length) : nsum vs (i + 1) = nsum vs i + need vs[i] := by
  unfold nsum
  rw [List.take_add_one, List.getElem?_eq_getElem h, List.map_append, List.sum_append]
  simp
structure VOk (vs : List Int) (n : Int) : Prop where
  all : ∀ i (h : i < vs.length), 0 ≤ need vs[i]
  one : ∀ h : 0 < vs.length, vs[0] = 1
  sum : nsum vs vs.length = n
theorem nsum_bd {vs : List Int} : ∀ i, i ≤ vs.length → (∀ j (h : j < vs.length), j < i → 0 ≤ need vs[j]) → 0 ≤ nsum vs i ∧ nsum vs i ≤ 3 * (i : Int) := by
  intro i
  induction i with
  | zero => intro _ _; simp [nsum]
  | succ i ih =>
    intro hi h
    have h1 := ih (by omega) (fun j hj hji => h j hj (by omega))
    have h2 := h i (by omega) (by omega)
    have h3 := need_bd vs[i]
    rw [nsum_succ (by omega)]
    omega
theorem pathOk_t (p : TPath) : ∃ b, spec_PathOk p = some b ∧ (b = true → p.verbs.length ≤ 24 ∧ p.points.length ≤ 24 ∧ VOk p.verbs (p.points.length : Int)) := by
  unfold spec_PathOk
  by_cases h1 : (p.points.length : Int) ≤ 24
  case neg => rw [ilf (by omega), cnd_false]; exact ⟨false, rfl, fun h => by cases h⟩
  by_cases h2 : (p.verbs.length : Int) ≤ 24
  case neg => rw [ilt h1, cnd_true, ilf (by omega), cnd_false]; exact ⟨false, rfl, fun h => by cases h⟩
  rw [ilt h1, ilt h2, cnd_true, cnd_true]
  obtain ⟨r, e1, e2⟩ := loopI_tot (f := spec_PathOk_l0 p) (fun s => ∃ i : Nat, s.2 = (i : Int) ∧ i ≤ p.verbs.length ∧ s.1 = nsum p.verbs i ∧ (∀ j (h : j < p.verbs.length), j < i → 0 ≤ need p.verbs[j]) ∧ (∀ h : 0 < p.verbs.length, 0 < i → p.verbs[0] = 1))
    (fun r => match r with | .inl y => y = nsum p.verbs p.verbs.length ∧ (∀ j (h : j < p.verbs.length), 0 ≤ need p.verbs[j]) ∧ (∀ h : 0 < p.verbs.length, p.verbs[0] = 1) | .inr _ => True) (fun s => (p.verbs.length - s.2).toNat)
    (by
      rintro ⟨x, y⟩ ⟨i, hy, hi, hx, ha, ho⟩
      dsimp only at hy hx
      subst hy; subst hx
      have hb := nsum_bd i hi ha
      rw [spec_PathOk_l0]
      by_cases hlt : i < p.verbs.length
      case neg =>
        right
        rw [ilt (by omega), cnd_true]
        have : i = p.verbs.length := by omega
        subst this
        exact ⟨_, rfl, rfl, fun j h => ha j h h, fun h => ho h h⟩
      have nb := need_bd p.verbs[i]
      rw [ilf (by omega), cnd_false, idx_nat hlt, bnd_some, m_NeedOf, bnd_some]
      by_cases hn : 0 ≤ need p.verbs[i]
      case neg => right; rw [ilf (by omega), cnd_false]; exact ⟨_, rfl, trivial⟩
      rw [ilt hn, cnd_true, wr_in (n := nsum p.verbs i + need p.verbs[i]) (by omega), wr_in (n := (i : Int) + 1) (by omega)]
      have step : ∀ ho' : (∀ h : 0 < p.verbs.length, p.verbs[0] = 1), ∃ k : Nat, (nsum p.verbs i + need p.verbs[i], (i : Int) + 1).2 = (k : Int) ∧ k ≤ p.verbs.length ∧ (nsum p.verbs i + need p.verbs[i], (i : Int) + 1).1 = nsum p.verbs k ∧ (∀ j (h : j < p.verbs.length), j < k → 0 ≤ need p.verbs[j]) ∧ (∀ h : 0 < p.verbs.length, 0 < k → p.verbs[0] = 1) := by
        intro ho'
        refine ⟨i + 1, by simp, by omega, (nsum_succ hlt).symm, fun j h hj => ?_, fun h _ => ho' h⟩
        by_cases hji : j = i
        · subst hji; exact hn
        · exact ha j h (by omega)
      by_cases h0 : i = 0
      · subst h0
        have z : ((0 : Nat) : Int) = 0 := rfl
        rw [z, iqt, cnd_true]
        by_cases hv : p.verbs[0] = 1
        · left
          rw [hv, iqt, cnd_true]
          rw [hv] at step
          exact ⟨_, rfl, step (fun _ => hv), by (try dsimp only) <;> omega⟩
        · right; rw [iqf hv, cnd_false]; exact ⟨_, rfl, trivial⟩
      · rw [iqf (by omega), cnd_false, wr_in (n := (i : Int) - 1) (by omega)]
        obtain ⟨q, hq, _⟩ := idx_of (l := p.verbs) (i := (i : Int) - 1) (by omega) (by omega)
        have ho' : ∀ h : 0 < p.verbs.length, p.verbs[0] = 1 := fun h => ho h (by omega)
        rw [hq, bnd_some]
        by_cases h5 : q = 5
        · rw [h5, iqt, cnd_true]
          by_cases hv : p.verbs[i] = 1
          · left
            rw [hv, iqt, cnd_true]
            rw [hv] at step
            exact ⟨_, rfl, step ho', by (try dsimp only) <;> omega⟩
          · right; rw [iqf hv, cnd_false]; exact ⟨_, rfl, trivial⟩
        · left
          rw [iqf h5, cnd_false]
          exact ⟨_, rfl, step ho', by (try dsimp only) <;> omega⟩)
    (x := (0, 0)) ⟨0, rfl, by omega, by simp [nsum], fun j _ h => by omega, fun _ h => by omega⟩
  rw [e1, bnd_some]
  rcases r with y | u
  · have key := loopI_row (l := p.points) (f := spec_PathOk_l1 p y) (fun q => tin q.x (-8388608) 8388608 && tin q.y (-8388608) 8388608) (by omega) (fun i hi => by rw [spec_PathOk_l1, ilf (by omega), cnd_false, idx_nat hi, bnd_some, t_PointOk, bnd_some]) (by rw [spec_PathOk_l1, ilt (by omega), cnd_true])
    try dsimp only
    rw [key, bnd_some]
    cases p.points.all (fun q => tin q.x (-8388608) 8388608 && tin q.y (-8388608) 8388608)
    · exact ⟨false, rfl, fun h => by cases h⟩
    · refine ⟨ieq y (p.points.length : Int), rfl, fun h => ⟨by omega, by omega, e2.2.1, e2.2.2, ?_⟩⟩
      have : y = (p.points.length : Int) := by simpa [ieq] using h
      rw [← e2.1]; exact this
  · exact ⟨false, rfl, fun h => by cases h⟩
/-! ## Masks of lines -/
theorem color_ok {c : TL01Cur} (h : CurOk c) : ∃ x c', spec_l12Color c = some (x, c') ∧ CurOk c' := by
  unfold spec_l12Color
  obtain ⟨r1, c1, e1, _, _, k1⟩ := below_ok h (n := 256) (by omega)
  obtain ⟨r2, c2, e2, _, _, k2⟩ := below_ok k1 (n := 256) (by omega)
  obtain ⟨r3, c3, e3, _, _, k3⟩ := below_ok k2 (n := 256) (by omega)
  obtain ⟨v, c4, e4, _, k4⟩ := pick_ok k3 (l := [255, 255, 128, 0, 1, 200]) (by simp)
  rw [e1, bnd_some]
  try dsimp only
  rw [e2, bnd_some]
  try dsimp only
  rw [e3, bnd_some]
  try dsimp only
  rw [e4, bnd_some]
  exact ⟨_, _, rfl, k4⟩
theorem paint_ok {c : TL01Cur} (h : CurOk c) : ∃ x c', spec_l12Paint c = some (x, c') ∧ CurOk c' := by
  unfold spec_l12Paint
  obtain ⟨x, c1, e1, k1⟩ := color_ok h
  obtain ⟨b, c2, e2, k2⟩ := once_ok k1 (n := 3) (by omega)
  rw [e1, bnd_some]
  try dsimp only
  rw [e2, bnd_some]
  try dsimp only
  cases b
  · exact ⟨_, _, rfl, k2⟩
  obtain ⟨y, c3, e3, k3⟩ := color_ok k2
  obtain ⟨p, c4, e4, k4⟩ := point_ok k3
  obtain ⟨q, c5, e5, k5⟩ := point_ok k4
  rw [cnd_true, e3, bnd_some]
  try dsimp only
  rw [e4, bnd_some]
  try dsimp only
  rw [e5, bnd_some]
  try dsimp only
  cases andB (decide (p.x = q.x)) (andB (decide (p.y = q.y)) true) <;> exact ⟨_, _, rfl, k5⟩
/-! ## FnLayers -/
/-! ## FnPaintsOn -/
/-! ## Scenes: the program's word is the reference's -/
theorem loopI_congr {σ ρ : Type} {f g : σ → Option (σ ⊕ ρ)} (I : σ → Prop) (h : ∀ x, I x → f x = g x) (hi : ∀ x y, I x → f x = some (.inl y) → I y) {x : σ} (hx : I x) : loopI f x = loopI g x := by
  have key : ∀ (k : Nat) (x : σ), I x → loopN' f k x = loopN' g k x := by
    intro k
    induction k with
    | zero => intro x _; rfl
    | succ k ih =>
      intro x hI
      rw [loopN', loopN', ← h x hI]
      cases hf : f x with
      | none => rfl
      | some o => cases o with
        | inl y => exact ih y (hi x y hI hf)
        | inr r => rfl
  refine opt_ext fun r => ?_
  rw [loopI_iff, loopI_iff]
  constructor
  · rintro ⟨k, hk⟩; exact ⟨k, by rw [← key k x hx]; exact hk⟩
  · rintro ⟨k, hk⟩; exact ⟨k, by rw [key k x hx]; exact hk⟩
def matOk (m : TMat) : Bool := tin m.a (-1048576) 1048576 && tin m.b (-1048576) 1048576 && tin m.c (-1048576) 1048576 && tin m.d (-1048576) 1048576 && tin m.e (-8388608) 8388608 && tin m.f (-8388608) 8388608
theorem m_spec_MatOk (m : TMat) : spec_MatOk m = some (matOk m) := by
  unfold spec_MatOk matOk
  have e : IntKind.i64.wrap (0 - 1048576) = -1048576 := by decide
  rw [e]
  simp only [m_spec_l01In, bnd_some]
  cases tin m.a (-1048576) 1048576 <;> cases tin m.b (-1048576) 1048576 <;> cases tin m.c (-1048576) 1048576 <;> cases tin m.d (-1048576) 1048576 <;> cases tin m.e (-8388608) 8388608 <;> simp
theorem m_impl_MatOk (m : TMat) : impl_MatOk m = some (matOk m) := by
  unfold impl_MatOk matOk
  have key := loopI_row (l := [m.a, m.b, m.c, m.d]) (f := impl_MatOk_l0 m) (fun x => tin x (-1048576) 1048576) (by simp) (fun i hi => by
    have hi' : i < 4 := hi
    rw [impl_MatOk_l0, ilf (by omega), cnd_false, idx_nat hi, bnd_some, m_impl_inRange, bnd_some]) (by rw [impl_MatOk_l0, ilt (by simp), cnd_true])
  rw [key]
  unfold impl_isFar
  simp only [m_impl_inRange, bnd_some, List.all_cons, List.all_nil, Bool.and_true]
  cases tin m.a (-1048576) 1048576 <;> cases tin m.b (-1048576) 1048576 <;> cases tin m.c (-1048576) 1048576 <;> cases tin m.d (-1048576) 1048576 <;> cases tin m.e (-8388608) 8388608 <;> simp
theorem m_impl_NeedOf (v : Int) : impl_NeedOf v = some (need v) := by
  unfold impl_NeedOf need
  by_cases h1 : v = 1
  · subst h1; simp [ieq]
  by_cases h2 : v = 2
  · subst h2; simp [ieq]
  by_cases h3 : v = 3
  · subst h3; simp [ieq]
  by_cases h4 : v = 4
  · subst h4; simp [ieq]
  by_cases h5 : v = 5
  · subst h5; simp [ieq]
  simp [ieq, h1, h2, h3, h4, h5]
theorem pathL0_eq (p : TPath) (hl : p.verbs.length ≤ 24) : loopI (impl_PathOk_l0 p) (0, 0) = loopI (spec_PathOk_l0 p) (0, 0) := by
  refine loopI_congr (fun s => ∃ i : Nat, s.2 = (i : Int) ∧ i ≤ p.verbs.length) ?_ ?_ ⟨0, rfl, by omega⟩
  · rintro ⟨x, y⟩ ⟨i, hy, hi⟩
    dsimp only at hy
    subst hy
    rw [impl_PathOk_l0, spec_PathOk_l0]
    by_cases hlt : i < p.verbs.length
    case neg => rw [ilt (by omega), cnd_true, cnd_true]
    rw [ilf (by omega), cnd_false, cnd_false, idx_nat hlt, bnd_some, bnd_some, m_impl_NeedOf, m_NeedOf, bnd_some, bnd_some]
    by_cases h0 : i = 0
    · subst h0
      have z : ((0 : Nat) : Int) = 0 := rfl
      rw [z, iqt, cnd_true, cnd_true]
    · rw [iqf (by omega), cnd_false, cnd_false, wr_in (n := (i : Int) - 1) (by omega)]
      obtain ⟨q, hq, _⟩ := idx_of (l := p.verbs) (i := (i : Int) - 1) (by omega) (by omega)
      rw [hq, bnd_some, bnd_some]
  · rintro ⟨x, y⟩ ⟨x', y'⟩ ⟨i, hy, hi⟩ hf
    dsimp only at hy
    subst hy
    rw [impl_PathOk_l0] at hf
    by_cases hlt : i < p.verbs.length
    case neg => rw [ilt (by omega), cnd_true] at hf; cases hf
    refine ⟨i + 1, ?_, by omega⟩
    rw [ilf (by omega), cnd_false, idx_nat hlt, bnd_some, m_impl_NeedOf, bnd_some, wr_in (n := (i : Int) + 1) (by omega)] at hf
    have fin : ∀ {z : Int}, (some (.inl (z, (i : Int) + 1)) : Option ((Int × Int) ⊕ (Int ⊕ Unit))) = some (.inl (x', y')) → y' = ((i + 1 : Nat) : Int) := by
      intro z h; simp only [Option.some.injEq, Sum.inl.injEq, Prod.mk.injEq] at h; omega
    by_cases h0 : i = 0
    · subst h0
      have z : ((0 : Nat) : Int) = 0 := rfl
      rw [z, iqt, cnd_true] at hf
      cases h1 : ile 0 (need p.verbs[0]) <;> rw [h1] at hf
      · cases hf
      · rw [cnd_true] at hf
        cases h2 : ieq p.verbs[0] 1 <;> rw [h2] at hf
        · cases hf
        · exact fin hf
    · rw [iqf (by omega), cnd_false, wr_in (n := (i : Int) - 1) (by omega)] at hf
      obtain ⟨q, hq, _⟩ := idx_of (l := p.verbs) (i := (i : Int) - 1) (by omega) (by omega)
      rw [hq, bnd_some] at hf
      cases h1 : ile 0 (need p.verbs[i]) <;> rw [h1] at hf
      · cases hf
      · rw [cnd_true] at hf
        cases h3 : ieq q 5 <;> rw [h3] at hf
        · exact fin hf
        · rw [cnd_true] at hf
          cases h2 : ieq p.verbs[i] 1 <;> rw [h2] at hf
          · cases hf
          · exact fin hf
theorem pathL0_t (p : TPath) (hl : p.verbs.length ≤ 24) : ∃ r, loopI (spec_PathOk_l0 p) (0, 0) = some r := by
  obtain ⟨r, e, _⟩ := loopI_tot (f := spec_PathOk_l0 p) (fun s => ∃ i : Nat, s.2 = (i : Int) ∧ i ≤ p.verbs.length) (fun _ => True) (fun s => ((p.verbs.length : Int) - s.2).toNat)
    (by
      rintro ⟨x, y⟩ ⟨i, hy, hi⟩
      dsimp only at hy
      subst hy
      rw [spec_PathOk_l0]
      by_cases hlt : i < p.verbs.length
      case neg => right; rw [ilt (by omega), cnd_true]; exact ⟨_, rfl, trivial⟩
      rw [ilf (by omega), cnd_false, idx_nat hlt, bnd_some, m_NeedOf, bnd_some, wr_in (n := (i : Int) + 1) (by omega)]
      have fin : ∀ z : Int, ∃ y : Int × Int, (some (.inl (z, (i : Int) + 1)) : Option ((Int × Int) ⊕ (Int ⊕ Unit))) = some (.inl y) ∧ (∃ k : Nat, y.2 = (k : Int) ∧ k ≤ p.verbs.length) ∧ ((p.verbs.length : Int) - y.2).toNat < ((p.verbs.length : Int) - (x, (i : Int)).2).toNat := by
        intro z
        exact ⟨_, rfl, ⟨i + 1, by simp, by omega⟩, by (try dsimp only) <;> omega⟩
      cases ile 0 (need p.verbs[i])
      · right; exact ⟨_, rfl, trivial⟩
      rw [cnd_true]
      by_cases h0 : i = 0
      · subst h0
        have z : ((0 : Nat) : Int) = 0 := rfl
        rw [z, iqt, cnd_true]
        cases ieq p.verbs[0] 1
        · right; exact ⟨_, rfl, trivial⟩
        · left; exact fin _
      · rw [iqf (by omega), cnd_false, wr_in (n := (i : Int) - 1) (by omega)]
        obtain ⟨q, hq, _⟩ := idx_of (l := p.verbs) (i := (i : Int) - 1) (by omega) (by omega)
        rw [hq, bnd_some]
        cases ieq q 5
        · left; exact fin _
        · rw [cnd_true]
          cases ieq p.verbs[i] 1
          · right; exact ⟨_, rfl, trivial⟩
          · left; exact fin _)
    (x := (0, 0)) ⟨0, rfl, by omega⟩
  exact ⟨r, e⟩
theorem s_PathOk (p : TPath) : impl_PathOk p = spec_PathOk p ∧ ∃ b, spec_PathOk p = some b := by
  obtain ⟨b, e, _⟩ := pathOk_t p
  refine ⟨?_, b, e⟩
  unfold impl_PathOk spec_PathOk
  by_cases h1 : (p.points.length : Int) ≤ 24
  case neg => rw [ilf (by omega), cnd_false, cnd_false]
  by_cases h2 : (p.verbs.length : Int) ≤ 24
  case neg => rw [ilt h1, cnd_true, cnd_true, ilf (by omega), cnd_false, cnd_false]
  rw [ilt h1, ilt h2]
  simp only [cnd_true]
  obtain ⟨r, er⟩ := pathL0_t p (by omega)
  rw [pathL0_eq p (by omega), er]
  have k1 := loopI_row (l := p.points) (f := impl_pointsOk_l0 p.points) (fun q => tin q.x (-8388608) 8388608 && tin q.y (-8388608) 8388608) (by omega) (fun i hi => by rw [impl_pointsOk_l0, ilf (by omega), cnd_false, idx_nat hi, bnd_some, s_PointOk, t_PointOk, bnd_some]) (by rw [impl_pointsOk_l0, ilt (by omega), cnd_true])
  unfold impl_pointsOk
  rw [k1]
  simp only [bnd_some]
  rcases r with y | u
  · have k2 := loopI_row (l := p.points) (f := spec_PathOk_l1 p y) (fun q => tin q.x (-8388608) 8388608 && tin q.y (-8388608) 8388608) (by omega) (fun i hi => by rw [spec_PathOk_l1, ilf (by omega), cnd_false, idx_nat hi, bnd_some, t_PointOk, bnd_some]) (by rw [spec_PathOk_l1, ilt (by omega), cnd_true])
    simp only
    rw [k2]
    cases p.points.all (fun q => tin q.x (-8388608) 8388608 && tin q.y (-8388608) 8388608) <;> rfl
  · simp only
    cases p.points.all (fun q => tin q.x (-8388608) 8388608 && tin q.y (-8388608) 8388608) <;> rfl
theorem s_DashOk {l : List Int} (hl : l.length ≤ 1048576) : impl_DashOk l = spec_DashOk l ∧ ∃ b, spec_DashOk l = some b := by
  have k1 := loopI_row (l := l) (f := impl_DashOk_l0 l) (fun x => tin x 1 20000) (by omega) (fun i hi => by rw [impl_DashOk_l0, ilf (by omega), cnd_false, idx_nat hi, bnd_some, m_impl_inRange, bnd_some]) (by rw [impl_DashOk_l0, ilt (by omega), cnd_true])
  have k2 := loopI_row (l := l) (f := spec_DashOk_l0 l) (fun x => tin x 1 20000) (by omega) (fun i hi => by rw [spec_DashOk_l0, ilf (by omega), cnd_false, idx_nat hi, bnd_some, m_spec_l01In, bnd_some]) (by rw [spec_DashOk_l0, ilt (by omega), cnd_true])
  unfold impl_DashOk spec_DashOk
  rw [k1, k2]
  cases l.all (fun x => tin x 1 20000)
  · (first | exact ⟨rfl, _, rfl⟩ | exact ⟨trivial, _, rfl⟩)
  · simp only [if_true, bnd_some]
    cases ieq ((l.length : Int).tmod 2) 0 <;> (first | exact ⟨rfl, _, rfl⟩ | exact ⟨trivial, _, rfl⟩)
theorem s_NodeOk {x : TNode} (hl : x.dashes.length ≤ 1048576) : impl_NodeOk x = spec_NodeOk x ∧ ∃ b, spec_NodeOk x = some b := by
  obtain ⟨d1, db, d2⟩ := s_DashOk hl
  obtain ⟨p1, pb, p2⟩ := s_PathOk x.path
  obtain ⟨q1, qb, q2⟩ := s_PathOk x.clip
  unfold impl_NodeOk spec_NodeOk impl_isMode impl_Path_isNone spec_l15NoPath spec_l15NoPaint
  rw [d1, d2, p1, p2, q1, q2]
  simp only [m_impl_inRange, m_spec_l01In, bnd_some, m_impl_MatOk, m_spec_MatOk, m_impl_isByte, m_impl_PaintOk, m_spec_PaintOk]
  cases tin x.id 1 99
  · (first | exact ⟨rfl, _, rfl⟩ | exact ⟨trivial, _, rfl⟩)
  cases tin x.parent 0 99
  · (first | exact ⟨rfl, _, rfl⟩ | exact ⟨trivial, _, rfl⟩)
  cases ieq x.id x.parent
  case true => (first | exact ⟨rfl, _, rfl⟩ | exact ⟨trivial, _, rfl⟩)
  cases matOk x.mat
  · (first | exact ⟨rfl, _, rfl⟩ | exact ⟨trivial, _, rfl⟩)
  cases pb
  · (first | exact ⟨rfl, _, rfl⟩ | exact ⟨trivial, _, rfl⟩)
  cases qb
  · (first | exact ⟨rfl, _, rfl⟩ | exact ⟨trivial, _, rfl⟩)
  cases tin x.width 0 2048
  · (first | exact ⟨rfl, _, rfl⟩ | exact ⟨trivial, _, rfl⟩)
  cases db
  · (first | exact ⟨rfl, _, rfl⟩ | exact ⟨trivial, _, rfl⟩)
  cases tin x.mode 1 5
  · (first | exact ⟨rfl, _, rfl⟩ | exact ⟨trivial, _, rfl⟩)
  cases tin x.fade 0 255
  · (first | exact ⟨rfl, _, rfl⟩ | exact ⟨trivial, _, rfl⟩)
  cases x.group
  · (first | exact ⟨rfl, _, rfl⟩ | exact ⟨trivial, _, rfl⟩)
  simp only [cnd_true, cnd_false]
  generalize (andB (decide (x.paint.kind = 0)) _) = u
  cases u <;> cases ieq (x.path.verbs.length : Int) 0 <;> simp only [cnd_true, cnd_false, bnd_some]
  · (first | exact ⟨rfl, _, rfl⟩ | exact ⟨trivial, _, rfl⟩)
  · cases ieq (x.path.points.length : Int) 0 <;> (first | exact ⟨rfl, _, rfl⟩ | exact ⟨trivial, _, rfl⟩)
  · (first | exact ⟨rfl, _, rfl⟩ | exact ⟨trivial, _, rfl⟩)
  · cases ieq (x.path.points.length : Int) 0 <;> simp only [cnd_true, cnd_false]
    · (first | exact ⟨rfl, _, rfl⟩ | exact ⟨trivial, _, rfl⟩)
    · cases ieq x.width 0 <;> simp only [cnd_true, cnd_false]
      · (first | exact ⟨rfl, _, rfl⟩ | exact ⟨trivial, _, rfl⟩)
      · cases ieq (x.dashes.length : Int) 0 <;> (first | exact ⟨rfl, _, rfl⟩ | exact ⟨trivial, _, rfl⟩)
def nodeAt (s : TScene) (id : Int) : Int := fst (fun k => ieq k.id id) s.nodes
theorem fst_in {α : Type} {q : α → Bool} {l : List α} (h : 0 ≤ fst q l) : ∃ x, idx l (fst q l) = some x := by
  unfold fst at h ⊢
  cases hq : l.findIdx? q with
  | none => rw [hq] at h; simp at h
  | some i =>
    rw [List.findIdx?_eq_some_iff_getElem] at hq
    obtain ⟨h1, _⟩ := hq
    exact ⟨_, idx_nat h1⟩
theorem m_impl_NodeAt {s : TScene} {id : Int} (h : s.nodes.length ≤ 1048576) : impl_NodeAt s id = some (nodeAt s id) := by
  unfold impl_NodeAt slices_IndexFunc_Node_NodeAt_1
  have e : s.nodes.length ≤ 9223372036854775807 := by omega
  rw [loopI_index (l := s.nodes) (fun k => ieq k.id id) (.inl ()) .inr e (fun i hi => ?_) ?_]
  · unfold nodeAt fst
    cases List.findIdx? (fun k : TNode => ieq k.id id) s.nodes <;> rfl
  · rw [slices_IndexFunc_Node_NodeAt_1_l0, ilt (by omega), cnd_true]
  · rw [slices_IndexFunc_Node_NodeAt_1_l0, ilf (by omega), cnd_false, idx_nat hi, bnd_some, impl_NodeAt_1, bnd_some]
theorem m_spec_NodeAt {s : TScene} {id : Int} (h : s.nodes.length ≤ 1048576) : spec_NodeAt s id = some (nodeAt s id) := by
  unfold spec_NodeAt
  have e : s.nodes.length ≤ 9223372036854775807 := by omega
  rw [loopI_index (l := s.nodes) (fun k => ieq k.id id) (.inl ()) .inr e (fun i hi => ?_) ?_]
  · unfold nodeAt fst
    cases List.findIdx? (fun k : TNode => ieq k.id id) s.nodes <;> rfl
  · rw [spec_NodeAt_l0, ilt (by omega), cnd_true]
  · rw [spec_NodeAt_l0, ilf (by omega), cnd_false, idx_nat hi, bnd_some]
def outI : Int ⊕ Unit → Int
  | .inl y => y
  | .inr _ => 0
theorem depth_eq {s : TScene} (h : s.nodes.length ≤ 1048576) : ∀ (m : Nat) (n : Int) (id : Int), n + (m : Int) = 9 → 1 ≤ n → id ≠ 0 → ∃ q q', loopI (impl_DepthOf_l0 s) (id, n) = some q ∧ loopI (spec_DepthOf_l0 s) (id, n - 1, n - 1) = some q' ∧ outI q = outI q' := by
  intro m
  induction m with
  | zero =>
    intro n id hn h1 hid
    have : n = 9 := by omega
    subst this
    have e1 : loopI (impl_DepthOf_l0 s) (id, 9) = some (.inr ()) := loopI_end (by rw [impl_DepthOf_l0, ilf (by omega), cnd_false])
    by_cases ha : 0 ≤ nodeAt s id
    · obtain ⟨x, hx⟩ := fst_in ha
      have hx' : idx s.nodes (nodeAt s id) = some x := hx
      have e2 : spec_DepthOf_l0 s (id, 9 - 1, 9 - 1) = some (.inl (x.parent, 9, 9)) := by
        rw [spec_DepthOf_l0, ilt (by omega), cnd_true, iqf hid, cnd_false, m_spec_NodeAt h, bnd_some, ilt ha, cnd_true, hx', bnd_some, wr_in (by omega)]; rfl
      have e3 : loopI (spec_DepthOf_l0 s) (x.parent, 9, 9) = some (.inr ()) := loopI_end (by rw [spec_DepthOf_l0, ilf (by omega), cnd_false])
      exact ⟨_, _, e1, by rw [loopI_go e2]; exact e3, rfl⟩
    · have e2 : loopI (spec_DepthOf_l0 s) (id, 9 - 1, 9 - 1) = some (.inl 0) := loopI_end (by
        rw [spec_DepthOf_l0, ilt (by omega), cnd_true, iqf hid, cnd_false, m_spec_NodeAt h, bnd_some, ilf (by omega), cnd_false])
      exact ⟨_, _, e1, e2, rfl⟩
  | succ m ih =>
    intro n id hn h1 hid
    by_cases ha : 0 ≤ nodeAt s id
    · obtain ⟨x, hx⟩ := fst_in ha
      have hx' : idx s.nodes (nodeAt s id) = some x := hx
      have e2 : spec_DepthOf_l0 s (id, n - 1, n - 1) = some (.inl (x.parent, n, n)) := by
        rw [spec_DepthOf_l0, ilt (by omega), cnd_true, iqf hid, cnd_false, m_spec_NodeAt h, bnd_some, ilt ha, cnd_true, hx', bnd_some, wr_in (by omega), show n - 1 + 1 = n by omega]
      by_cases hp : x.parent = 0
      · have e1 : loopI (impl_DepthOf_l0 s) (id, n) = some (.inl n) := loopI_end (by
          rw [impl_DepthOf_l0, ilt (by omega), cnd_true, m_impl_NodeAt h, bnd_some, ilt ha, cnd_true, hx', bnd_some, hp, iqt, cnd_true])
        have e3 : loopI (spec_DepthOf_l0 s) (x.parent, n, n) = some (.inl n) := loopI_end (by rw [spec_DepthOf_l0, ilt (by omega), cnd_true, hp, iqt, cnd_true])
        exact ⟨_, _, e1, by rw [loopI_go e2]; exact e3, rfl⟩
      · have e1 : impl_DepthOf_l0 s (id, n) = some (.inl (x.parent, n + 1)) := by
          rw [impl_DepthOf_l0, ilt (by omega), cnd_true, m_impl_NodeAt h, bnd_some, ilt ha, cnd_true, hx', bnd_some, iqf hp, cnd_false, wr_in (by omega)]
        obtain ⟨q, q', f1, f2, f3⟩ := ih (n + 1) x.parent (by omega) (by omega) hp
        have f2' : loopI (spec_DepthOf_l0 s) (x.parent, n, n) = some q' := by
          rw [show n + 1 - 1 = n by omega] at f2; exact f2
        exact ⟨q, q', by rw [loopI_go e1]; exact f1, by rw [loopI_go e2]; exact f2', f3⟩
    · have e1 : loopI (impl_DepthOf_l0 s) (id, n) = some (.inl 0) := loopI_end (by
        rw [impl_DepthOf_l0, ilt (by omega), cnd_true, m_impl_NodeAt h, bnd_some, ilf (by omega), cnd_false])
      have e2 : loopI (spec_DepthOf_l0 s) (id, n - 1, n - 1) = some (.inl 0) := loopI_end (by
        rw [spec_DepthOf_l0, ilt (by omega), cnd_true, iqf hid, cnd_false, m_spec_NodeAt h, bnd_some, ilf (by omega), cnd_false])
      exact ⟨_, _, e1, e2, rfl⟩
theorem s_DepthOf {s : TScene} (h : s.nodes.length ≤ 1048576) (id : Int) : ∃ v, impl_DepthOf s id = some v ∧ spec_DepthOf s id = some v := by
  unfold impl_DepthOf spec_DepthOf
  by_cases hid : id = 0
  · subst hid
    have e : loopI (spec_DepthOf_l0 s) (0, 0, 0) = some (.inl 0) := loopI_end (by rw [spec_DepthOf_l0, ilt (by omega), cnd_true, iqt, cnd_true])
    rw [iqt, cnd_true, e]
    exact ⟨0, rfl, rfl⟩
  · obtain ⟨q, q', e1, e2, e3⟩ := depth_eq h 8 1 id (by omega) (by omega) hid
    have e2' : loopI (spec_DepthOf_l0 s) (id, 0, 0) = some q' := e2
    rw [iqf hid, cnd_false, e1, e2']
    refine ⟨outI q, ?_, ?_⟩
    · cases q <;> rfl
    · rw [e3]; cases q' <;> rfl
structure RowsS (s : TScene) : Prop where
  n : s.nodes.length ≤ 1048576
  d : ∀ x ∈ s.nodes, x.dashes.length ≤ 1048576
theorem s_SceneOk {s : TScene} (h : RowsS s) : impl_SceneOk s = spec_SceneOk s ∧ ∃ b, spec_SceneOk s = some b := by
  have hn := h.n
  unfold impl_SceneOk spec_SceneOk
  by_cases h8 : (s.nodes.length : Int) ≤ 8
  case neg => rw [ilf (by omega), cnd_false, cnd_false]; (first | exact ⟨rfl, _, rfl⟩ | exact ⟨trivial, _, rfl⟩)
  rw [ilt h8, cnd_true, cnd_true]
  have step : ∀ (i : Nat) (hi : i < s.nodes.length), ∃ b : Bool, impl_SceneOk_l0 s (i : Int) = cnd b (some (.inl (IntKind.i64.wrap ((i : Int) + 1)))) (some (.inr (.inr ()))) ∧ spec_SceneOk_l0 s (i : Int) = cnd b (some (.inl (IntKind.i64.wrap ((i : Int) + 1)))) (some (.inr (.inr ()))) := by
    intro i hi
    obtain ⟨n1, nb, n2⟩ := s_NodeOk (h.d _ (List.getElem_mem hi))
    obtain ⟨v, v1, v2⟩ := s_DepthOf hn (s.nodes[i]).id
    rw [impl_SceneOk_l0, spec_SceneOk_l0, ilf (by omega), cnd_false, cnd_false, idx_nat hi, bnd_some, bnd_some, n1, n2, bnd_some, bnd_some]
    cases nb
    · exact ⟨false, rfl, rfl⟩
    rw [cnd_true, cnd_true, m_impl_NodeAt hn, m_spec_NodeAt hn, bnd_some, bnd_some]
    cases ieq (nodeAt s (s.nodes[i]).id) (i : Int)
    · exact ⟨false, rfl, rfl⟩
    rw [cnd_true, cnd_true, v2, bnd_some, m_spec_l01In, bnd_some, m_spec_NodeAt hn]
    unfold impl_Scene_isParent
    rw [m_impl_NodeAt hn, bnd_some]
    by_cases hp : (s.nodes[i]).parent = 0
    · rw [hp, iqt, cnd_true, bnd_some, cnd_true, v1, bnd_some, m_impl_inRange, bnd_some, bnd_some, cnd_true]
      exact ⟨tin v 1 4, rfl, rfl⟩
    · rw [iqf hp, cnd_false, bnd_some, cnd_false]
      by_cases ha : 0 ≤ nodeAt s (s.nodes[i]).parent
      · obtain ⟨x, hx⟩ := fst_in ha
        have hx' : idx s.nodes (nodeAt s (s.nodes[i]).parent) = some x := hx
        rw [ilt ha, cnd_true, cnd_true, hx', bnd_some, bnd_some, bnd_some, v1, bnd_some, m_impl_inRange, bnd_some]
        refine ⟨x.group && tin v 1 4, ?_, ?_⟩
        · cases x.group <;> cases tin v 1 4 <;> rfl
        · cases x.group <;> cases tin v 1 4 <;> rfl
      · rw [ilf (by omega), cnd_false, cnd_false, bnd_some, cnd_false]
        refine ⟨false, rfl, ?_⟩
        cases tin v 1 4 <;> rfl
  have hc : ∀ (i : Nat), ∃ b : Bool, ∀ hi : i < s.nodes.length, impl_SceneOk_l0 s (i : Int) = cnd b (some (.inl (IntKind.i64.wrap ((i : Int) + 1)))) (some (.inr (.inr ()))) ∧ spec_SceneOk_l0 s (i : Int) = cnd b (some (.inl (IntKind.i64.wrap ((i : Int) + 1)))) (some (.inr (.inr ()))) := by
    intro i
    by_cases hi : i < s.nodes.length
    · obtain ⟨b, h1⟩ := step i hi; exact ⟨b, fun _ => h1⟩
    · exact ⟨false, fun h => absurd h hi⟩
  let B : Nat → Bool := fun i => (hc i).choose
  have hB : ∀ i (hi : i < s.nodes.length), impl_SceneOk_l0 s (i : Int) = cnd (B i) (some (.inl (IntKind.i64.wrap ((i : Int) + 1)))) (some (.inr (.inr ()))) ∧ spec_SceneOk_l0 s (i : Int) = cnd (B i) (some (.inl (IntKind.i64.wrap ((i : Int) + 1)))) (some (.inr (.inr ()))) := fun i hi => (hc i).choose_spec hi
  have k1 := loopI_all (f := impl_SceneOk_l0 s) s.nodes.length B (by omega) (fun i hi => (hB i hi).1) (by rw [impl_SceneOk_l0, ilt (by omega), cnd_true])
  have k2 := loopI_all (f := spec_SceneOk_l0 s) s.nodes.length B (by omega) (fun i hi => (hB i hi).2) (by rw [spec_SceneOk_l0, ilt (by omega), cnd_true])
  rw [k1, k2]
  cases (List.range s.nodes.length).all B <;> (first | exact ⟨rfl, _, rfl⟩ | exact ⟨trivial, _, rfl⟩)

/-! ## EngineOk -/
/-! ## EngineNew -/
/-! ## FnSets: draws -/
theorem mat_ok {c : TL01Cur} (h : CurOk c) : ∃ m c', spec_l04Mat c = some (m, c') ∧ CurOk c' := by
  obtain ⟨r, c1, e1, _, _, k1⟩ := below_ok h (n := 1200) (by omega)
  obtain ⟨s, c2, e2, _, _, k2⟩ := below_ok k1 (n := 1200) (by omega)
  obtain ⟨t, c3, e3, _, _, k3⟩ := below_ok k2 (n := 6) (by omega)
  obtain ⟨u, c4, e4, _, _, k4⟩ := below_ok k3 (n := 65536) (by omega)
  obtain ⟨v, c5, e5, _, _, k5⟩ := below_ok k4 (n := 65536) (by omega)
  unfold spec_l04Mat spec_Shift
  rw [e1, bnd_some]
  try dsimp only
  rw [e2, bnd_some]
  try dsimp only
  rw [bnd_some, e3, bnd_some]
  try dsimp only
  cases ieq t 0 with
  | true =>
    rw [cnd_true, e4, bnd_some]
    try dsimp only
    rw [e5, bnd_some]
    exact ⟨_, c5, rfl, k5⟩
  | false =>
    rw [cnd_false]
    cases ieq t 1 with
    | true => exact ⟨_, c3, rfl, k3⟩
    | false =>
      rw [cnd_false]
      cases ieq t 2 with
      | true =>
        rw [cnd_true, e4, bnd_some]
        exact ⟨_, c4, rfl, k4⟩
      | false => exact ⟨_, c3, rfl, k3⟩
theorem rectk_ok {b : TBox} (h : b.empty = false) (h1 : -8388608 ≤ b.x0 ∧ b.x1 ≤ 8388608 ∧ -8388608 ≤ b.y0 ∧ b.y1 ≤ 8388608) : ∃ vs ps, spec_RectPath b = some (vs, ps) ∧ vs.length = 5 ∧ ps.length = 4 := by
  rw [empty_f] at h
  have t1 : tin b.x0 (-8388608) 8388608 = true := by rw [tin_t]; omega
  have t2 : tin b.x1 (-8388608) 8388608 = true := by rw [tin_t]; omega
  have t3 : tin b.y0 (-8388608) 8388608 = true := by rw [tin_t]; omega
  have t4 : tin b.y1 (-8388608) 8388608 = true := by rw [tin_t]; omega
  unfold spec_RectPath
  rw [m_spec_Empty, bnd_some, empty_f.2 h, cnd_false, t_PointOk, t_PointOk]
  simp only [bnd_some, t1, t2, t3, t4, Bool.and_self, cnd_true]
  exact ⟨_, _, rfl, rfl, rfl⟩
/-- A path drawn: cursor, verbs and points apart. -/
theorem pathk_ok {c : TL01Cur} (h : CurOk c) : ∃ c' vs ps, spec_l06Path c = some (c', vs, ps) ∧ CurOk c' ∧ 1 ≤ vs.length ∧ vs.length ≤ 24 ∧ 1 ≤ ps.length ∧ ps.length ≤ 24 := by
  obtain ⟨b, c1, e1, k1⟩ := once_ok h (n := 2) (by omega)
  unfold spec_l06Path
  rw [e1, bnd_some]
  try dsimp only
  cases b with
  | true =>
    rw [cnd_true]
    obtain ⟨x, c2, e2, x0, x1, k2⟩ := below_ok k1 (n := 2400) (by omega)
    obtain ⟨y, c3, e3, y0, y1, k3⟩ := below_ok k2 (n := 2400) (by omega)
    obtain ⟨u, c4, e4, u0, u1, k4⟩ := below_ok k3 (n := 1500) (by omega)
    obtain ⟨v, c5, e5, v0, v1, k5⟩ := below_ok k4 (n := 1500) (by omega)
    rw [e2, bnd_some]
    try dsimp only
    rw [e3, bnd_some]
    try dsimp only
    rw [e4, bnd_some]
    try dsimp only
    rw [e5, bnd_some]
    try dsimp only
    rw [wr_in (n := x + 1) (by omega), wr_in (n := y + 1) (by omega), wr_in (n := x + 1 + u) (by omega), wr_in (n := y + 1 + v) (by omega)]
    obtain ⟨vs, ps, ep, p1, p2⟩ := rectk_ok (b := ⟨x, y, x + 1 + u, y + 1 + v⟩) (by rw [empty_f]; (try dsimp only) <;> omega) (by (try dsimp only) <;> omega)
    rw [ep, bnd_some]
    exact ⟨c5, vs, ps, rfl, k5, by omega, by omega, by omega, by omega⟩
  | false =>
    rw [cnd_false]
    obtain ⟨r, h1, h2⟩ := loopI_tot (f := spec_l06Path_l3) (fun s => 0 ≤ s.1 ∧ s.1 ≤ 6 ∧ CurOk ⟨s.2.1, s.2.2.1, s.2.2.2.1⟩ ∧ (s.2.2.2.2.1.length : Int) = s.1 ∧ s.2.2.2.2.2.length ≤ 24 ∧ (s.1 = 0 → s.2.2.2.2.2.length = 0) ∧ (0 < s.1 → 1 ≤ s.2.2.2.2.2.length))
      (fun r => match r with
        | .inl (b, i, h, vs, ps) => CurOk ⟨b, i, h⟩ ∧ 1 ≤ vs.length ∧ vs.length ≤ 24 ∧ 1 ≤ ps.length ∧ ps.length ≤ 24
        | .inr (b, i, h, vs, ps) => CurOk ⟨b, i, h⟩ ∧ 1 ≤ vs.length ∧ vs.length ≤ 24 ∧ 1 ≤ ps.length ∧ ps.length ≤ 24) (fun s => (6 - s.1).toNat)
      (by
        rintro ⟨x, b, i, h, vs, ps⟩ ⟨x0, x1, kc, hv, hp, hp0, hp1⟩
        dsimp only at x0 x1 kc hv hp hp0 hp1
        obtain ⟨w, d, e2, w0, w1, kd⟩ := below_ok kc (n := 6) (by omega)
        rw [spec_l06Path_l3, e2, bnd_some]
        try dsimp only
        rw [wr_in (n := 1 + w) (by omega)]
        by_cases hx : 1 + w ≤ x
        · right
          rw [ilt hx, cnd_true]
          exact ⟨_, rfl, kd, by omega, by omega, hp1 (by omega), hp⟩
        · obtain ⟨v, d2, e3, hm, kd2⟩ := pick_ok kd (l := [2, 2, 2, 3, 4, 5, 1]) (by simp)
          rw [ilf (by omega), cnd_false, e3, bnd_some]
          try dsimp only
          by_cases hz : x = 0
          · have hp0' := hp0 hz
            rw [hz, iqt, cnd_true, m_NeedOf, bnd_some]
            have n1 : need 1 = 1 := by decide
            rw [n1, wr_in (n := (ps.length : Int) + 1) (by omega), ilt (by omega), cnd_true, chkP_pos (by omega), nam_eq]
            left
            obtain ⟨b', i', h', ps', e4, k4, l4⟩ := pts_ok (f := spec_l06Path_l0 (vs ++ [1]) 0) (n := 1) (by omega) (fun k b i h ps => by rw [spec_l06Path_l0, m_NeedOf, n1]) kd2 (ps := ps) (by omega)
            rw [e4, bnd_some]
            try dsimp only
            rw [wr_in (by omega)]
            exact ⟨_, rfl, ⟨by (try dsimp only) <;> omega, by (try dsimp only) <;> omega, k4, by simp <;> omega, by (try dsimp only) <;> omega, by (try dsimp only) <;> omega, by (try dsimp only) <;> omega⟩, by (try dsimp only) <;> omega⟩
          · have hp1' := hp1 (by omega)
            rw [iqf hz, cnd_false, wr_in (n := x - 1) (by omega)]
            obtain ⟨q, hq, _⟩ := idx_of (l := vs) (i := x - 1) (by omega) (by omega)
            rw [hq, bnd_some]
            by_cases h5 : q = 5
            · rw [h5, iqt, cnd_true, m_NeedOf, bnd_some]
              have n1 : need 1 = 1 := by decide
              rw [n1, wr_in (n := (ps.length : Int) + 1) (by omega)]
              by_cases hq : (ps.length : Int) + 1 ≤ 24
              · left
                rw [ilt hq, cnd_true, chkP_pos (by omega), nam_eq]
                obtain ⟨b', i', h', ps', e4, k4, l4⟩ := pts_ok (f := spec_l06Path_l1 (vs ++ [1]) x) (n := 1) (by omega) (fun k b i h ps => by rw [spec_l06Path_l1, m_NeedOf, n1]) kd2 (ps := ps) (by omega)
                rw [e4, bnd_some]
                try dsimp only
                rw [wr_in (by omega)]
                exact ⟨_, rfl, ⟨by (try dsimp only) <;> omega, by (try dsimp only) <;> omega, k4, by simp <;> omega, by (try dsimp only) <;> omega, by (try dsimp only) <;> omega, by (try dsimp only) <;> omega⟩, by (try dsimp only) <;> omega⟩
              · right
                rw [ilf (by omega), cnd_false]
                exact ⟨_, rfl, kd2, by omega, by omega, hp1', hp⟩
            · have nb := need_bd v
              have n0 := verbs_mem hm
              rw [iqf h5, cnd_false, m_NeedOf, bnd_some, wr_in (n := (ps.length : Int) + need v) (by omega)]
              by_cases hq : (ps.length : Int) + need v ≤ 24
              · left
                rw [ilt hq, cnd_true, chkP_pos (by omega), nam_eq]
                obtain ⟨b', i', h', ps', e4, k4, l4⟩ := pts_ok (f := spec_l06Path_l2 (vs ++ [v]) v x) (n := need v) (by omega) (fun k b i h ps => by rw [spec_l06Path_l2, m_NeedOf]) kd2 (ps := ps) (by omega)
                rw [e4, bnd_some]
                try dsimp only
                rw [wr_in (by omega)]
                exact ⟨_, rfl, ⟨by (try dsimp only) <;> omega, by (try dsimp only) <;> omega, k4, by simp <;> omega, by (try dsimp only) <;> omega, by (try dsimp only) <;> omega, by (try dsimp only) <;> omega⟩, by (try dsimp only) <;> omega⟩
              · right
                rw [ilf (by omega), cnd_false]
                exact ⟨_, rfl, kd2, by omega, by omega, hp1', hp⟩)
      (x := (0, c1.b, c1.i, c1.h, [], [])) ⟨by omega, by (try dsimp only) <;> omega, k1, by simp, by simp, by simp, by simp⟩
    rw [h1, bnd_some]
    rcases r with ⟨b, i, h, vs, ps⟩ | ⟨b, i, h, vs, ps⟩
    · exact ⟨_, _, _, rfl, h2⟩
    · exact ⟨_, _, _, rfl, h2⟩
/-- Rows of a node: short ones. -/
structure NS (x : TNode) : Prop where
  v : x.path.verbs.length ≤ 24
  p : x.path.points.length ≤ 24
  d : x.dashes.length ≤ 2
  cv : x.clip.verbs.length ≤ 24
  cp : x.clip.points.length ≤ 24
noncomputable def ntail (a0 a1 w3 w6 : Int) (m : TMat) (cl : TPath) (c : TL01Cur) : Option (TNode × TL01Cur) :=
  bnd (spec_l01Once 3 c) fun (w22, w23) =>
  cnd w22 (
   some ((TNode.mk a0 a1 true m (TPath.mk [] []) false 0 [] (TPaint.mk 0 (TColor.mk 0 0 0 0) (TColor.mk 0 0 0 0) (TPoint.mk 0 0) (TPoint.mk 0 0)) w3 w6 cl), w23)) (
   bnd (spec_l06Path w23) fun (w25, w26, w27) =>
   bnd (spec_l01Once 3 w25) fun (w29, w30) =>
   bnd (spec_l12Paint w30) fun (w32, w33) =>
   bnd (spec_l01Once 3 w33) fun (w35, w36) =>
   cnd w35 (
    bnd (spec_l01Below 600 w36) fun (w38, w39) =>
    bnd (spec_l01Once 2 w39) fun (w41, w42) =>
    cnd w41 (
     bnd (spec_l01Below 500 w42) fun (w44, w45) =>
     bnd (spec_l01Below 500 w45) fun (w47, w48) =>
     some ((TNode.mk a0 a1 false m (TPath.mk w26 w27) w29 (IntKind.i64.wrap (1 + w38)) [(IntKind.i64.wrap (100 + w44)), (IntKind.i64.wrap (50 + w47))] w32 w3 w6 cl), w48)) (
     some ((TNode.mk a0 a1 false m (TPath.mk w26 w27) w29 (IntKind.i64.wrap (1 + w38)) [] w32 w3 w6 cl), w42))) (
    some ((TNode.mk a0 a1 false m (TPath.mk w26 w27) w29 0 [] w32 w3 w6 cl), w36)))
theorem ntail_ok {a0 a1 w3 w6 : Int} {m : TMat} {cl : TPath} {c : TL01Cur} (h : CurOk c) (h1 : cl.verbs.length ≤ 24) (h2 : cl.points.length ≤ 24) :
    ∃ x c', ntail a0 a1 w3 w6 m cl c = some (x, c') ∧ CurOk c' ∧ NS x ∧ x.id = a0 ∧ x.parent = a1 := by
  obtain ⟨b1, c1, e1, k1⟩ := once_ok h (n := 3) (by omega)
  unfold ntail
  rw [e1, bnd_some]
  try dsimp only
  cases b1 with
  | true => exact ⟨_, c1, rfl, k1, ⟨by simp, by simp, by simp, h1, h2⟩, rfl, rfl⟩
  | false =>
    obtain ⟨c2, vs, ps, e2, k2, _, l1, _, l2⟩ := pathk_ok k1
    obtain ⟨b3, c3, e3, k3⟩ := once_ok k2 (n := 3) (by omega)
    obtain ⟨pt, c4, e4, k4⟩ := paint_ok k3
    obtain ⟨b5, c5, e5, k5⟩ := once_ok k4 (n := 3) (by omega)
    rw [cnd_false, e2, bnd_some]
    try dsimp only
    rw [e3, bnd_some]
    try dsimp only
    rw [e4, bnd_some]
    try dsimp only
    rw [e5, bnd_some]
    try dsimp only
    cases b5 with
    | false => exact ⟨_, c5, rfl, k5, ⟨l1, l2, by simp, h1, h2⟩, rfl, rfl⟩
    | true =>
      obtain ⟨x6, c6, e6, _, _, k6⟩ := below_ok k5 (n := 600) (by omega)
      obtain ⟨b7, c7, e7, k7⟩ := once_ok k6 (n := 2) (by omega)
      rw [cnd_true, e6, bnd_some]
      try dsimp only
      rw [e7, bnd_some]
      try dsimp only
      cases b7 with
      | false => exact ⟨_, c7, rfl, k7, ⟨l1, l2, by simp, h1, h2⟩, rfl, rfl⟩
      | true =>
        obtain ⟨x8, c8, e8, _, _, k8⟩ := below_ok k7 (n := 500) (by omega)
        obtain ⟨x9, c9, e9, _, _, k9⟩ := below_ok k8 (n := 500) (by omega)
        rw [cnd_true, e8, bnd_some]
        try dsimp only
        rw [e9, bnd_some]
        exact ⟨_, c9, rfl, k9, ⟨l1, l2, by simp, h1, h2⟩, rfl, rfl⟩
theorem node_eq (a0 a1 : Int) (a2 : TL01Cur) : spec_l15Node a0 a1 a2 =
    bnd spec_Still fun v1 =>
    bnd (spec_l01PickInt a2 [1, 1, 1, 2, 3, 4, 5]) fun (w3, w4) =>
    bnd (spec_l01PickInt w4 [255, 255, 255, 128, 0]) fun (w6, w7) =>
    bnd (spec_l01Once 3 w7) fun (w9, w10) =>
    cnd w9 (
     bnd (spec_l04Mat w10) fun (w12, w13) =>
     bnd (spec_l01Once 4 w13) fun (w15, w16) =>
     cnd w15 (
      bnd (spec_l06Path w16) fun (w18, w19, w20) => ntail a0 a1 w3 w6 w12 ⟨w19, w20⟩ w18) (
      ntail a0 a1 w3 w6 w12 ⟨[], []⟩ w16)) (
     bnd (spec_l01Once 4 w10) fun (w78, w79) =>
     cnd w78 (
      bnd (spec_l06Path w79) fun (w81, w82, w83) => ntail a0 a1 w3 w6 v1 ⟨w82, w83⟩ w81) (
      ntail a0 a1 w3 w6 v1 ⟨[], []⟩ w79)) := rfl
theorem node_ok (a0 a1 : Int) {c : TL01Cur} (h : CurOk c) : ∃ x c', spec_l15Node a0 a1 c = some (x, c') ∧ CurOk c' ∧ NS x ∧ x.id = a0 ∧ x.parent = a1 := by
  obtain ⟨x1, c1, e1, _, k1⟩ := pick_ok h (l := [1, 1, 1, 2, 3, 4, 5]) (by simp)
  obtain ⟨x2, c2, e2, _, k2⟩ := pick_ok k1 (l := [255, 255, 255, 128, 0]) (by simp)
  obtain ⟨b3, c3, e3, k3⟩ := once_ok k2 (n := 3) (by omega)
  rw [node_eq]
  unfold spec_Still
  rw [bnd_some, e1, bnd_some]
  try dsimp only
  rw [e2, bnd_some]
  try dsimp only
  rw [e3, bnd_some]
  try dsimp only
  cases b3 with
  | true =>
    obtain ⟨m, c4, e4, k4⟩ := mat_ok k3
    obtain ⟨b5, c5, e5, k5⟩ := once_ok k4 (n := 4) (by omega)
    rw [cnd_true, e4, bnd_some]
    try dsimp only
    rw [e5, bnd_some]
    try dsimp only
    cases b5 with
    | true =>
      obtain ⟨c6, vs, ps, e6, k6, _, l1, _, l2⟩ := pathk_ok k5
      rw [cnd_true, e6, bnd_some]
      exact ntail_ok k6 l1 l2
    | false => exact ntail_ok k5 (by simp) (by simp)
  | false =>
    obtain ⟨b5, c5, e5, k5⟩ := once_ok k3 (n := 4) (by omega)
    rw [cnd_false, e5, bnd_some]
    try dsimp only
    cases b5 with
    | true =>
      obtain ⟨c6, vs, ps, e6, k6, _, l1, _, l2⟩ := pathk_ok k5
      rw [cnd_true, e6, bnd_some]
      exact ntail_ok k6 l1 l2
    | false => exact ntail_ok k5 (by simp) (by simp)
theorem scene0_ok {x7 : Int} {l : List TNode} (hl : l.length ≤ 1048576) {c : TL01Cur} (h : CurOk c) : ∃ b i hh p, loopI (spec_l15Scene_l0 x7 l) (0, 0, c.b, c.i, c.h) = some (b, i, hh, p) ∧ CurOk ⟨b, i, hh⟩ := by
  obtain ⟨r, h1, h2⟩ := loopI_tot (f := spec_l15Scene_l0 x7 l) (fun s => 0 ≤ s.1 ∧ s.1 ≤ l.length ∧ CurOk ⟨s.2.2.1, s.2.2.2.1, s.2.2.2.2⟩) (fun r => CurOk ⟨r.1, r.2.1, r.2.2.1⟩) (fun s => ((l.length : Int) - s.1).toNat)
    (by
      rintro ⟨k, p, b, i, hh⟩ ⟨k0, k1, kc⟩
      dsimp only at k0 k1 kc
      rw [spec_l15Scene_l0]
      by_cases hk : (l.length : Int) ≤ k
      · right; rw [ilt hk, cnd_true]; exact ⟨_, rfl, kc⟩
      left
      obtain ⟨x, hx, _⟩ := idx_of (l := l) (i := k) k0 (by omega)
      rw [ilf (by omega), cnd_false, hx, bnd_some, wr_in (n := k + 1) (by omega)]
      cases x.group with
      | false => exact ⟨_, rfl, ⟨by (try dsimp only) <;> omega, by (try dsimp only) <;> omega, kc⟩, by (try dsimp only) <;> omega⟩
      | true =>
        obtain ⟨v, _, hv⟩ := s_DepthOf (s := ⟨l⟩) hl x.id
        rw [cnd_true, hv, bnd_some]
        cases ile 4 v with
        | true => exact ⟨_, rfl, ⟨by (try dsimp only) <;> omega, by (try dsimp only) <;> omega, kc⟩, by (try dsimp only) <;> omega⟩
        | false =>
          obtain ⟨b2, c2, e2, k2⟩ := once_ok kc (n := 2) (by omega)
          rw [cnd_false, e2, bnd_some]
          try dsimp only
          cases b2 <;> exact ⟨_, rfl, ⟨by (try dsimp only) <;> omega, by (try dsimp only) <;> omega, k2⟩, by (try dsimp only) <;> omega⟩)
    (x := (0, 0, c.b, c.i, c.h)) ⟨by omega, by (try dsimp only) <;> omega, h⟩
  obtain ⟨b, i, hh, p⟩ := r
  exact ⟨b, i, hh, p, h1, h2⟩
theorem slc_tl {α : Type} {l : List α} (h : 1 ≤ l.length) : slc l 1 (l.length : Int) = some (l.drop 1) := by
  unfold slc
  rw [if_pos (by omega)]
  congr 1
  rw [List.take_of_length_le]
  · rfl
  · rw [List.length_drop]; omega
theorem scene_ok {c : TL01Cur} (h : CurOk c) : ∃ s c', spec_l15Scene c = some (s, c') ∧ CurOk c' ∧ s.nodes.length ≤ 5 ∧ ∀ x ∈ s.nodes, NS x := by
  obtain ⟨r, h1, h2, h3, h4⟩ := loopI_tot (f := spec_l15Scene_l1) (fun s => 0 ≤ s.1 ∧ s.1 ≤ 5 ∧ CurOk ⟨s.2.1, s.2.2.1, s.2.2.2.1⟩ ∧ (s.2.2.2.2.length : Int) = s.1 ∧ ∀ x ∈ s.2.2.2.2, NS x)
    (fun r => CurOk ⟨r.1, r.2.1, r.2.2.1⟩ ∧ r.2.2.2.length ≤ 5 ∧ ∀ x ∈ r.2.2.2, NS x) (fun s => (5 - s.1).toNat)
    (by
      rintro ⟨k, b, i, hh, l⟩ ⟨k0, k1, kc, kl, kn⟩
      dsimp only at k0 k1 kc kl kn
      obtain ⟨w, d, e2, w0, w1, kd⟩ := below_ok kc (n := 6) (by omega)
      rw [spec_l15Scene_l1, e2, bnd_some]
      try dsimp only
      by_cases hk : w ≤ k
      · right; rw [ilt hk, cnd_true]; exact ⟨_, rfl, kd, by (try dsimp only) <;> omega, kn⟩
      left
      obtain ⟨b2, i2, h2, p, e3, k3⟩ := scene0_ok (x7 := k) (l := l) (by omega) kd
      obtain ⟨x, c4, e4, k4, n4, _, _⟩ := node_ok (k + 1) p k3
      rw [ilf (by omega), cnd_false, e3, bnd_some]
      try dsimp only
      rw [wr_in (n := k + 1) (by omega), e4, bnd_some]
      try dsimp only
      rw [chkP_pos (by omega), nam_eq]
      refine ⟨_, rfl, ⟨by (try dsimp only) <;> omega, by (try dsimp only) <;> omega, k4, by simp <;> omega, fun y hy => ?_⟩, by (try dsimp only) <;> omega⟩
      rw [List.mem_append] at hy
      rcases hy with hy | hy
      · exact kn y hy
      · rw [List.mem_singleton] at hy; rw [hy]; exact n4)
    (x := (0, c.b, c.i, c.h, [])) ⟨by omega, by (try dsimp only) <;> omega, h, by simp, fun x hx => by cases hx⟩
  obtain ⟨b, i, hh, l⟩ := r
  dsimp only at h2 h3 h4
  unfold spec_l15Scene
  rw [h1, bnd_some]
  try dsimp only
  by_cases hl : (l.length : Int) ≤ 1
  · rw [ilt hl, cnd_true]; exact ⟨_, _, rfl, h2, h3, h4⟩
  rw [ilf (by omega), cnd_false]
  obtain ⟨b2, c2, e2, k2⟩ := once_ok h2 (n := 3) (by omega)
  rw [e2, bnd_some]
  try dsimp only
  cases b2 with
  | false => exact ⟨_, c2, rfl, k2, h3, h4⟩
  | true =>
    obtain ⟨x, hx, hm⟩ := idx_of (l := l) (i := 0) (by omega) (by omega)
    rw [cnd_true, hx, bnd_some, slc_tl (by omega), bnd_some, chkP_pos (by rw [List.length_drop]; omega), nam_eq, chkP_pos (by rw [List.nil_append, List.length_drop]; omega), nam_eq]
    refine ⟨_, c2, rfl, k2, ?_, fun y hy => ?_⟩
    · simp; omega
    · simp only [List.nil_append, List.mem_append, List.mem_singleton] at hy
      rcases hy with hy | hy
      · exact h4 y (List.mem_of_mem_drop hy)
      · rw [hy]; exact h4 x hm
/-! Copies -/
structure NB (x : TNode) : Prop where
  v : x.path.verbs.length ≤ 1048576
  p : x.path.points.length ≤ 1048576
  d : x.dashes.length ≤ 1048576
  cv : x.clip.verbs.length ≤ 1048576
  cp : x.clip.points.length ≤ 1048576
theorem NS.big {x : TNode} (h : NS x) : NB x := ⟨by have := h.v; omega, by have := h.p; omega, by have := h.d; omega, by have := h.cv; omega, by have := h.cp; omega⟩
theorem m_spec_copyPath {p : TPath} (h : p.verbs.length ≤ 1048576) (h1 : p.points.length ≤ 1048576) : spec_l15CopyPath p = some p := by
  unfold spec_l15CopyPath
  rw [chkP_pos (by omega), nam_eq, chkP_pos (by omega), nam_eq]
  simp
theorem m_impl_copyPath {p : TPath} (h : p.verbs.length ≤ 1048576) (h1 : p.points.length ≤ 1048576) : impl_copyPath p = some p := by
  unfold impl_copyPath slices_Clone_int slices_Clone_Point
  rw [chkP_pos (by omega), bnd_some, chkP_pos (by omega), bnd_some]
theorem m_spec_copyNode {x : TNode} (h : NB x) : spec_l15CopyNode x = some x := by
  unfold spec_l15CopyNode
  have := h.d
  rw [m_spec_copyPath h.v h.p, bnd_some, m_spec_copyPath h.cv h.cp, bnd_some, chkP_pos (by omega), nam_eq]
  simp
theorem m_impl_copyNode {x : TNode} (h : NB x) : impl_copyNode x = some x := by
  unfold impl_copyNode slices_Clone_int
  have := h.d
  rw [m_impl_copyPath h.v h.p, bnd_some, m_impl_copyPath h.cv h.cp, bnd_some, chkP_pos (by omega), bnd_some]
theorem copy_loop {α : Type} {l : List α} {f : Int × List α → Option ((Int × List α) ⊕ (List α))} (hs : ∀ (i : Nat) (h : i < l.length), f ((i : Int), l.take i) = some (.inl (((i + 1 : Nat) : Int), l.take i ++ [l[i]]))) (he : f ((l.length : Int), l) = some (.inr l)) : loopI f (0, []) = some l := by
  have key := loopI_n (f := f) (fun i => ((i : Int), l.take i)) l.length (r := l) (fun i hi => ?_) (by (try dsimp only); rw [List.take_length]; exact he)
  · exact key
  · try dsimp only
    rw [hs i hi, List.take_add_one, List.getElem?_eq_getElem hi]; rfl
structure SB (s : TScene) : Prop where
  n : s.nodes.length ≤ 1048576
  x : ∀ y ∈ s.nodes, NB y
theorem SB.rows {s : TScene} (h : SB s) : RowsS s := ⟨h.n, fun y hy => (h.x y hy).d⟩
theorem m_spec_Copy {s : TScene} (h : SB s) : spec_l15Copy s = some s.nodes := by
  have hn := h.n
  unfold spec_l15Copy
  rw [copy_loop (l := s.nodes) (f := spec_l15Copy_l0 s) (fun i hi => by
    rw [spec_l15Copy_l0, ilf (by omega), cnd_false, idx_nat hi, bnd_some, m_spec_copyNode (h.x _ (List.getElem_mem hi)), bnd_some, chkP_pos (by rw [List.length_take]; omega), nam_eq, wr_in (by omega)]; rfl) (by rw [spec_l15Copy_l0, ilt (by omega), cnd_true])]
  rfl
theorem m_impl_copyScene {s : TScene} (h : SB s) : impl_copyScene s = some s.nodes := by
  have hn := h.n
  unfold impl_copyScene
  rw [copy_loop (l := s.nodes) (f := impl_copyScene_l0 s) (fun i hi => by
    rw [impl_copyScene_l0, ilf (by omega), cnd_false, idx_nat hi, bnd_some, m_impl_copyNode (h.x _ (List.getElem_mem hi)), bnd_some, chkP_pos (by rw [List.length_take]; omega), nam_eq, wr_in (by omega)]; rfl) (by rw [impl_copyScene_l0, ilt (by omega), cnd_true])]
  rfl
/-! Any scenes and nodes -/
theorem anyPoint_ok {c : TL01Cur} (h : CurOk c) : ∃ p c', spec_l04AnyPoint c = some (p, c') ∧ CurOk c' := by
  obtain ⟨p, c1, e1, k1⟩ := point_ok h
  obtain ⟨b2, c2, e2, k2⟩ := once_ok k1 (n := 12) (by omega)
  unfold spec_l04AnyPoint
  rw [e1, bnd_some]
  try dsimp only
  rw [e2, bnd_some]
  try dsimp only
  cases b2 with
  | true =>
    obtain ⟨x, c3, e3, _, k3⟩ := pick_ok k2 (l := [(-8388608), 8388608, 8388609, (-8388609), 9223372036854775807, (-9223372036854775808)]) (by simp)
    obtain ⟨b4, c4, e4, k4⟩ := once_ok k3 (n := 16) (by omega)
    rw [cnd_true, e3, bnd_some]
    try dsimp only
    rw [e4, bnd_some]
    try dsimp only
    cases b4 with
    | true =>
      obtain ⟨y, c5, e5, _, k5⟩ := pick_ok k4 (l := [(-8388608), 8388608, 8388609]) (by simp)
      rw [cnd_true, e5, bnd_some]
      exact ⟨_, c5, rfl, k5⟩
    | false => exact ⟨_, c4, rfl, k4⟩
  | false =>
    obtain ⟨b4, c4, e4, k4⟩ := once_ok k2 (n := 16) (by omega)
    rw [cnd_false, e4, bnd_some]
    try dsimp only
    cases b4 with
    | true =>
      obtain ⟨y, c5, e5, _, k5⟩ := pick_ok k4 (l := [(-8388608), 8388608, 8388609]) (by simp)
      rw [cnd_true, e5, bnd_some]
      exact ⟨_, c5, rfl, k5⟩
    | false => exact ⟨_, c4, rfl, k4⟩
theorem anyPath_ok {c : TL01Cur} (h : CurOk c) : ∃ p c', spec_l06Any c = some (p, c') ∧ CurOk c' ∧ p.verbs.length ≤ 24 ∧ p.points.length ≤ 24 := by
  obtain ⟨c1, vs, ps, e1, k1, v0, v1, p0, p1⟩ := pathk_ok h
  obtain ⟨t, c2, e2, _, _, k2⟩ := below_ok k1 (n := 16) (by omega)
  unfold spec_l06Any
  rw [e1, bnd_some]
  try dsimp only
  rw [chkP_pos (by omega), nam_eq, chkP_pos (by omega), nam_eq, e2, bnd_some, List.nil_append, List.nil_append]
  try dsimp only
  cases ieq t 0 with
  | true =>
    obtain ⟨i, c3, e3, i0, i1, k3⟩ := below_ok k2 (n := (vs.length : Int)) (by omega)
    obtain ⟨v, c4, e4, _, _, k4⟩ := below_ok k3 (n := 7) (by omega)
    obtain ⟨x, hx, _⟩ := idx_of (l := vs) (i := i) i0 i1
    rw [cnd_true, e3, bnd_some]
    try dsimp only
    rw [e4, bnd_some]
    try dsimp only
    rw [hx, bnd_some, nam_eq]
    exact ⟨_, c4, rfl, k4, by simp; omega, by (try dsimp only) <;> omega⟩
  | false =>
    rw [cnd_false]
    cases ieq t 1 with
    | true =>
      rw [cnd_true, slc_tl p0, bnd_some]
      exact ⟨_, c2, rfl, k2, by (try dsimp only) <;> omega, by simp; omega⟩
    | false =>
      rw [cnd_false]
      cases ieq t 2 with
      | true =>
        obtain ⟨q, c3, e3, k3⟩ := anyPoint_ok k2
        obtain ⟨x, hx, _⟩ := idx_of (l := ps) (i := 0) (by omega) (by omega)
        rw [cnd_true, e3, bnd_some]
        try dsimp only
        rw [hx, bnd_some, nam_eq]
        exact ⟨_, c3, rfl, k3, by (try dsimp only) <;> omega, by simp; omega⟩
      | false =>
        rw [cnd_false]
        cases ieq t 3 with
        | true => exact ⟨_, c2, rfl, k2, by simp, by simp⟩
        | false => exact ⟨_, c2, rfl, k2, by (try dsimp only) <;> omega, by (try dsimp only) <;> omega⟩
theorem anyMat_ok {c : TL01Cur} (h : CurOk c) : ∃ m c', spec_l04AnyMat c = some (m, c') ∧ CurOk c' := by
  obtain ⟨m, c1, e1, k1⟩ := mat_ok h
  obtain ⟨t, c2, e2, _, _, k2⟩ := below_ok k1 (n := 16) (by omega)
  unfold spec_l04AnyMat
  rw [e1, bnd_some]
  try dsimp only
  rw [e2, bnd_some]
  try dsimp only
  cases ieq t 0 with
  | true =>
    obtain ⟨x, c3, e3, _, k3⟩ := pick_ok k2 (l := [1048576, 1048577, (-1048577)]) (by simp)
    rw [cnd_true, e3, bnd_some]
    exact ⟨_, c3, rfl, k3⟩
  | false =>
    rw [cnd_false]
    cases ieq t 1 with
    | true =>
      obtain ⟨x, c3, e3, _, k3⟩ := pick_ok k2 (l := [8388608, 8388609]) (by simp)
      rw [cnd_true, e3, bnd_some]
      exact ⟨_, c3, rfl, k3⟩
    | false =>
      rw [cnd_false]
      cases ieq t 2 with
      | true => exact ⟨_, c2, rfl, k2⟩
      | false => exact ⟨_, c2, rfl, k2⟩
theorem anyNode_ok {c : TL01Cur} (h : CurOk c) : ∃ x c', spec_l15AnyNode c = some (x, c') ∧ CurOk c' ∧ NS x := by
  obtain ⟨w, c1, e1, _, _, k1⟩ := below_ok h (n := 8) (by omega)
  obtain ⟨x, c2, e2, k2, n2, _, _⟩ := node_ok (IntKind.i64.wrap (1 + w)) 0 k1
  obtain ⟨t, c3, e3, _, _, k3⟩ := below_ok k2 (n := 20) (by omega)
  unfold spec_l15AnyNode
  rw [e1, bnd_some]
  try dsimp only
  rw [e2, bnd_some]
  try dsimp only
  rw [m_spec_copyNode n2.big, bnd_some, e3, bnd_some]
  try dsimp only
  cases ieq t 0 with
  | true =>
    obtain ⟨y, c4, e4, _, k4⟩ := pick_ok k3 (l := [0, (-1), 99, 100]) (by simp)
    rw [cnd_true, e4, bnd_some]
    exact ⟨_, c4, rfl, k4, n2.v, n2.p, n2.d, n2.cv, n2.cp⟩
  | false =>
  rw [cnd_false]
  cases ieq t 1 with
  | true =>
    obtain ⟨y, c4, e4, _, k4⟩ := pick_ok k3 (l := [(-1), x.id, 3, 100]) (by simp)
    rw [cnd_true, e4, bnd_some]
    exact ⟨_, c4, rfl, k4, n2.v, n2.p, n2.d, n2.cv, n2.cp⟩
  | false =>
  rw [cnd_false]
  cases ieq t 2 with
  | true =>
    obtain ⟨y, c4, e4, _, _, k4⟩ := below_ok k3 (n := 7) (by omega)
    rw [cnd_true, e4, bnd_some]
    exact ⟨_, c4, rfl, k4, n2.v, n2.p, n2.d, n2.cv, n2.cp⟩
  | false =>
  rw [cnd_false]
  cases ieq t 3 with
  | true =>
    obtain ⟨y, c4, e4, _, k4⟩ := pick_ok k3 (l := [(-1), 256]) (by simp)
    rw [cnd_true, e4, bnd_some]
    exact ⟨_, c4, rfl, k4, n2.v, n2.p, n2.d, n2.cv, n2.cp⟩
  | false =>
  rw [cnd_false]
  cases ieq t 4 with
  | true =>
    obtain ⟨y, c4, e4, _, k4⟩ := pick_ok k3 (l := [(-1), 2049]) (by simp)
    rw [cnd_true, e4, bnd_some]
    exact ⟨_, c4, rfl, k4, n2.v, n2.p, n2.d, n2.cv, n2.cp⟩
  | false =>
  rw [cnd_false]
  cases ieq t 5 with
  | true => exact ⟨_, c3, rfl, k3, n2.v, n2.p, n2.d, n2.cv, n2.cp⟩
  | false =>
  rw [cnd_false]
  cases ieq t 6 with
  | true =>
    obtain ⟨y, c4, e4, k4⟩ := anyMat_ok k3
    rw [cnd_true, e4, bnd_some]
    exact ⟨_, c4, rfl, k4, n2.v, n2.p, n2.d, n2.cv, n2.cp⟩
  | false =>
  rw [cnd_false]
  cases ieq t 7 with
  | true =>
    obtain ⟨y, c4, e4, k4, l1, l2⟩ := anyPath_ok k3
    rw [cnd_true, e4, bnd_some]
    exact ⟨_, c4, rfl, k4, l1, l2, n2.d, n2.cv, n2.cp⟩
  | false => exact ⟨_, c3, rfl, k3, n2.v, n2.p, n2.d, n2.cv, n2.cp⟩
theorem sb_of {l : List TNode} (h : l.length ≤ 20) (hn : ∀ x ∈ l, NS x) : SB ⟨l⟩ := ⟨by (try dsimp only) <;> omega, fun y hy => (hn y hy).big⟩
theorem ns_app {l : List TNode} {x : TNode} (h : ∀ y ∈ l, NS y) (hx : NS x) : ∀ y ∈ l ++ [x], NS y := fun y hy => by
  rw [List.mem_append] at hy
  rcases hy with hy | hy
  · exact h y hy
  · rw [List.mem_singleton] at hy; rw [hy]; exact hx
theorem any_ok {c : TL01Cur} (h : CurOk c) : ∃ s c', spec_l15Any c = some (s, c') ∧ CurOk c' ∧ s.nodes.length ≤ 20 ∧ ∀ x ∈ s.nodes, NS x := by
  obtain ⟨s, c1, e1, k1, l1, n1⟩ := scene_ok h
  obtain ⟨t, c2, e2, _, _, k2⟩ := below_ok k1 (n := 20) (by omega)
  unfold spec_l15Any
  rw [e1, bnd_some]
  try dsimp only
  rw [m_spec_Copy (sb_of (l := s.nodes) (by omega) n1), bnd_some, e2, bnd_some]
  try dsimp only
  cases ieq t 0 with
  | true =>
    obtain ⟨x, c3, e3, k3, n3⟩ := anyNode_ok k2
    rw [cnd_true, e3, bnd_some]
    try dsimp only
    rw [chkP_pos (by omega), nam_eq]
    exact ⟨_, c3, rfl, k3, by simp; omega, ns_app n1 n3⟩
  | false =>
  rw [cnd_false]
  cases ieq t 1 with
  | true =>
    rw [cnd_true]
    by_cases h0 : (s.nodes.length : Int) ≤ 0
    · rw [ilt h0, cnd_true]; exact ⟨_, c2, rfl, k2, by (try dsimp only) <;> omega, n1⟩
    obtain ⟨p, c3, e3, _, _, k3⟩ := below_ok k2 (n := 7) (by omega)
    obtain ⟨x, hx, hm⟩ := idx_of (l := s.nodes) (i := 0) (by omega) (by omega)
    rw [ilf (by omega), cnd_false, e3, bnd_some]
    try dsimp only
    rw [hx, bnd_some, nam_eq]
    have nx := n1 x hm
    refine ⟨_, c3, rfl, k3, by simp; omega, fun y hy => ?_⟩
    rcases List.mem_or_eq_of_mem_set hy with hy | hy
    · exact n1 y hy
    · rw [hy]; exact ⟨nx.v, nx.p, nx.d, nx.cv, nx.cp⟩
  | false =>
  rw [cnd_false]
  cases ieq t 2 with
  | false => exact ⟨_, c2, rfl, k2, by (try dsimp only) <;> omega, n1⟩
  | true =>
    rw [cnd_true]
    obtain ⟨r, h1, h2, h3, h4⟩ := loopI_tot (f := spec_l15Any_l0) (fun s => s.2.2.2.length ≤ 20 ∧ CurOk ⟨s.1, s.2.1, s.2.2.1⟩ ∧ ∀ x ∈ s.2.2.2, NS x)
      (fun r => r.2.2.2.length ≤ 20 ∧ CurOk ⟨r.1, r.2.1, r.2.2.1⟩ ∧ ∀ x ∈ r.2.2.2, NS x) (fun s => 20 - s.2.2.2.length)
      (by
        rintro ⟨b, i, hh, l⟩ ⟨k0, kc, kn⟩
        dsimp only at k0 kc kn
        rw [spec_l15Any_l0]
        by_cases h0 : (l.length : Int) ≤ 0
        · right; rw [ilt h0, cnd_true]; exact ⟨_, rfl, k0, kc, kn⟩
        obtain ⟨w, d, e3, w0, w1, kd⟩ := below_ok kc (n := 2) (by omega)
        rw [ilf (by omega), cnd_false, e3, bnd_some]
        try dsimp only
        rw [wr_in (n := 8 + w) (by omega)]
        by_cases h8 : 8 + w ≤ (l.length : Int)
        · right; rw [ilt h8, cnd_true]; exact ⟨_, rfl, k0, kd, kn⟩
        left
        obtain ⟨x, hx, hm⟩ := idx_of (l := l) (i := 0) (by omega) (by omega)
        have nx := kn x hm
        rw [ilf (by omega), cnd_false, hx, bnd_some, m_spec_copyNode nx.big, bnd_some, chkP_pos (by omega), nam_eq]
        exact ⟨_, rfl, ⟨by simp; omega, kd, ns_app kn ⟨nx.v, nx.p, nx.d, nx.cv, nx.cp⟩⟩, by simp; omega⟩)
      (x := (c2.b, c2.i, c2.h, s.nodes)) ⟨by (try dsimp only) <;> omega, k2, n1⟩
    obtain ⟨b, i, hh, l⟩ := r
    rw [h1, bnd_some]
    exact ⟨_, _, rfl, h3, h2, h4⟩
/-! ## FnSets: the law -/
/-! Sameness -/
theorem m_sameInts {l : List Int} (h : l.length ≤ 1048576) : laws_sameInts l l = some true := by
  unfold laws_sameInts
  rw [iqt, cnd_true, loopI_row (l := l) (f := laws_sameInts_l0 l l) (fun _ => true) (by omega) (fun i hi => by rw [laws_sameInts_l0, ilf (by omega), cnd_false, idx_nat hi, bnd_some, bnd_some, iqt]) (by rw [laws_sameInts_l0, ilt (by omega), cnd_true])]
  simp
theorem m_samePoints {l : List TPoint} (h : l.length ≤ 1048576) : laws_samePoints l l = some true := by
  unfold laws_samePoints
  rw [iqt, cnd_true, loopI_row (l := l) (f := laws_samePoints_l0 l l) (fun _ => true) (by omega) (fun i hi => by rw [laws_samePoints_l0, ilf (by omega), cnd_false, idx_nat hi, bnd_some, bnd_some]; simp [andB]) (by rw [laws_samePoints_l0, ilt (by omega), cnd_true])]
  simp
theorem m_samePath {p : TPath} (h : p.verbs.length ≤ 1048576) (h1 : p.points.length ≤ 1048576) : laws_samePath p p = some true := by
  unfold laws_samePath
  rw [m_sameInts h, bnd_some, cnd_true, m_samePoints h1, bnd_some]
theorem m_sameNode {x : TNode} (h : NB x) : laws_sameNode x x = some true := by
  unfold laws_sameNode
  rw [m_samePath h.v h.p, m_samePath h.cv h.cp, m_sameInts h.d]
  simp [andB, iqt]
theorem m_sameScene {s : TScene} (h : SB s) : laws_sameScene s s = some true := by
  have hn := h.n
  unfold laws_sameScene
  rw [iqt, cnd_true, loopI_row (l := s.nodes) (f := laws_sameScene_l0 s s) (fun _ => true) (by omega) (fun i hi => by rw [laws_sameScene_l0, ilf (by omega), cnd_false, idx_nat hi, bnd_some, bnd_some, m_sameNode (h.x _ (List.getElem_mem hi)), bnd_some]) (by rw [laws_sameScene_l0, ilt (by omega), cnd_true])]
  simp
/-! Right scenes -/
theorem isParent_t {s : TScene} (h : s.nodes.length ≤ 1048576) (p : Int) : ∃ b, impl_Scene_isParent s p = some b ∧ (b = true ↔ p = 0 ∨ ∃ y, idx s.nodes (nodeAt s p) = some y ∧ y.group = true) := by
  unfold impl_Scene_isParent
  rw [m_impl_NodeAt h, bnd_some]
  by_cases hp : p = 0
  · rw [hp, iqt, cnd_true]; exact ⟨true, rfl, by simp⟩
  rw [iqf hp, cnd_false]
  by_cases ha : 0 ≤ nodeAt s p
  · obtain ⟨x, hx⟩ := fst_in ha
    have hx' : idx s.nodes (nodeAt s p) = some x := hx
    rw [ilt ha, cnd_true, hx', bnd_some]
    exact ⟨_, rfl, by simp [hp]⟩
  · rw [ilf (by omega), cnd_false]
    refine ⟨false, rfl, ?_⟩
    have : idx s.nodes (nodeAt s p) = none := by unfold idx; rw [if_neg ha]
    simp [hp, this]
structure GoodAt (s : TScene) (i : Nat) (y : TNode) : Prop where
  ok : impl_NodeOk y = some true
  at' : nodeAt s y.id = (i : Int)
  par : y.parent = 0 ∨ ∃ z, idx s.nodes (nodeAt s y.parent) = some z ∧ z.group = true
  dep : ∃ d, impl_DepthOf s y.id = some d ∧ tin d 1 4 = true
theorem sceneOk_iff {s : TScene} (h : RowsS s) : impl_SceneOk s = some true ↔ s.nodes.length ≤ 8 ∧ ∀ (i : Nat) (hi : i < s.nodes.length), GoodAt s i s.nodes[i] := by
  have hn := h.n
  unfold impl_SceneOk
  by_cases h8 : (s.nodes.length : Int) ≤ 8
  case neg => rw [ilf (by omega), cnd_false]; simp; omega
  rw [ilt h8, cnd_true]
  have step : ∀ (i : Nat) (hi : i < s.nodes.length), ∃ b : Bool, impl_SceneOk_l0 s (i : Int) = cnd b (some (.inl (IntKind.i64.wrap ((i : Int) + 1)))) (some (.inr (.inr ()))) ∧ (b = true ↔ GoodAt s i s.nodes[i]) := by
    intro i hi
    obtain ⟨n1, nb, n2⟩ := s_NodeOk (h.d _ (List.getElem_mem hi))
    obtain ⟨v, v1, v2⟩ := s_DepthOf hn (s.nodes[i]).id
    obtain ⟨pb, p1, p2⟩ := isParent_t hn (s.nodes[i]).parent
    rw [impl_SceneOk_l0, ilf (by omega), cnd_false, idx_nat hi, bnd_some, n1, n2, bnd_some]
    cases nb with
    | false => exact ⟨false, rfl, by simp; intro g; have := g.ok; rw [n1, n2] at this; cases this⟩
    | true =>
      rw [cnd_true, m_impl_NodeAt hn, bnd_some]
      by_cases ha : nodeAt s (s.nodes[i]).id = (i : Int)
      case neg => rw [iqf ha]; exact ⟨false, rfl, by simp; intro g; exact ha g.at'⟩
      rw [ha, iqt, cnd_true, p1, bnd_some]
      cases pb with
      | false => exact ⟨false, rfl, by simp; intro g; have := p2.2 g.par; cases this⟩
      | true =>
        rw [cnd_true, v1, bnd_some, m_impl_inRange, bnd_some]
        refine ⟨tin v 1 4, ?_, fun ht => ⟨by rw [n1, n2], ha, p2.1 rfl, v, v1, ht⟩, fun g => ?_⟩
        · cases tin v 1 4 <;> rfl
        · obtain ⟨d, d1, d2⟩ := g.dep
          rw [v1] at d1; cases d1; exact d2
  have hc : ∀ (i : Nat), ∃ b : Bool, ∀ hi : i < s.nodes.length, impl_SceneOk_l0 s (i : Int) = cnd b (some (.inl (IntKind.i64.wrap ((i : Int) + 1)))) (some (.inr (.inr ()))) ∧ (b = true ↔ GoodAt s i s.nodes[i]) := by
    intro i
    by_cases hi : i < s.nodes.length
    · obtain ⟨b, h1⟩ := step i hi; exact ⟨b, fun _ => h1⟩
    · exact ⟨false, fun h => absurd h hi⟩
  let B : Nat → Bool := fun i => (hc i).choose
  have hB : ∀ i (hi : i < s.nodes.length), impl_SceneOk_l0 s (i : Int) = cnd (B i) (some (.inl (IntKind.i64.wrap ((i : Int) + 1)))) (some (.inr (.inr ()))) ∧ (B i = true ↔ GoodAt s i s.nodes[i]) := fun i hi => (hc i).choose_spec hi
  have k1 := loopI_all (f := impl_SceneOk_l0 s) s.nodes.length B (by omega) (fun i hi => (hB i hi).1) (by rw [impl_SceneOk_l0, ilt (by omega), cnd_true])
  rw [k1]
  have e : (List.range s.nodes.length).all B = true ↔ ∀ (i : Nat) (hi : i < s.nodes.length), GoodAt s i s.nodes[i] := by
    rw [List.all_eq_true]
    exact ⟨fun k i hi => (hB i hi).2.1 (k i (List.mem_range.2 hi)), fun k i hi => (hB i (List.mem_range.1 hi)).2.2 (k i (List.mem_range.1 hi))⟩
  cases hA : (List.range s.nodes.length).all B with
  | true => simp only [if_true, bnd_some]; exact ⟨fun _ => ⟨by omega, e.1 hA⟩, fun _ => trivial⟩
  | false =>
    simp only [Bool.false_eq_true, if_false, bnd_some]
    refine ⟨fun hx => by simp at hx, fun hx => ?_⟩
    rw [e.2 hx.2] at hA; cases hA
theorem idx_toNat {α : Type} {l : List α} {i : Int} {x : α} (h : idx l i = some x) : 0 ≤ i ∧ i.toNat < l.length ∧ l[i.toNat]? = some x := by
  unfold idx at h
  split at h
  · rename_i h0
    exact ⟨h0, (List.getElem?_eq_some_iff.1 h).1, h⟩
  · cases h
theorem nodeOk_parent {x : TNode} {p : Int} (hx : x.dashes.length ≤ 1048576) (h : impl_NodeOk x = some true) (hp : tin p 0 99 = true) (hne : x.id ≠ p) :
    impl_NodeOk ⟨x.id, p, x.group, x.mat, x.path, x.even, x.width, x.dashes, x.paint, x.mode, x.fade, x.clip⟩ = some true := by
  revert h
  unfold impl_NodeOk
  simp only [m_impl_inRange, bnd_some, hp, cnd_true, iqf hne, cnd_false]
  cases tin x.id 1 99 <;> simp only [cnd_true, cnd_false] <;> try (intro h; exact h)
  cases tin x.parent 0 99 <;> simp only [cnd_true, cnd_false] <;> try (intro h; cases h)
  cases ieq x.id x.parent <;> simp only [cnd_true, cnd_false] <;> try (intro h; cases h)
  exact fun h => h
theorem nodeOk_par {x : TNode} (h : impl_NodeOk x = some true) : tin x.parent 0 99 = true ∧ x.id ≠ x.parent ∧ tin x.id 1 99 = true := by
  revert h
  unfold impl_NodeOk
  simp only [m_impl_inRange, bnd_some]
  cases tin x.id 1 99 <;> simp only [cnd_true, cnd_false] <;> try (intro h; cases h)
  cases tin x.parent 0 99 <;> simp only [cnd_true, cnd_false] <;> try (intro h; cases h)
  by_cases he : x.id = x.parent
  · rw [he, iqt]; intro h; cases h
  · intro _; exact ⟨trivial, he, trivial⟩
/-! ## Masks drawn are right -/
/-! ## Rows: deleted from, put into -/
theorem slc_front {α : Type} {l n : List α} (h : l.take n.length = n) : slc l 0 (n.length : Int) = some n := by
  have h1 : n.length ≤ l.length := by
    have := congrArg List.length h
    rw [List.length_take] at this; omega
  unfold slc
  rw [if_pos (by omega)]
  simp only [Int.sub_zero, Int.toNat_natCast, Int.toNat_zero, List.drop_zero]
  rw [h]
theorem slc_some {α : Type} {l : List α} {a b : Nat} (h1 : a ≤ b) (h2 : b ≤ l.length) : slc l (a : Int) (b : Int) = some ((l.drop a).take (b - a)) := by
  unfold slc
  rw [if_pos (by omega)]
  have : ((b : Int) - (a : Int)).toNat = b - a := by omega
  simp only [this, Int.toNat_natCast]
theorem ovr_take {α : Type} {l s : List α} {k : Nat} (h : k ≤ l.length) : (ovr l k s).take (k + s.length) = l.take k ++ s := by
  unfold ovr
  rw [List.take_append_of_le_length (by simp only [List.length_append, List.length_take]; omega), List.take_of_length_le (by simp only [List.length_append, List.length_take]; omega)]
theorem clr_take {α : Type} {l : List α} {a k : Nat} {z : α} (h : a ≤ l.length) : (clrL l a k z).take a = l.take a := by
  unfold clrL
  rw [List.append_assoc, List.take_append_of_le_length (by rw [List.length_take]; omega), List.take_take, Nat.min_self]
theorem del_Node {k i j : Nat} {l : List TNode} (hk : k ≤ l.length) (h1 : i ≤ j) (h2 : j ≤ k) (hl : l.length ≤ 1048576) :
    ∃ l', slices_Delete_Node k (i : Int) (j : Int) l = some (l.take i ++ (l.take k).drop j, l') ∧ l'.take (l.take i ++ (l.take k).drop j).length = l.take i ++ (l.take k).drop j ∧ l'.length = l.length := by
  unfold slices_Delete_Node
  rw [chkP_pos hk, chkP_pos (by omega)]
  by_cases hij : i = j
  · subst hij
    have e : l.take i ++ (l.take k).drop i = l.take k := by
      have := List.take_append_drop i (l.take k)
      rwa [List.take_take, Nat.min_eq_left h2] at this
    rw [iqt, cnd_true, e]
    exact ⟨l, rfl, by rw [List.length_take, Nat.min_eq_left hk], rfl⟩
  rw [iqf (by omega), cnd_false]
  have s1 := slc_some (l := l) (a := 0) (b := i) (by omega) (by omega)
  rw [List.drop_zero, Nat.sub_zero] at s1
  have s2 := slc_some (l := l) (a := j) (b := k) h2 hk
  have e2 : (l.drop j).take (k - j) = (l.take k).drop j := by rw [List.drop_take]
  rw [e2] at s2
  have s1' : slc l 0 (i : Int) = some (l.take i) := s1
  have l1 : (l.take i).length = i := by rw [List.length_take]; omega
  have l2 : ((l.take k).drop j).length = k - j := by rw [List.length_drop, List.length_take]; omega
  rw [s1', bnd_some, s2, bnd_some, l1, l2, chkP_pos (by omega), chkP_pos (by omega), nam_eq]
  have hov : (ovr l i ((l.take k).drop j)).length = l.length := ovr_len (by rw [l2]; omega)
  have ht := ovr_take (l := l) (s := (l.take k).drop j) (k := i) (by omega)
  rw [l2] at ht
  have hvl : (l.take i ++ (l.take k).drop j).length = i + (k - j) := by rw [List.length_append, l1, l2]
  have s3 : slc (ovr l i ((l.take k).drop j)) 0 ((i : Int) + ((k - j : Nat) : Int)) = some (l.take i ++ (l.take k).drop j) := by
    have := slc_front (l := ovr l i ((l.take k).drop j)) (n := l.take i ++ (l.take k).drop j) (by rw [hvl]; exact ht)
    rw [hvl] at this
    rwa [Int.natCast_add] at this
  rw [s3, bnd_some, hvl]
  have s4 := slc_some (l := ovr l i ((l.take k).drop j)) (a := i + (k - j)) (b := k) (by omega) (by rw [hov]; exact hk)
  rw [s4, bnd_some, nam_eq, Int.toNat_natCast]
  refine ⟨_, rfl, ?_, ?_⟩
  · rw [clr_take (by rw [hov]; omega), ht]
  · rw [clrL_len, hov]
    rw [List.length_take, List.length_drop, hov]; omega
theorem ins_Node {k i : Nat} {l v : List TNode} (hk : k ≤ l.length) (h1 : i ≤ k) (hv : 0 < v.length) (hv2 : v.length ≤ 8) (he : k < l.length → k + v.length ≤ l.length ∨ i < k) (hl : l.length ≤ 1048576) :
    ∃ l', slices_Insert_Node k (i : Int) l v = some (l.take i ++ v ++ (l.take k).drop i, l') ∧ l'.take (l.take i ++ v ++ (l.take k).drop i).length = l.take i ++ v ++ (l.take k).drop i ∧ l'.length ≤ l.length + 8 := by
  unfold slices_Insert_Node
  have hvl : (l.take i ++ v ++ (l.take k).drop i).length = k + v.length := by
    simp only [List.length_append, List.length_take, List.length_drop]; omega
  by_cases hi : i = k
  · subst hi
    rw [iqt, cnd_true, chkP_pos hk, slc_some (Nat.le_refl _) hk, bnd_some, iqf (by omega), cnd_false]
    have hd : (l.take i).drop i = [] := List.drop_eq_nil_of_le (by rw [List.length_take]; omega)
    rw [hd, List.append_nil]
    by_cases hw : i = l.length
    · subst hw
      rw [iqt, cnd_true, chkP_pos (by omega), nam_eq, List.take_length]
      exact ⟨_, rfl, by rw [List.take_length], by rw [List.length_append]; omega⟩
    · have hf : i + v.length ≤ l.length := by rcases he (by omega) with h | h <;> omega
      rw [iqf (by omega), cnd_false, chkP_pos hf, chkP_pos (by omega), nam_eq]
      have ht := ovr_take (l := l) (s := v) (k := i) (by omega)
      have hl2 : (l.take i ++ v).length = i + v.length := by rw [List.length_append, List.length_take]; omega
      have s3 : slc (ovr l i v) 0 ((i : Int) + (v.length : Int)) = some (l.take i ++ v) := by
        have := slc_front (l := ovr l i v) (n := l.take i ++ v) (by rw [hl2]; exact ht)
        rw [hl2] at this
        rwa [Int.natCast_add] at this
      rw [s3, bnd_some]
      exact ⟨_, rfl, by rw [hl2]; exact ht, by rw [ovr_len hf]; omega⟩
  · rw [iqf (by omega), cnd_false, chkP_pos (by omega)]
    refine ⟨_, rfl, ?_, ?_⟩
    · unfold insR insL
      simp only [Int.toNat_natCast]
      exact List.take_left
    · rw [insR_len (by simp; omega) hk]; omega

/-! ## Caches: right ones, remembered, recalled, forgotten -/
/-! ## Deleting by a test; what is first -/
theorem fst_cases {α : Type} (q : α → Bool) (l : List α) : (fst q l = -1 ∧ ∀ x ∈ l, q x = false) ∨ ∃ (i : Nat) (hi : i < l.length), fst q l = (i : Int) ∧ q l[i] = true ∧ ∀ (k : Nat) (hk : k < i), q l[k] = false := by
  unfold fst
  cases h : l.findIdx? q with
  | none => exact .inl ⟨rfl, List.findIdx?_eq_none_iff.1 h⟩
  | some i =>
    obtain ⟨hi, h1, h2⟩ := List.findIdx?_eq_some_iff_getElem.1 h
    exact .inr ⟨i, hi, rfl, h1, fun k hk => by simpa using h2 k hk⟩
theorem filter_take_succ {α : Type} {p : α → Bool} {l : List α} {j : Nat} (hj : j < l.length) : (l.take (j + 1)).filter p = (l.take j).filter p ++ (if p l[j] then [l[j]] else []) := by
  rw [List.take_add_one, List.getElem?_eq_getElem hj, List.filter_append]
  congr 1
  simp only [Option.toList, List.filter_cons, List.filter_nil]
theorem m_Index {l : List Int} {x : Int} (h : l.length ≤ 1048576) : slices_Index_int l x = some (fst (fun y => ieq x y) l) := by
  unfold slices_Index_int
  rw [loopI_index (l := l) (fun y => ieq x y) (.inl ()) .inr (by omega) (fun i hi => ?_) ?_]
  · unfold fst
    cases List.findIdx? (fun y => ieq x y) l <;> rfl
  · rw [slices_Index_int_l0, ilt (by omega), cnd_true]
  · rw [slices_Index_int_l0, ilf (by omega), cnd_false, idx_nat hi, bnd_some]
def isIn (x : Int) (l : List Int) : Bool := l.any fun y => ieq x y
theorem m_Contains {l : List Int} {x : Int} (h : l.length ≤ 1048576) : slices_Contains_int l x = some (isIn x l) := by
  unfold slices_Contains_int
  rw [m_Index h, bnd_some]
  congr 1
  unfold isIn
  rcases fst_cases (fun y => ieq x y) l with ⟨h1, h2⟩ | ⟨i, hi, h1, h2, _⟩
  · rw [h1, ilf (by omega)]
    symm
    rw [List.any_eq_false]
    intro y hy; simpa using h2 y hy
  · rw [h1, ilt (by omega)]
    symm
    rw [List.any_eq_true]
    exact ⟨_, List.getElem_mem hi, h2⟩
/-! ## Scenes as maps of parents -/
def upOf (s : TScene) (id : Int) : Option Int := (idx s.nodes (nodeAt s id)).map (·.parent)
def dl (p : Int → Option Int) : Nat → Int → Int → Int
  | 0, _, _ => 0
  | f + 1, id, n => match p id with
    | none => 0
    | some q => if q = 0 then n else dl p f q (n + 1)
def dpt (p : Int → Option Int) (id : Int) : Int := if id = 0 then 0 else dl p 8 id 1
def ct (p : Int → Option Int) : Nat → Int → Int → Bool
  | 0, id, top => ieq id top
  | f + 1, id, top => if ieq id top then true else match p id with
    | none => false
    | some q => ct p f q top
theorem idx_at {s : TScene} {id : Int} : (0 ≤ nodeAt s id ∧ ∃ x, idx s.nodes (nodeAt s id) = some x ∧ upOf s id = some x.parent ∧ x.id = id ∧ x ∈ s.nodes) ∨ (nodeAt s id < 0 ∧ upOf s id = none ∧ ∀ x ∈ s.nodes, x.id ≠ id) := by
  rcases fst_cases (fun k : TNode => ieq k.id id) s.nodes with ⟨h1, h2⟩ | ⟨i, hi, h1, h2, _⟩
  · right
    have h0 : nodeAt s id = -1 := h1
    refine ⟨by omega, ?_, fun x hx e => ?_⟩
    · unfold upOf; rw [h0]; rfl
    · have := h2 x hx
      rw [e, iqt] at this; cases this
  · left
    have h0 : nodeAt s id = (i : Int) := h1
    refine ⟨by omega, s.nodes[i], by rw [h0, idx_nat hi], ?_, by simpa [ieq] using h2, List.getElem_mem hi⟩
    unfold upOf; rw [h0, idx_nat hi]; rfl
theorem m_DepthOf {s : TScene} (h : s.nodes.length ≤ 1048576) (id : Int) : impl_DepthOf s id = some (dpt (upOf s) id) := by
  unfold impl_DepthOf dpt
  by_cases hid : id = 0
  · rw [hid, iqt, cnd_true, if_pos rfl]
  rw [iqf hid, cnd_false, if_neg hid]
  have key : ∀ (f : Nat) (id n : Int), n + (f : Int) = 9 → 1 ≤ n → ∃ q, loopI (impl_DepthOf_l0 s) (id, n) = some q ∧ outI q = dl (upOf s) f id n := by
    intro f
    induction f with
    | zero =>
      intro id n hn h1
      have : n = 9 := by omega
      subst this
      exact ⟨.inr (), loopI_end (by rw [impl_DepthOf_l0, ilf (by omega), cnd_false]), rfl⟩
    | succ f ih =>
      intro id n hn h1
      rcases idx_at (s := s) (id := id) with ⟨ha, x, hx, hp, _⟩ | ⟨ha, hp, _⟩
      · by_cases h0 : x.parent = 0
        · refine ⟨.inl n, loopI_end (by rw [impl_DepthOf_l0, ilt (by omega), cnd_true, m_impl_NodeAt h, bnd_some, ilt ha, cnd_true, hx, bnd_some, h0, iqt, cnd_true]), ?_⟩
          rw [dl, hp]; simp [h0, outI]
        · obtain ⟨q, q1, q2⟩ := ih x.parent (n + 1) (by omega) (by omega)
          have e1 : impl_DepthOf_l0 s (id, n) = some (.inl (x.parent, n + 1)) := by
            rw [impl_DepthOf_l0, ilt (by omega), cnd_true, m_impl_NodeAt h, bnd_some, ilt ha, cnd_true, hx, bnd_some, iqf h0, cnd_false, wr_in (by omega)]
          refine ⟨q, by rw [loopI_go e1]; exact q1, ?_⟩
          rw [q2, dl, hp]; simp [h0]
      · refine ⟨.inl 0, loopI_end (by rw [impl_DepthOf_l0, ilt (by omega), cnd_true, m_impl_NodeAt h, bnd_some, ilf (by omega), cnd_false]), ?_⟩
        rw [dl, hp]; rfl
  obtain ⟨q, q1, q2⟩ := key 8 id 1 (by omega) (by omega)
  rw [q1]
  cases q with
  | inl y => simp only [outI] at q2; rw [← q2]; rfl
  | inr u => simp only [outI] at q2; rw [← q2]; rfl
theorem m_comesTo {s : TScene} (h : s.nodes.length ≤ 1048576) (a b : Int) : impl_Scene_comesTo s a b = some (ct (upOf s) 8 a b) := by
  unfold impl_Scene_comesTo
  have key : ∀ (f : Nat) (id n : Int), n + (f : Int) = 8 → 0 ≤ n → ∃ q, loopI (impl_Scene_comesTo_l0 s b) (id, n) = some q ∧ ieq q b = ct (upOf s) f id b := by
    intro f
    induction f with
    | zero =>
      intro id n hn h1
      exact ⟨id, loopI_end (by rw [impl_Scene_comesTo_l0, ilt (by omega), cnd_true]), rfl⟩
    | succ f ih =>
      intro id n hn h1
      by_cases he : id = b
      · exact ⟨id, loopI_end (by rw [impl_Scene_comesTo_l0, ilf (by omega), cnd_false, m_impl_NodeAt h, bnd_some, he, iqt, cnd_true]), by rw [ct, he, iqt, if_pos rfl]⟩
      rcases idx_at (s := s) (id := id) with ⟨ha, x, hx, hp, _⟩ | ⟨ha, hp, _⟩
      · obtain ⟨q, q1, q2⟩ := ih x.parent (n + 1) (by omega) (by omega)
        have e1 : impl_Scene_comesTo_l0 s b (id, n) = some (.inl (x.parent, n + 1)) := by
          rw [impl_Scene_comesTo_l0, ilf (by omega), cnd_false, m_impl_NodeAt h, bnd_some, iqf he, cnd_false, ilt ha, cnd_true, hx, bnd_some, wr_in (by omega)]
        refine ⟨q, by rw [loopI_go e1]; exact q1, ?_⟩
        rw [q2, ct, iqf he, hp]; rfl
      · refine ⟨id, loopI_end (by rw [impl_Scene_comesTo_l0, ilf (by omega), cnd_false, m_impl_NodeAt h, bnd_some, iqf he, cnd_false, ilf (by omega), cnd_false]), ?_⟩
        rw [ct, iqf he, hp]; rfl
  obtain ⟨q, q1, q2⟩ := key 8 a 0 (by omega) (by omega)
  rw [q1, bnd_some, q2]
theorem m_Under {s : TScene} (h : s.nodes.length ≤ 1048576) (a b : Int) : spec_l15Under s a b = some (ct (upOf s) 8 a b) := by
  unfold spec_l15Under
  have key : ∀ (f : Nat) (id n : Int), n + (f : Int) = 8 → 0 ≤ n → ∃ q : Bool ⊕ Unit, loopI (spec_l15Under_l0 s b) (id, n) = some q ∧ (match q with | .inl y => y | .inr _ => false) = ct (upOf s) f id b := by
    intro f
    induction f with
    | zero =>
      intro id n hn h1
      have : n = 8 := by omega
      subst this
      by_cases he : id = b
      · exact ⟨.inl true, loopI_end (by rw [spec_l15Under_l0, ilt (by omega), cnd_true, he, iqt, cnd_true]), by rw [ct, he, iqt]⟩
      rcases idx_at (s := s) (id := id) with ⟨ha, x, hx, hp, _⟩ | ⟨ha, hp, _⟩
      · have e1 : spec_l15Under_l0 s b (id, 8) = some (.inl (x.parent, 9)) := by
          rw [spec_l15Under_l0, ilt (by omega), cnd_true, iqf he, cnd_false, m_spec_NodeAt h, bnd_some, ilt ha, cnd_true, hx, bnd_some, wr_in (by omega)]; rfl
        refine ⟨.inr (), by rw [loopI_go e1]; exact loopI_end (by rw [spec_l15Under_l0, ilf (by omega), cnd_false]), ?_⟩
        rw [ct, iqf he]
      · refine ⟨.inl false, loopI_end (by rw [spec_l15Under_l0, ilt (by omega), cnd_true, iqf he, cnd_false, m_spec_NodeAt h, bnd_some, ilf (by omega), cnd_false]), ?_⟩
        rw [ct, iqf he]
    | succ f ih =>
      intro id n hn h1
      by_cases he : id = b
      · exact ⟨.inl true, loopI_end (by rw [spec_l15Under_l0, ilt (by omega), cnd_true, he, iqt, cnd_true]), by rw [ct, he, iqt]; rfl⟩
      rcases idx_at (s := s) (id := id) with ⟨ha, x, hx, hp, _⟩ | ⟨ha, hp, _⟩
      · obtain ⟨q, q1, q2⟩ := ih x.parent (n + 1) (by omega) (by omega)
        have e1 : spec_l15Under_l0 s b (id, n) = some (.inl (x.parent, n + 1)) := by
          rw [spec_l15Under_l0, ilt (by omega), cnd_true, iqf he, cnd_false, m_spec_NodeAt h, bnd_some, ilt ha, cnd_true, hx, bnd_some, wr_in (by omega)]
        refine ⟨q, by rw [loopI_go e1]; exact q1, ?_⟩
        rw [q2, ct, iqf he, hp]; rfl
      · refine ⟨.inl false, loopI_end (by rw [spec_l15Under_l0, ilt (by omega), cnd_true, iqf he, cnd_false, m_spec_NodeAt h, bnd_some, ilf (by omega), cnd_false]), ?_⟩
        rw [ct, iqf he, hp]; rfl
  obtain ⟨q, q1, q2⟩ := key 8 a 0 (by omega) (by omega)
  rw [q1, bnd_some, ← q2]
  cases q <;> rfl
def underOf (s : TScene) (id : Int) : List Int := if 0 ≤ nodeAt s id then (s.nodes.filter fun x => ct (upOf s) 8 x.id id).map (·.id) else []
theorem m_impl_UnderOf {s : TScene} (h : s.nodes.length ≤ 1048576) (id : Int) : impl_UnderOf s id = some (underOf s id) := by
  unfold impl_UnderOf underOf
  rw [m_impl_NodeAt h, bnd_some]
  by_cases ha : 0 ≤ nodeAt s id
  case neg => rw [ilf (by omega), cnd_false, if_neg ha]
  rw [ilt ha, cnd_true, if_pos ha]
  have key := loopI_n (f := impl_UnderOf_l0 s id) (fun i => (((s.nodes.take i).filter fun x => ct (upOf s) 8 x.id id).map (·.id), (i : Int))) s.nodes.length (r := (s.nodes.filter fun x => ct (upOf s) 8 x.id id).map (·.id)) (fun i hi => ?_) ?_
  · have e : loopI (impl_UnderOf_l0 s id) ([], 0) = some ((s.nodes.filter fun x => ct (upOf s) 8 x.id id).map (·.id)) := key
    rw [e]; rfl
  · try dsimp only
    have kl : (((s.nodes.take i).filter fun x => ct (upOf s) 8 x.id id).map (·.id)).length ≤ s.nodes.length := by
      rw [List.length_map]
      have h1 := List.length_filter_le (fun x : TNode => ct (upOf s) 8 x.id id) (s.nodes.take i)
      rw [List.length_take] at h1; omega
    rw [filter_take_succ hi, List.map_append, impl_UnderOf_l0, ilf (by omega), cnd_false, idx_nat hi, bnd_some, m_comesTo h, bnd_some, wr_in (by omega)]
    cases ct (upOf s) 8 (s.nodes[i]).id id with
    | true => rw [cnd_true, chkP_pos (by omega), nam_eq]; rfl
    | false => rw [cnd_false]; simp
  · try dsimp only
    rw [impl_UnderOf_l0, ilt (by omega), cnd_true, List.take_length]
theorem dl_same {p p' : Int → Option Int} {id : Int} (hp : ∀ z, z ≠ id → p z = p' z) : ∀ (f : Nat) (y n : Int), ct p f y id = false → dl p f y n = dl p' f y n
  | 0, _, _, _ => rfl
  | f + 1, y, n, h => by
    rw [ct] at h
    by_cases he : y = id
    · rw [he, iqt] at h; cases h
    rw [iqf he] at h
    simp only [Bool.false_eq_true, if_false] at h
    rw [dl, dl, ← hp y he]
    cases hq : p y with
    | none => rfl
    | some q =>
      rw [hq] at h
      dsimp only at h ⊢
      by_cases h0 : q = 0
      · rw [if_pos h0, if_pos h0]
      · rw [if_neg h0, if_neg h0]; exact dl_same hp f q (n + 1) h
theorem dpt_same {p p' : Int → Option Int} {id y : Int} (hp : ∀ z, z ≠ id → p z = p' z) (h : ct p 8 y id = false) : dpt p y = dpt p' y := by
  unfold dpt
  by_cases h0 : y = 0
  · rw [if_pos h0, if_pos h0]
  · rw [if_neg h0, if_neg h0]; exact dl_same hp 8 y 1 h
theorem nodup_at {s : TScene} (hn : (s.nodes.map (·.id)).Nodup) {i : Nat} (hi : i < s.nodes.length) : nodeAt s s.nodes[i].id = (i : Int) := by
  unfold nodeAt
  rw [fst_eq hi (by simp [ieq])]
  intro k hk
  have : s.nodes[k].id ≠ s.nodes[i].id := fun e => by
    have h1 : (s.nodes.map (·.id))[k]'(by rw [List.length_map]; omega) = (s.nodes.map (·.id))[i]'(by rw [List.length_map]; omega) := by simpa using e
    have := (List.getElem_inj hn).1 h1
    omega
  simp [ieq, this]
theorem at_mem {s : TScene} (hn : (s.nodes.map (·.id)).Nodup) {x : TNode} (hx : x ∈ s.nodes) : idx s.nodes (nodeAt s x.id) = some x := by
  obtain ⟨i, hi, rfl⟩ := List.getElem_of_mem hx
  rw [nodup_at hn hi, idx_nat hi]
/-- Right scenes, by parents. -/
theorem sceneOk_par {s : TScene} (h : RowsS s) : impl_SceneOk s = some true ↔ s.nodes.length ≤ 8 ∧ (s.nodes.map (·.id)).Nodup ∧ ∀ x ∈ s.nodes, impl_NodeOk x = some true ∧ (x.parent = 0 ∨ ∃ z ∈ s.nodes, z.id = x.parent ∧ z.group = true) ∧ tin (dpt (upOf s) x.id) 1 4 = true := by
  have hn := h.n
  rw [sceneOk_iff h]
  refine and_congr Iff.rfl ⟨fun hg => ?_, fun ⟨nd, hx⟩ i hi => ?_⟩
  · have nd : (s.nodes.map (·.id)).Nodup := by
      unfold List.Nodup
      rw [List.pairwise_iff_getElem]
      intro i j hi hj hij e
      rw [List.length_map] at hi hj
      simp only [List.getElem_map] at e
      have a := (hg i hi).at'
      have b := (hg j hj).at'
      rw [e, b] at a
      omega
    refine ⟨nd, fun x hx => ?_⟩
    obtain ⟨i, hi, rfl⟩ := List.getElem_of_mem hx
    have g := hg i hi
    refine ⟨g.ok, ?_, ?_⟩
    · rcases g.par with h0 | ⟨z, z1, z2⟩
      · exact .inl h0
      · right
        rcases idx_at (s := s) (id := s.nodes[i].parent) with ⟨_, y, y1, _, y3, y4⟩ | ⟨ha, _, _⟩
        · have := Option.some.inj (y1.symm.trans z1)
          subst this
          exact ⟨_, y4, y3, z2⟩
        · unfold idx at z1; rw [if_neg (by omega)] at z1; cases z1
    · obtain ⟨d, d1, d2⟩ := g.dep
      rw [m_DepthOf hn] at d1; cases d1; exact d2
  · obtain ⟨x1, x2, x3⟩ := hx _ (List.getElem_mem hi)
    refine ⟨x1, nodup_at nd hi, ?_, _, m_DepthOf hn _, x3⟩
    rcases x2 with h0 | ⟨z, z1, z2, z3⟩
    · exact .inl h0
    · exact .inr ⟨z, by rw [← z2]; exact at_mem nd z1, z3⟩

/-! ## A node placed -/
def withPar (x : TNode) (p : Int) : TNode := ⟨x.id, p, x.group, x.mat, x.path, x.even, x.width, x.dashes, x.paint, x.mode, x.fade, x.clip⟩
def plG (id b : Int) (x' : TNode) (z : TNode) : List TNode := (if ieq z.id id then [] else [z]) ++ (if ieq z.id b && !ieq b 0 then [x'] else [])
theorem plG_len (id b : Int) (x' : TNode) : ∀ l : List TNode, (l.flatMap (plG id b x')).length ≤ 2 * l.length
  | [] => by simp
  | z :: l => by
    have ih := plG_len id b x' l
    have : (plG id b x' z).length ≤ 2 := by
      unfold plG
      rw [List.length_append]
      cases ieq z.id id <;> cases (ieq z.id b && !ieq b 0) <;> simp
    rw [List.flatMap_cons, List.length_append, List.length_cons]; omega
theorem placeL_0 {s : TScene} {p b id : Int} {v1 : List TNode} {k : Nat} {x : TNode} {init : List TNode} (hs : SB s) (hn : (s.nodes.map (·.id)).Nodup) (hk : k < s.nodes.length) (hki : s.nodes[k].id = id) (hi : init.length ≤ 1) :
    loopI (spec_PlaceNode_l0 s p b v1 (k : Int) x) (0, init) = some (init ++ s.nodes.flatMap (plG id b (withPar x p))) := by
  have hl := hs.n
  have key := loopI_n (f := spec_PlaceNode_l0 s p b v1 (k : Int) x) (fun i => ((i : Int), init ++ (s.nodes.take i).flatMap (plG id b (withPar x p)))) s.nodes.length (r := init ++ s.nodes.flatMap (plG id b (withPar x p))) (fun i hi' => ?_) ?_
  · have e : loopI (spec_PlaceNode_l0 s p b v1 (k : Int) x) (0, init ++ ([] : List TNode).flatMap (plG id b (withPar x p))) = some (init ++ s.nodes.flatMap (plG id b (withPar x p))) := key
    rwa [List.flatMap_nil, List.append_nil] at e
  · try dsimp only
    have hlen : (init ++ (s.nodes.take i).flatMap (plG id b (withPar x p))).length ≤ 1 + 2 * i := by
      have := plG_len id b (withPar x p) (s.nodes.take i)
      rw [List.length_take] at this
      rw [List.length_append]; omega
    have hst : init ++ (s.nodes.take (i + 1)).flatMap (plG id b (withPar x p)) = (init ++ (s.nodes.take i).flatMap (plG id b (withPar x p))) ++ plG id b (withPar x p) s.nodes[i] := by
      rw [List.take_add_one, List.getElem?_eq_getElem hi', List.flatMap_append, List.append_assoc]
      congr 2
      simp
    rw [hst]
    obtain ⟨O, hO⟩ : ∃ O, O = init ++ (s.nodes.take i).flatMap (plG id b (withPar x p)) := ⟨_, rfl⟩
    rw [← hO] at hlen ⊢
    rw [spec_PlaceNode_l0, ilf (by omega), cnd_false, idx_nat hi', bnd_some, bnd_some, wr_in (by omega)]
    have hxe : (TNode.mk x.id p x.group x.mat x.path x.even x.width x.dashes x.paint x.mode x.fade x.clip) = withPar x p := rfl
    have hcast : ((i : Int) + 1) = ((i + 1 : Nat) : Int) := by omega
    rw [hcast, hxe]
    by_cases he : i = k
    · subst he
      rw [iqt, cnd_true]
      unfold plG
      rw [hki, iqt]
      cases h1 : ieq id b with
      | false => simp
      | true =>
        rw [cnd_true]
        cases h2 : ieq b 0 with
        | true => simp
        | false => rw [cnd_false, chkP_pos (by omega), nam_eq]; simp
    · have hne : ieq s.nodes[i].id id = false := by
        rw [← hki]
        refine iqf fun e => he ?_
        have h1 : (s.nodes.map (·.id))[i]'(by rw [List.length_map]; omega) = (s.nodes.map (·.id))[k]'(by rw [List.length_map]; omega) := by simpa using e
        exact (List.getElem_inj hn).1 h1
      rw [iqf (by omega), cnd_false, m_spec_copyNode (hs.x _ (List.getElem_mem hi')), bnd_some, chkP_pos (by omega), nam_eq]
      unfold plG
      rw [hne]
      cases h1 : ieq s.nodes[i].id b with
      | false => simp
      | true =>
        rw [cnd_true]
        cases h2 : ieq b 0 with
        | true => simp
        | false => rw [cnd_false, chkP_pos (by rw [List.length_append]; simp; omega), nam_eq]; simp
  · try dsimp only
    rw [spec_PlaceNode_l0, ilt (by omega), cnd_true, List.take_length]
theorem placeL_1 {s : TScene} {p b id : Int} {v1 : List TNode} {k : Nat} {x : TNode} {init : List TNode} (hs : SB s) (hn : (s.nodes.map (·.id)).Nodup) (hk : k < s.nodes.length) (hki : s.nodes[k].id = id) (hi : init.length ≤ 1) :
    loopI (spec_PlaceNode_l1 s p b v1 (k : Int) x) (0, init) = some (init ++ s.nodes.flatMap (plG id b (withPar x p))) := by
  have hl := hs.n
  have key := loopI_n (f := spec_PlaceNode_l1 s p b v1 (k : Int) x) (fun i => ((i : Int), init ++ (s.nodes.take i).flatMap (plG id b (withPar x p)))) s.nodes.length (r := init ++ s.nodes.flatMap (plG id b (withPar x p))) (fun i hi' => ?_) ?_
  · have e : loopI (spec_PlaceNode_l1 s p b v1 (k : Int) x) (0, init ++ ([] : List TNode).flatMap (plG id b (withPar x p))) = some (init ++ s.nodes.flatMap (plG id b (withPar x p))) := key
    rwa [List.flatMap_nil, List.append_nil] at e
  · try dsimp only
    have hlen : (init ++ (s.nodes.take i).flatMap (plG id b (withPar x p))).length ≤ 1 + 2 * i := by
      have := plG_len id b (withPar x p) (s.nodes.take i)
      rw [List.length_take] at this
      rw [List.length_append]; omega
    have hst : init ++ (s.nodes.take (i + 1)).flatMap (plG id b (withPar x p)) = (init ++ (s.nodes.take i).flatMap (plG id b (withPar x p))) ++ plG id b (withPar x p) s.nodes[i] := by
      rw [List.take_add_one, List.getElem?_eq_getElem hi', List.flatMap_append, List.append_assoc]
      congr 2
      simp
    rw [hst]
    obtain ⟨O, hO⟩ : ∃ O, O = init ++ (s.nodes.take i).flatMap (plG id b (withPar x p)) := ⟨_, rfl⟩
    rw [← hO] at hlen ⊢
    rw [spec_PlaceNode_l1, ilf (by omega), cnd_false, idx_nat hi', bnd_some, bnd_some, wr_in (by omega)]
    have hxe : (TNode.mk x.id p x.group x.mat x.path x.even x.width x.dashes x.paint x.mode x.fade x.clip) = withPar x p := rfl
    have hcast : ((i : Int) + 1) = ((i + 1 : Nat) : Int) := by omega
    rw [hcast, hxe]
    by_cases he : i = k
    · subst he
      rw [iqt, cnd_true]
      unfold plG
      rw [hki, iqt]
      cases h1 : ieq id b with
      | false => simp
      | true =>
        rw [cnd_true]
        cases h2 : ieq b 0 with
        | true => simp
        | false => rw [cnd_false, chkP_pos (by omega), nam_eq]; simp
    · have hne : ieq s.nodes[i].id id = false := by
        rw [← hki]
        refine iqf fun e => he ?_
        have h1 : (s.nodes.map (·.id))[i]'(by rw [List.length_map]; omega) = (s.nodes.map (·.id))[k]'(by rw [List.length_map]; omega) := by simpa using e
        exact (List.getElem_inj hn).1 h1
      rw [iqf (by omega), cnd_false, m_spec_copyNode (hs.x _ (List.getElem_mem hi')), bnd_some, chkP_pos (by omega), nam_eq]
      unfold plG
      rw [hne]
      cases h1 : ieq s.nodes[i].id b with
      | false => simp
      | true =>
        rw [cnd_true]
        cases h2 : ieq b 0 with
        | true => simp
        | false => rw [cnd_false, chkP_pos (by rw [List.length_append]; simp; omega), nam_eq]; simp
  · try dsimp only
    rw [spec_PlaceNode_l1, ilt (by omega), cnd_true, List.take_length]
theorem placeL_2 {s : TScene} {p b id : Int} {v1 : List TNode} {k : Nat} {x : TNode} {init : List TNode} (hs : SB s) (hn : (s.nodes.map (·.id)).Nodup) (hk : k < s.nodes.length) (hki : s.nodes[k].id = id) (hi : init.length ≤ 1) :
    loopI (spec_PlaceNode_l2 s p b v1 (k : Int) x) (0, init) = some (init ++ s.nodes.flatMap (plG id b (withPar x p))) := by
  have hl := hs.n
  have key := loopI_n (f := spec_PlaceNode_l2 s p b v1 (k : Int) x) (fun i => ((i : Int), init ++ (s.nodes.take i).flatMap (plG id b (withPar x p)))) s.nodes.length (r := init ++ s.nodes.flatMap (plG id b (withPar x p))) (fun i hi' => ?_) ?_
  · have e : loopI (spec_PlaceNode_l2 s p b v1 (k : Int) x) (0, init ++ ([] : List TNode).flatMap (plG id b (withPar x p))) = some (init ++ s.nodes.flatMap (plG id b (withPar x p))) := key
    rwa [List.flatMap_nil, List.append_nil] at e
  · try dsimp only
    have hlen : (init ++ (s.nodes.take i).flatMap (plG id b (withPar x p))).length ≤ 1 + 2 * i := by
      have := plG_len id b (withPar x p) (s.nodes.take i)
      rw [List.length_take] at this
      rw [List.length_append]; omega
    have hst : init ++ (s.nodes.take (i + 1)).flatMap (plG id b (withPar x p)) = (init ++ (s.nodes.take i).flatMap (plG id b (withPar x p))) ++ plG id b (withPar x p) s.nodes[i] := by
      rw [List.take_add_one, List.getElem?_eq_getElem hi', List.flatMap_append, List.append_assoc]
      congr 2
      simp
    rw [hst]
    obtain ⟨O, hO⟩ : ∃ O, O = init ++ (s.nodes.take i).flatMap (plG id b (withPar x p)) := ⟨_, rfl⟩
    rw [← hO] at hlen ⊢
    rw [spec_PlaceNode_l2, ilf (by omega), cnd_false, idx_nat hi', bnd_some, bnd_some, wr_in (by omega)]
    have hxe : (TNode.mk x.id p x.group x.mat x.path x.even x.width x.dashes x.paint x.mode x.fade x.clip) = withPar x p := rfl
    have hcast : ((i : Int) + 1) = ((i + 1 : Nat) : Int) := by omega
    rw [hcast, hxe]
    by_cases he : i = k
    · subst he
      rw [iqt, cnd_true]
      unfold plG
      rw [hki, iqt]
      cases h1 : ieq id b with
      | false => simp
      | true =>
        rw [cnd_true]
        cases h2 : ieq b 0 with
        | true => simp
        | false => rw [cnd_false, chkP_pos (by omega), nam_eq]; simp
    · have hne : ieq s.nodes[i].id id = false := by
        rw [← hki]
        refine iqf fun e => he ?_
        have h1 : (s.nodes.map (·.id))[i]'(by rw [List.length_map]; omega) = (s.nodes.map (·.id))[k]'(by rw [List.length_map]; omega) := by simpa using e
        exact (List.getElem_inj hn).1 h1
      rw [iqf (by omega), cnd_false, m_spec_copyNode (hs.x _ (List.getElem_mem hi')), bnd_some, chkP_pos (by omega), nam_eq]
      unfold plG
      rw [hne]
      cases h1 : ieq s.nodes[i].id b with
      | false => simp
      | true =>
        rw [cnd_true]
        cases h2 : ieq b 0 with
        | true => simp
        | false => rw [cnd_false, chkP_pos (by rw [List.length_append]; simp; omega), nam_eq]; simp
  · try dsimp only
    rw [spec_PlaceNode_l2, ilt (by omega), cnd_true, List.take_length]
theorem placeL_3 {s : TScene} {p b id : Int} {v1 : List TNode} {k : Nat} {x : TNode} {init : List TNode} (hs : SB s) (hn : (s.nodes.map (·.id)).Nodup) (hk : k < s.nodes.length) (hki : s.nodes[k].id = id) (hi : init.length ≤ 1) :
    loopI (spec_PlaceNode_l3 s p b v1 (k : Int) x) (0, init) = some (init ++ s.nodes.flatMap (plG id b (withPar x p))) := by
  have hl := hs.n
  have key := loopI_n (f := spec_PlaceNode_l3 s p b v1 (k : Int) x) (fun i => ((i : Int), init ++ (s.nodes.take i).flatMap (plG id b (withPar x p)))) s.nodes.length (r := init ++ s.nodes.flatMap (plG id b (withPar x p))) (fun i hi' => ?_) ?_
  · have e : loopI (spec_PlaceNode_l3 s p b v1 (k : Int) x) (0, init ++ ([] : List TNode).flatMap (plG id b (withPar x p))) = some (init ++ s.nodes.flatMap (plG id b (withPar x p))) := key
    rwa [List.flatMap_nil, List.append_nil] at e
  · try dsimp only
    have hlen : (init ++ (s.nodes.take i).flatMap (plG id b (withPar x p))).length ≤ 1 + 2 * i := by
      have := plG_len id b (withPar x p) (s.nodes.take i)
      rw [List.length_take] at this
      rw [List.length_append]; omega
    have hst : init ++ (s.nodes.take (i + 1)).flatMap (plG id b (withPar x p)) = (init ++ (s.nodes.take i).flatMap (plG id b (withPar x p))) ++ plG id b (withPar x p) s.nodes[i] := by
      rw [List.take_add_one, List.getElem?_eq_getElem hi', List.flatMap_append, List.append_assoc]
      congr 2
      simp
    rw [hst]
    obtain ⟨O, hO⟩ : ∃ O, O = init ++ (s.nodes.take i).flatMap (plG id b (withPar x p)) := ⟨_, rfl⟩
    rw [← hO] at hlen ⊢
    rw [spec_PlaceNode_l3, ilf (by omega), cnd_false, idx_nat hi', bnd_some, bnd_some, wr_in (by omega)]
    have hxe : (TNode.mk x.id p x.group x.mat x.path x.even x.width x.dashes x.paint x.mode x.fade x.clip) = withPar x p := rfl
    have hcast : ((i : Int) + 1) = ((i + 1 : Nat) : Int) := by omega
    rw [hcast, hxe]
    by_cases he : i = k
    · subst he
      rw [iqt, cnd_true]
      unfold plG
      rw [hki, iqt]
      cases h1 : ieq id b with
      | false => simp
      | true =>
        rw [cnd_true]
        cases h2 : ieq b 0 with
        | true => simp
        | false => rw [cnd_false, chkP_pos (by omega), nam_eq]; simp
    · have hne : ieq s.nodes[i].id id = false := by
        rw [← hki]
        refine iqf fun e => he ?_
        have h1 : (s.nodes.map (·.id))[i]'(by rw [List.length_map]; omega) = (s.nodes.map (·.id))[k]'(by rw [List.length_map]; omega) := by simpa using e
        exact (List.getElem_inj hn).1 h1
      rw [iqf (by omega), cnd_false, m_spec_copyNode (hs.x _ (List.getElem_mem hi')), bnd_some, chkP_pos (by omega), nam_eq]
      unfold plG
      rw [hne]
      cases h1 : ieq s.nodes[i].id b with
      | false => simp
      | true =>
        rw [cnd_true]
        cases h2 : ieq b 0 with
        | true => simp
        | false => rw [cnd_false, chkP_pos (by rw [List.length_append]; simp; omega), nam_eq]; simp
  · try dsimp only
    rw [spec_PlaceNode_l3, ilt (by omega), cnd_true, List.take_length]

theorem rm_eq {l : List TNode} (hn : (l.map (·.id)).Nodup) {k : Nat} (hk : k < l.length) : l.take k ++ l.drop (k + 1) = l.filter (fun z => !ieq z.id l[k].id) := by
  have e : l = l.take k ++ l[k] :: l.drop (k + 1) := by
    rw [List.getElem_cons_drop, List.take_append_drop]
  have hne : ∀ (j : Nat) (hj : j < l.length), j ≠ k → ieq l[j].id l[k].id = false := fun j hj hji => by
    refine iqf fun e => hji ?_
    have h1 : (l.map (·.id))[j]'(by rw [List.length_map]; omega) = (l.map (·.id))[k]'(by rw [List.length_map]; omega) := by simpa using e
    exact (List.getElem_inj hn).1 h1
  have h1 : (l.take k).filter (fun z => !ieq z.id l[k].id) = l.take k := by
    refine List.filter_eq_self.2 fun a ha => ?_
    obtain ⟨j, hj, rfl⟩ := List.getElem_of_mem ha
    rw [List.length_take] at hj
    rw [List.getElem_take, hne j (by omega) (by omega)]; rfl
  have h2 : (l.drop (k + 1)).filter (fun z => !ieq z.id l[k].id) = l.drop (k + 1) := by
    refine List.filter_eq_self.2 fun a ha => ?_
    obtain ⟨j, hj, rfl⟩ := List.getElem_of_mem ha
    rw [List.length_drop] at hj
    rw [List.getElem_drop, hne _ (by omega) (by omega)]; rfl
  have h3 : (l.take k ++ l[k] :: l.drop (k + 1)).filter (fun z => !ieq z.id l[k].id) = l.take k ++ l.drop (k + 1) := by
    rw [List.filter_append, List.filter_cons, iqt, h1, h2]; simp
  rw [← e] at h3
  exact h3.symm
theorem flat_filter {id b : Int} {x' : TNode} (hb : ieq id b = false ∨ ieq b 0 = true) : ∀ l : List TNode, l.flatMap (plG id b x') = (l.filter (fun z => !ieq z.id id)).flatMap (plG id b x')
  | [] => rfl
  | z :: l => by
    rw [List.flatMap_cons, flat_filter hb l, List.filter_cons]
    cases h : ieq z.id id with
    | false => simp
    | true =>
      have he : z.id = id := by simpa [ieq] using h
      have : plG id b x' z = [] := by
        unfold plG
        rw [he, iqt]
        rcases hb with h | h <;> simp [h]
      simp [this]
theorem flat_id {id b : Int} {x' : TNode} : ∀ l : List TNode, (∀ z ∈ l, ieq z.id id = false) → (∀ z ∈ l, (ieq z.id b && !ieq b 0) = false) → l.flatMap (plG id b x') = l
  | [], _, _ => rfl
  | z :: l, h, k => by
    rw [List.flatMap_cons, flat_id l (fun y hy => h y (by simp [hy])) (fun y hy => k y (by simp [hy]))]
    unfold plG
    rw [h z (by simp), k z (by simp)]; simp
structure Pl (s : TScene) (id p b : Int) (k : Nat) : Prop where
  sb : SB s
  ok : impl_SceneOk s = some true
  hk : k < s.nodes.length
  hi : ∀ h : k < s.nodes.length, s.nodes[k].id = id
  hp : p = 0 ∨ ∃ z ∈ s.nodes, z.id = p ∧ z.group = true
  hb : b = 0 ∨ b ≠ id ∧ ∃ z ∈ s.nodes, z.id = b
  hr : p = 0 ∨ ct (upOf s) 8 p id = false
def rest (s : TScene) (id : Int) : List TNode := s.nodes.filter (fun z => !ieq z.id id)
def placed (s : TScene) (b : Int) (x' : TNode) : List TNode :=
  (rest s x'.id).take (nodeAt ⟨rest s x'.id⟩ b + 1).toNat ++ [x'] ++ (rest s x'.id).drop (nodeAt ⟨rest s x'.id⟩ b + 1).toNat
section
variable {s : TScene} {id p b : Int} {k : Nat}
theorem Pl.facts (h : Pl s id p b k) : s.nodes.length ≤ 8 ∧ (s.nodes.map (·.id)).Nodup ∧ (∀ x ∈ s.nodes, impl_NodeOk x = some true ∧ (x.parent = 0 ∨ ∃ z ∈ s.nodes, z.id = x.parent ∧ z.group = true) ∧ tin (dpt (upOf s) x.id) 1 4 = true) := (sceneOk_par h.sb.rows).1 h.ok
theorem Pl.id1 (h : Pl s id p b k) : 1 ≤ id ∧ id ≤ 99 := by
  have := (nodeOk_par (h.facts.2.2 _ (List.getElem_mem h.hk)).1).2.2
  rw [h.hi h.hk, tin_t] at this; omega
theorem rest_nodup (hn : (s.nodes.map (·.id)).Nodup) (id : Int) : ((rest s id).map (·.id)).Nodup := List.Nodup.sublist (List.filter_sublist.map _) hn
theorem rest_mem {z : TNode} : z ∈ rest s id ↔ z ∈ s.nodes ∧ z.id ≠ id := by
  unfold rest
  rw [List.mem_filter]
  refine and_congr Iff.rfl ?_
  by_cases h : z.id = id <;> simp [ieq, h]
theorem rest_len (h : Pl s id p b k) : (rest s id).length + 1 = s.nodes.length := by
  have := congrArg List.length (rm_eq h.facts.2.1 h.hk)
  rw [h.hi h.hk] at this
  unfold rest
  rw [← this]
  have := h.hk
  simp only [List.length_append, List.length_take, List.length_drop]; omega
theorem flat_eq (h : Pl s id p b k) {x' : TNode} (hx : x'.id = id) : (if b = 0 then [x'] else []) ++ s.nodes.flatMap (plG id b x') = placed s b x' := by
  have h1 := h.id1
  unfold placed
  rw [hx]
  rcases h.hb with rfl | ⟨hbi, z, hz, hzb⟩
  · rw [if_pos rfl, flat_filter (.inr iqt)]
    have hrn : nodeAt ⟨rest s id⟩ 0 = -1 := by
      rcases idx_at (s := ⟨rest s id⟩) (id := 0) with ⟨_, x, _, _, x1, x2⟩ | ⟨ha, _, _⟩
      · have := (h.facts.2.2 x (rest_mem.1 x2).1).1
        have := (nodeOk_par this).2.2
        rw [x1, tin_t] at this; omega
      · rcases fst_cases (fun k : TNode => ieq k.id 0) (rest s id) with ⟨q, _⟩ | ⟨i, hi, q, _⟩
        · exact q
        · have q' : nodeAt ⟨rest s id⟩ 0 = (i : Int) := q
          omega
    rw [hrn]
    have : (rest s id).flatMap (plG id 0 x') = rest s id := flat_id _ (fun z hz => iqf (rest_mem.1 hz).2) (fun z _ => by rw [iqt]; simp)
    unfold rest at this ⊢
    rw [this]; rfl
  · have hb0 : b ≠ 0 := fun e => by
      have := (nodeOk_par (h.facts.2.2 z hz).1).2.2
      rw [hzb, e, tin_t] at this; omega
    rw [if_neg hb0, List.nil_append, flat_filter (.inl (iqf (Ne.symm hbi)))]
    have hzr : z ∈ rest s id := rest_mem.2 ⟨hz, by rw [hzb]; exact hbi⟩
    obtain ⟨t, ht, hte⟩ := List.getElem_of_mem hzr
    have hat : nodeAt ⟨rest s id⟩ b = (t : Int) := by
      have := nodup_at (s := ⟨rest s id⟩) (rest_nodup h.facts.2.1 id) (i := t) ht
      rw [← hzb, ← hte]; exact this
    rw [hat]
    have ht1 : ((t : Int) + 1).toNat = t + 1 := by omega
    rw [ht1]
    have e : rest s id = (rest s id).take t ++ (rest s id)[t] :: (rest s id).drop (t + 1) := by rw [List.getElem_cons_drop, List.take_append_drop]
    have hne : ∀ (j : Nat) (hj : j < (rest s id).length), j ≠ t → ieq (rest s id)[j].id b = false := fun j hj hji => by
      rw [← hzb, ← hte]
      refine iqf fun e => hji ?_
      have h1 : ((rest s id).map (·.id))[j]'(by rw [List.length_map]; omega) = ((rest s id).map (·.id))[t]'(by rw [List.length_map]; omega) := by simpa using e
      exact (List.getElem_inj (rest_nodup h.facts.2.1 id)).1 h1
    have f1 : ((rest s id).take t).flatMap (plG id b x') = (rest s id).take t := flat_id _ (fun z hz => iqf (rest_mem.1 (List.mem_of_mem_take hz)).2) (fun z hz => by
      obtain ⟨j, hj, rfl⟩ := List.getElem_of_mem hz
      rw [List.length_take] at hj
      rw [List.getElem_take, hne j (by omega) (by omega)]; rfl)
    have f2 : ((rest s id).drop (t + 1)).flatMap (plG id b x') = (rest s id).drop (t + 1) := flat_id _ (fun z hz => iqf (rest_mem.1 (List.mem_of_mem_drop hz)).2) (fun z hz => by
      obtain ⟨j, hj, rfl⟩ := List.getElem_of_mem hz
      rw [List.length_drop] at hj
      rw [List.getElem_drop, hne _ (by omega) (by omega)]; rfl)
    have f3 : plG id b x' (rest s id)[t] = [(rest s id)[t], x'] := by
      unfold plG
      rw [iqf (rest_mem.1 (List.getElem_mem ht)).2, hte, hzb, iqt, iqf hb0]; rfl
    have f4 : ((rest s id).take t ++ (rest s id)[t] :: (rest s id).drop (t + 1)).flatMap (plG id b x') = (rest s id).take t ++ ([(rest s id)[t], x'] ++ (rest s id).drop (t + 1)) := by
      rw [List.flatMap_append, List.flatMap_cons, f1, f2, f3]
    rw [← e] at f4
    have f5 : (rest s id).flatMap (plG id b x') = (rest s id).take t ++ ([(rest s id)[t], x'] ++ (rest s id).drop (t + 1)) := f4
    have f6 : (rest s id).take (t + 1) = (rest s id).take t ++ [(rest s id)[t]] := by rw [List.take_add_one, List.getElem?_eq_getElem ht]; rfl
    rw [f6]
    unfold rest at f5 ⊢
    rw [f5]; simp
theorem placed_mem {x' : TNode} {z : TNode} : z ∈ placed s b x' ↔ z = x' ∨ z ∈ rest s x'.id := by
  unfold placed
  rw [List.mem_append, List.mem_append, List.mem_singleton]
  constructor
  · rintro ((h | h) | h)
    · exact .inr (List.mem_of_mem_take h)
    · exact .inl h
    · exact .inr (List.mem_of_mem_drop h)
  · rintro (h | h)
    · exact .inl (.inr h)
    · rw [← List.take_append_drop (nodeAt ⟨rest s x'.id⟩ b + 1).toNat (rest s x'.id), List.mem_append] at h
      rcases h with h | h
      · exact .inl (.inl h)
      · exact .inr h
theorem placed_perm {x' : TNode} : List.Perm (placed s b x') (x' :: rest s x'.id) := by
  unfold placed
  have := List.take_append_drop (nodeAt ⟨rest s x'.id⟩ b + 1).toNat (rest s x'.id)
  conv => rhs; rw [← this]
  rw [List.append_assoc]
  exact List.perm_middle
theorem placed_nodup (hn : (s.nodes.map (·.id)).Nodup) {x' : TNode} : ((placed s b x').map (·.id)).Nodup := by
  have hp := placed_perm (s := s) (b := b) (x' := x')
  rw [(hp.map (fun z : TNode => z.id)).nodup_iff, List.map_cons, List.nodup_cons]
  refine ⟨fun hm => ?_, rest_nodup hn _⟩
  obtain ⟨y, hy, he⟩ := List.mem_map.1 hm
  exact (rest_mem.1 hy).2 he
theorem placed_len (h : Pl s id p b k) {x' : TNode} (hx : x'.id = id) : (placed s b x').length = s.nodes.length := by
  have hp := placed_perm (s := s) (b := b) (x' := x')
  rw [hp.length_eq, List.length_cons, hx, rest_len h]
theorem placed_up (h : Pl s id p b k) (q : Int) {x : TNode} (hx : x.id = id) (z : Int) : upOf ⟨placed s b (withPar x q)⟩ z = if z = id then some q else upOf s z := by
  have hn := h.facts.2.1
  have hpn := placed_nodup (s := s) (b := b) hn (x' := withPar x q)
  have hxi : (withPar x q).id = id := hx
  by_cases hz : z = id
  · rw [if_pos hz]
    have := at_mem (s := ⟨placed s b (withPar x q)⟩) hpn (x := withPar x q) (placed_mem.2 (.inl rfl))
    rw [hxi, ← hz] at this
    unfold upOf; rw [this]; rfl
  · rw [if_neg hz]
    rcases idx_at (s := s) (id := z) with ⟨_, w, _, w2, w3, w4⟩ | ⟨_, w2, w3⟩
    · have hw : w ∈ placed s b (withPar x q) := placed_mem.2 (.inr (by rw [hxi]; exact rest_mem.2 ⟨w4, by rw [w3]; exact hz⟩))
      have := at_mem (s := ⟨placed s b (withPar x q)⟩) hpn hw
      rw [w3] at this
      rw [w2]; unfold upOf; rw [this]; rfl
    · rw [w2]
      rcases idx_at (s := ⟨placed s b (withPar x q)⟩) (id := z) with ⟨_, w, _, _, v3, v4⟩ | ⟨_, v2, _⟩
      · rcases placed_mem.1 v4 with rfl | hw
        · exact absurd (v3.symm.trans hxi) hz
        · rw [hxi] at hw
          exact absurd v3 (w3 w (rest_mem.1 hw).1)
      · exact v2
theorem placed_sb (h : Pl s id p b k) (q : Int) : SB ⟨placed s b (withPar (s.nodes[k]'h.hk) q)⟩ := by
  have hx := h.hi h.hk
  refine ⟨by have := placed_len (b := b) h (x' := withPar (s.nodes[k]'h.hk) q) hx; have := h.facts.1; (try dsimp only) <;> omega, fun z hz => ?_⟩
  rcases placed_mem.1 hz with rfl | hz
  · have := h.sb.x _ (List.getElem_mem h.hk)
    exact ⟨this.v, this.p, this.d, this.cv, this.cp⟩
  · exact h.sb.x z (rest_mem.1 hz).1
theorem placed_ok (h : Pl s id p b k) : impl_SceneOk ⟨placed s b (withPar (s.nodes[k]'h.hk) p)⟩ = some true ↔ ∀ z ∈ placed s b (withPar (s.nodes[k]'h.hk) p), ct (upOf ⟨placed s b (withPar (s.nodes[k]'h.hk) p)⟩) 8 z.id id = true → tin (dpt (upOf ⟨placed s b (withPar (s.nodes[k]'h.hk) p)⟩) z.id) 1 4 = true := by
  have hx := h.hi h.hk
  have hf := h.facts
  have hid := h.id1
  have hxi : (withPar (s.nodes[k]'h.hk) p).id = id := hx
  rw [sceneOk_par (placed_sb h p).rows]
  constructor
  · rintro ⟨_, _, h3⟩ z hz _
    exact (h3 z hz).2.2
  · intro hc
    have hpar : ∀ q : Int, (q = 0 ∨ ∃ z ∈ s.nodes, z.id = q ∧ z.group = true) → (q = 0 ∨ ∃ z ∈ placed s b (withPar (s.nodes[k]'h.hk) p), z.id = q ∧ z.group = true) := by
      rintro q (h0 | ⟨z, hz, z1, z2⟩)
      · exact .inl h0
      · right
        by_cases hzi : z.id = id
        · have hzk : z = s.nodes[k]'h.hk := by
            have a1 := at_mem hf.2.1 hz
            have a2 := at_mem hf.2.1 (List.getElem_mem h.hk)
            rw [hzi] at a1; rw [hx] at a2
            rw [a1] at a2; exact Option.some.inj a2
          exact ⟨withPar (s.nodes[k]'h.hk) p, placed_mem.2 (.inl rfl), by rw [hxi, ← hzi]; exact z1, by rw [← z2, hzk]; rfl⟩
        · exact ⟨z, placed_mem.2 (.inr (by rw [hxi]; exact rest_mem.2 ⟨hz, hzi⟩)), z1, z2⟩
    refine ⟨by (try dsimp only); rw [placed_len h hxi]; exact hf.1, placed_nodup hf.2.1, fun z hz => ?_⟩
    have hdep : tin (dpt (upOf ⟨placed s b (withPar (s.nodes[k]'h.hk) p)⟩) z.id) 1 4 = true := by
      cases hct : ct (upOf ⟨placed s b (withPar (s.nodes[k]'h.hk) p)⟩) 8 z.id id with
      | true => exact hc z hz hct
      | false =>
        rcases placed_mem.1 hz with rfl | hzr
        · rw [hxi, ct, iqt] at hct; simp at hct
        · rw [hxi] at hzr
          rw [dpt_same (p' := upOf s) (fun y hy => by rw [placed_up h p hx, if_neg hy]) hct]
          exact (hf.2.2 z (rest_mem.1 hzr).1).2.2
    rcases placed_mem.1 hz with rfl | hzr
    · refine ⟨?_, hpar p h.hp, hdep⟩
      have hpp : tin p 0 99 = true := by
        rcases h.hp with h0 | ⟨z, hz, z1, _⟩
        · rw [h0]; decide
        · have := (nodeOk_par (hf.2.2 z hz).1).2.2
          rw [z1, tin_t] at this
          rw [tin_t]; omega
      have hne : (s.nodes[k]'h.hk).id ≠ p := by
        rw [hx]
        intro e
        rcases h.hr with h0 | h1
        · omega
        · rw [← e, ct, iqt] at h1; simp at h1
      exact nodeOk_parent ((h.sb.x _ (List.getElem_mem h.hk)).d) (hf.2.2 _ (List.getElem_mem h.hk)).1 hpp hne
    · rw [hxi] at hzr
      have := hf.2.2 z (rest_mem.1 hzr).1
      exact ⟨this.1, hpar _ this.2.1, hdep⟩
end

/-! ## A node placed: the program and the reference -/
section
variable {s : TScene} {id p b : Int} {k : Nat}
theorem rest_at (h : Pl s id p b k) : (b = 0 ∧ nodeAt ⟨rest s id⟩ b = -1) ∨ (b ≠ 0 ∧ b ≠ id ∧ ∃ (t : Nat) (ht : t < (rest s id).length), nodeAt ⟨rest s id⟩ b = (t : Int) ∧ (rest s id)[t].id = b) := by
  rcases h.hb with rfl | ⟨hbi, z, hz, hzb⟩
  · left
    refine ⟨rfl, ?_⟩
    rcases idx_at (s := ⟨rest s id⟩) (id := 0) with ⟨_, x, _, _, x1, x2⟩ | ⟨ha, _, _⟩
    · have := (h.facts.2.2 x (rest_mem.1 x2).1).1
      have := (nodeOk_par this).2.2
      rw [x1, tin_t] at this; omega
    · rcases fst_cases (fun k : TNode => ieq k.id 0) (rest s id) with ⟨q, _⟩ | ⟨i, hi, q, _⟩
      · exact q
      · have q' : nodeAt ⟨rest s id⟩ 0 = (i : Int) := q
        omega
  · right
    have hb0 : b ≠ 0 := fun e => by
      have := (nodeOk_par (h.facts.2.2 z hz).1).2.2
      rw [hzb, e, tin_t] at this; omega
    have hzr : z ∈ rest s id := rest_mem.2 ⟨hz, by rw [hzb]; exact hbi⟩
    obtain ⟨t, ht, hte⟩ := List.getElem_of_mem hzr
    have hat : nodeAt ⟨rest s id⟩ b = (t : Int) := by
      have := nodup_at (s := ⟨rest s id⟩) (rest_nodup h.facts.2.1 id) (i := t) ht
      rw [← hzb, ← hte]; exact this
    exact ⟨hb0, hbi, t, ht, hat, by rw [hte, hzb]⟩
theorem Pl.at (h : Pl s id p b k) : nodeAt s id = (k : Int) := by
  have := nodup_at h.facts.2.1 h.hk
  rwa [h.hi h.hk] at this
theorem Pl.up (h : Pl s id p b k) : Pl s id p b k := h
theorem under_all (h : Pl s id p b k) : ((underOf ⟨placed s b (withPar (s.nodes[k]'h.hk) p)⟩ id).all fun u => tin (dpt (upOf ⟨placed s b (withPar (s.nodes[k]'h.hk) p)⟩) u) 1 4) = true ↔ impl_SceneOk ⟨placed s b (withPar (s.nodes[k]'h.hk) p)⟩ = some true := by
  rw [placed_ok h, List.all_eq_true]
  have hx := h.hi h.hk
  have hxi : (withPar (s.nodes[k]'h.hk) p).id = id := hx
  have hat : 0 ≤ nodeAt ⟨placed s b (withPar (s.nodes[k]'h.hk) p)⟩ id := by
    have := at_mem (s := ⟨placed s b (withPar (s.nodes[k]'h.hk) p)⟩) (placed_nodup h.facts.2.1) (x := withPar (s.nodes[k]'h.hk) p) (placed_mem.2 (.inl rfl))
    rw [hxi] at this
    exact (idx_toNat this).1
  unfold underOf
  rw [if_pos hat]
  constructor
  · intro hc z hz hct
    exact hc z.id (List.mem_map.2 ⟨z, List.mem_filter.2 ⟨hz, hct⟩, rfl⟩)
  · intro hc u hu
    obtain ⟨z, hz, rfl⟩ := List.mem_map.1 hu
    exact hc z (List.mem_filter.1 hz).1 (List.mem_filter.1 hz).2
theorem implGo (h : Pl s id p b k) :
    (bnd (impl_NodeAt (TScene.mk s.nodes) id) fun v6 =>
     bnd (idx s.nodes v6) fun v7 =>
     bnd (slices_Delete_Node (List.length s.nodes) v6 (IntKind.i64.wrap (v6 + 1)) s.nodes) fun (w9, w10) =>
     bnd (slc w10 0 (List.length w9 : Int)) fun v11 =>
     bnd (impl_NodeAt (TScene.mk v11) b) fun v12 =>
     bnd (slices_Insert_Node (List.length v11) (IntKind.i64.wrap (v12 + 1)) w10 [(TNode.mk v7.id p v7.group v7.mat v7.path v7.even v7.width v7.dashes v7.paint v7.mode v7.fade v7.clip)]) fun (w14, w15) =>
     bnd (slc w15 0 (List.length w14 : Int)) fun v16 =>
     bnd (impl_UnderOf (TScene.mk v16) id) fun v17 =>
     bnd (loopI (impl_PlaceNode_l0 s.nodes v16 v17 w15) 0) fun q => match q with
     | .inl () =>
      some ((TScene.mk v16), (0 : Int))
     | .inr () =>
      some ((TScene.mk s.nodes), 5)) = some (if impl_SceneOk ⟨placed s b (withPar (s.nodes[k]'h.hk) p)⟩ = some true then (⟨placed s b (withPar (s.nodes[k]'h.hk) p)⟩, 0) else (s, 5)) := by
  have hk := h.hk
  have hn := h.sb.n
  have h8 := h.facts.1
  have hnd := h.facts.2.1
  have hx := h.hi h.hk
  have hxi : (withPar (s.nodes[k]'h.hk) p).id = id := hx
  rw [m_impl_NodeAt (s := ⟨s.nodes⟩) hn, bnd_some]
  have hat : nodeAt ⟨s.nodes⟩ id = (k : Int) := h.at
  rw [hat, idx_nat h.hk, bnd_some, wr_in (by have := h.hk; omega)]
  obtain ⟨l1, d1, d2, d3⟩ := del_Node (k := s.nodes.length) (i := k) (j := k + 1) (l := s.nodes) (Nat.le_refl _) (by omega) h.hk (by omega)
  rw [List.take_length, rm_eq hnd h.hk, hx, Int.natCast_add] at d1
  rw [List.take_length, rm_eq hnd h.hk, hx] at d2
  have d1' : slices_Delete_Node s.nodes.length (k : Int) ((k : Int) + 1) s.nodes = some (rest s id, l1) := d1
  have d2' : l1.take (rest s id).length = rest s id := d2
  have hrl := rest_len h
  rw [d1', bnd_some]
  try dsimp only
  rw [slc_front d2', bnd_some, m_impl_NodeAt (s := ⟨rest s id⟩) (by (try dsimp only) <;> omega), bnd_some]
  obtain ⟨j, hj1, hj2, hj3⟩ : ∃ j : Nat, nodeAt ⟨rest s id⟩ b + 1 = (j : Int) ∧ j ≤ (rest s id).length ∧ (nodeAt ⟨rest s id⟩ b + 1).toNat = j := by
    rcases rest_at h with ⟨_, e⟩ | ⟨_, _, t, ht, e, _⟩
    · exact ⟨0, by omega, by omega, by omega⟩
    · exact ⟨t + 1, by omega, by omega, by omega⟩
  rw [hj1, wr_in (by omega)]
  obtain ⟨l2, i1, i2, i3⟩ := ins_Node (k := (rest s id).length) (i := j) (l := l1) (v := [withPar (s.nodes[k]'h.hk) p]) (by omega) hj2 (by simp) (by simp) (fun _ => .inl (by simp; omega)) (by omega)
  have ht : l1.take j = (rest s id).take j := by
    have := congrArg (List.take j) d2'
    rwa [List.take_take, Nat.min_eq_left hj2] at this
  rw [ht, d2'] at i1 i2
  have hpe : (rest s id).take j ++ [withPar (s.nodes[k]'h.hk) p] ++ (rest s id).drop j = placed s b (withPar (s.nodes[k]'h.hk) p) := by
    unfold placed; rw [hxi, hj3]
  rw [hpe] at i1 i2
  have i1' : slices_Insert_Node (rest s id).length (j : Int) l1 [(TNode.mk s.nodes[k].id p s.nodes[k].group s.nodes[k].mat s.nodes[k].path s.nodes[k].even s.nodes[k].width s.nodes[k].dashes s.nodes[k].paint s.nodes[k].mode s.nodes[k].fade s.nodes[k].clip)] = some (placed s b (withPar (s.nodes[k]'h.hk) p), l2) := i1
  rw [i1', bnd_some]
  try dsimp only
  have hpl := placed_len (b := b) h hxi
  rw [slc_front i2, bnd_some, m_impl_UnderOf (by (try dsimp only) <;> omega), bnd_some]
  have hul : (underOf ⟨placed s b (withPar (s.nodes[k]'h.hk) p)⟩ id).length ≤ 1000 := by
    unfold underOf
    split
    · rw [List.length_map]
      have := List.length_filter_le (fun x : TNode => ct (upOf ⟨placed s b (withPar (s.nodes[k]'h.hk) p)⟩) 8 x.id id) (placed s b (withPar (s.nodes[k]'h.hk) p))
      (try dsimp only) <;> omega
    · simp
  rw [loopI_row (l := underOf ⟨placed s b (withPar (s.nodes[k]'h.hk) p)⟩ id) (f := impl_PlaceNode_l0 s.nodes (placed s b (withPar (s.nodes[k]'h.hk) p)) (underOf ⟨placed s b (withPar (s.nodes[k]'h.hk) p)⟩ id) l2) (fun u => tin (dpt (upOf ⟨placed s b (withPar (s.nodes[k]'h.hk) p)⟩) u) 1 4) (by omega) (fun i hi => ?_) ?_]
  · by_cases hok : impl_SceneOk ⟨placed s b (withPar (s.nodes[k]'h.hk) p)⟩ = some true
    · rw [(under_all h).2 hok, if_pos hok]; rfl
    · have : ((underOf ⟨placed s b (withPar (s.nodes[k]'h.hk) p)⟩ id).all fun u => tin (dpt (upOf ⟨placed s b (withPar (s.nodes[k]'h.hk) p)⟩) u) 1 4) = false := by
        cases hc : ((underOf ⟨placed s b (withPar (s.nodes[k]'h.hk) p)⟩ id).all fun u => tin (dpt (upOf ⟨placed s b (withPar (s.nodes[k]'h.hk) p)⟩) u) 1 4) with
        | false => rfl
        | true => exact absurd ((under_all h).1 hc) hok
      rw [this, if_neg hok]; rfl
  · rw [impl_PlaceNode_l0, ilt (by omega), cnd_true]
  · rw [impl_PlaceNode_l0, ilf (by omega), cnd_false, idx_nat hi, bnd_some, slc_front i2, bnd_some, m_DepthOf (by (try dsimp only) <;> omega), bnd_some, m_impl_inRange, bnd_some]
theorem ring_iff (h8 : s.nodes.length ≤ 1048576) (hat : 0 ≤ nodeAt s id) (hp : p = 0 ∨ ∃ z ∈ s.nodes, z.id = p ∧ z.group = true) (h0 : ∀ z ∈ s.nodes, z.id ≠ 0) : isIn p (underOf s id) = (!ieq p 0 && ct (upOf s) 8 p id) := by
  unfold underOf
  rw [if_pos hat, Bool.eq_iff_iff]
  unfold isIn
  rw [List.any_eq_true]
  constructor
  · rintro ⟨u, hu, he⟩
    obtain ⟨z, hz, rfl⟩ := List.mem_map.1 hu
    have e : p = z.id := by simpa [ieq] using he
    have h1 := (List.mem_filter.1 hz)
    rw [e, iqf (h0 z h1.1), h1.2]; rfl
  · intro hc
    simp only [Bool.and_eq_true, Bool.not_eq_true'] at hc
    rcases hp with h0 | ⟨z, hz, z1, _⟩
    · rw [h0, iqt] at hc; cases hc.1
    · exact ⟨z.id, List.mem_map.2 ⟨z, List.mem_filter.2 ⟨hz, by rw [z1]; exact hc.2⟩, rfl⟩, by rw [z1, iqt]⟩
theorem iP_no (hs : SB s) (hok : impl_SceneOk s = some true) (h : impl_Scene_isPlace s id p b = some false) : impl_PlaceNode s id p b = some (⟨s.nodes⟩, 2) := by
  unfold impl_PlaceNode
  rw [m_impl_copyScene hs, bnd_some, hok, bnd_some, cnd_true, h, bnd_some, cnd_false]
theorem under_len (hn : s.nodes.length ≤ 1048576) : (underOf s id).length ≤ 1048576 := by
  unfold underOf; split
  · rw [List.length_map]; have := List.length_filter_le (fun x : TNode => ct (upOf s) 8 x.id id) s.nodes; omega
  · simp
theorem iP_ring (hs : SB s) (hok : impl_SceneOk s = some true) (h : impl_Scene_isPlace s id p b = some true) (hr : isIn p (underOf s id) = true) : impl_PlaceNode s id p b = some (⟨s.nodes⟩, 6) := by
  unfold impl_PlaceNode
  rw [m_impl_copyScene hs, bnd_some, hok, bnd_some, cnd_true, h, bnd_some, cnd_true, m_impl_UnderOf hs.n, bnd_some, m_Contains (under_len hs.n), bnd_some, hr, cnd_true]
theorem iP_go (hs : SB s) (hok : impl_SceneOk s = some true) (h : impl_Scene_isPlace s id p b = some true) (hr : isIn p (underOf s id) = false) (hP : Pl s id p b k) :
    impl_PlaceNode s id p b = some (if impl_SceneOk ⟨placed s b (withPar (s.nodes[k]'hP.hk) p)⟩ = some true then (⟨placed s b (withPar (s.nodes[k]'hP.hk) p)⟩, 0) else (s, 5)) := by
  unfold impl_PlaceNode
  rw [m_impl_copyScene hs, bnd_some, hok, bnd_some, cnd_true, h, bnd_some, cnd_true, m_impl_UnderOf hs.n, bnd_some, m_Contains (under_len hs.n), bnd_some, hr, cnd_false]
  exact implGo hP
theorem s_PlaceNode (hs : SB s) (id p b : Int) : ∃ r : TScene × Int, impl_PlaceNode s id p b = some r ∧ spec_PlaceNode s id p b = some r ∧
    ((r.2 ≠ 0 ∧ r.1 = s) ∨ ∃ (k : Nat) (h : Pl s id p b k), r = (⟨placed s b (withPar (s.nodes[k]'h.hk) p)⟩, 0) ∧ impl_SceneOk ⟨placed s b (withPar (s.nodes[k]'h.hk) p)⟩ = some true) := by
  have hn := hs.n
  obtain ⟨s1, sb, s2⟩ := s_SceneOk hs.rows
  have bad : ∀ (e : Int), e ≠ 0 → impl_PlaceNode s id p b = some (⟨s.nodes⟩, e) → spec_PlaceNode s id p b = some (⟨s.nodes⟩, e) → ∃ r : TScene × Int, impl_PlaceNode s id p b = some r ∧ spec_PlaceNode s id p b = some r ∧
    ((r.2 ≠ 0 ∧ r.1 = s) ∨ ∃ (k : Nat) (h : Pl s id p b k), r = (⟨placed s b (withPar (s.nodes[k]'h.hk) p)⟩, 0) ∧ impl_SceneOk ⟨placed s b (withPar (s.nodes[k]'h.hk) p)⟩ = some true) := fun e he h1 h2 => ⟨_, h1, h2, .inl ⟨he, rfl⟩⟩
  cases sb with
  | false =>
    refine bad 1 (by decide) ?_ ?_
    · unfold impl_PlaceNode; rw [m_impl_copyScene hs, bnd_some, s1, s2, bnd_some, cnd_false]
    · unfold spec_PlaceNode; rw [m_spec_Copy hs, bnd_some, s2, bnd_some, cnd_false]
  | true =>
  have hok : impl_SceneOk s = some true := by rw [s1, s2]
  obtain ⟨f1, f2, f3⟩ := (sceneOk_par hs.rows).1 hok
  have hz0 : ∀ z ∈ s.nodes, z.id ≠ 0 := fun z hz e => by
    have := (nodeOk_par (f3 z hz).1).2.2
    rw [e, tin_t] at this; omega
  rcases idx_at (s := s) (id := id) with ⟨ha, y, hy, _, hyi, hym⟩ | ⟨ha, _, _⟩
  case inr =>
    refine bad 2 (by decide) (iP_no hs hok ?_) ?_
    · unfold impl_Scene_isPlace; rw [m_impl_NodeAt hn, bnd_some, ilf ha, cnd_false]
    · unfold spec_PlaceNode; simp only [m_spec_Copy hs, s2, bnd_some, cnd_true, m_spec_NodeAt hn, ilf ha, cnd_false]
  obtain ⟨pb, p1, p2⟩ := isParent_t hn p
  have hp_iff : pb = true ↔ p = 0 ∨ ∃ z ∈ s.nodes, z.id = p ∧ z.group = true := by
    rw [p2]
    refine or_congr Iff.rfl ⟨fun ⟨z, z1, z2⟩ => ?_, fun ⟨z, z1, z2, z3⟩ => ⟨z, by rw [← z2]; exact at_mem f2 z1, z3⟩⟩
    rcases idx_at (s := s) (id := p) with ⟨_, w, w1, _, w3, w4⟩ | ⟨hb, _, _⟩
    · have := Option.some.inj (w1.symm.trans z1)
      subst this
      exact ⟨_, w4, w3, z2⟩
    · unfold idx at z1; rw [if_neg (by omega)] at z1; cases z1
  -- the place of the node
  obtain ⟨k, hk, hke⟩ := List.getElem_of_mem hym
  have hatk : nodeAt s id = (k : Int) := by
    have := nodup_at f2 hk
    rwa [hke, hyi] at this
  have hyb : NB y := hs.x y hym
  have hid0 : id ≠ 0 := by rw [← hyi]; exact hz0 y hym
  have hxe : ∀ x : TNode, (TNode.mk x.id p x.group x.mat x.path x.even x.width x.dashes x.paint x.mode x.fade x.clip) = withPar x p := fun _ => rfl
  cases pb with
  | false =>
    have hp' : ¬ (p = 0 ∨ ∃ z ∈ s.nodes, z.id = p ∧ z.group = true) := fun h => by have := hp_iff.2 h; cases this
    have hp0 : p ≠ 0 := fun e => hp' (.inl e)
    refine bad 2 (by decide) (iP_no hs hok ?_) ?_
    · unfold impl_Scene_isPlace; rw [m_impl_NodeAt hn, bnd_some, ilt ha, cnd_true, p1, bnd_some, cnd_false]
    · unfold spec_PlaceNode
      rcases idx_at (s := s) (id := p) with ⟨hb, z, hz, _, z1, z2⟩ | ⟨hb, _, _⟩
      · have hg : z.group = false := by
          cases hg : z.group with
          | false => rfl
          | true => exact absurd (.inr ⟨z, z2, z1, hg⟩) hp'
        simp only [m_spec_Copy hs, s2, bnd_some, cnd_true, m_spec_NodeAt hn, ilt ha, iqf hp0, cnd_false, ilt hb, hz, hg]
      · simp only [m_spec_Copy hs, s2, bnd_some, cnd_true, m_spec_NodeAt hn, ilt ha, iqf hp0, cnd_false, ilf hb]
  | true =>
  have hp := hp_iff.1 rfl
  have hpz : p ≠ 0 → ∃ z, idx s.nodes (nodeAt s p) = some z ∧ z.group = true ∧ 0 ≤ nodeAt s p := fun hp0 => by
    obtain ⟨z, hz, z1, z2⟩ := hp.resolve_left hp0
    have := at_mem f2 hz
    rw [z1] at this
    exact ⟨z, this, z2, (idx_toNat this).1⟩
  have hring := ring_iff (s := s) (id := id) (p := p) hn ha hp hz0
  -- both, where a node may be placed
  have go : ∀ (hP : Pl s id p b k) (hI : impl_Scene_isPlace s id p b = some true) (hr : isIn p (underOf s id) = false), (∀ O : List TNode, O = placed s b (withPar (s.nodes[k]'hP.hk) p) → spec_PlaceNode s id p b = bnd (spec_SceneOk (TScene.mk O)) fun v => cnd v (some ((TScene.mk O), 0)) (some ((TScene.mk s.nodes), 5))) →
      ∃ r : TScene × Int, impl_PlaceNode s id p b = some r ∧ spec_PlaceNode s id p b = some r ∧
    ((r.2 ≠ 0 ∧ r.1 = s) ∨ ∃ (k : Nat) (h : Pl s id p b k), r = (⟨placed s b (withPar (s.nodes[k]'h.hk) p)⟩, 0) ∧ impl_SceneOk ⟨placed s b (withPar (s.nodes[k]'h.hk) p)⟩ = some true) := by
    intro hP hI hr hS
    rw [hS _ rfl, iP_go hs hok hI hr hP]
    obtain ⟨t1, tb, t2⟩ := s_SceneOk (placed_sb hP p).rows
    by_cases ho : impl_SceneOk ⟨placed s b (withPar (s.nodes[k]'hP.hk) p)⟩ = some true
    · rw [if_pos ho]
      have ho2 := ho
      rw [t1] at ho2
      rw [ho2, bnd_some, cnd_true]
      exact ⟨_, rfl, rfl, .inr ⟨k, hP, rfl, ho⟩⟩
    · rw [if_neg ho]
      rw [t1, t2] at ho
      have : tb = false := by cases tb <;> simp_all
      rw [t2, this, bnd_some, cnd_false]
      exact ⟨_, rfl, rfl, .inl ⟨by simp, rfl⟩⟩
  have hki : ∀ h : k < s.nodes.length, s.nodes[k].id = id := fun _ => by rw [hke, hyi]
  have hIy : ∀ {v : Bool}, (cnd (ieq b 0) (some true) (cnd (ieq b id) (some false) (some (ile 0 (nodeAt s b))))) = some v → impl_Scene_isPlace s id p b = some v := fun {v} h => by
    unfold impl_Scene_isPlace
    rw [m_impl_NodeAt hn, bnd_some, ilt ha, cnd_true, p1, bnd_some, cnd_true, m_impl_NodeAt hn, bnd_some]; exact h
  by_cases b0 : b = 0
  · -- ahead of all
    have hI : impl_Scene_isPlace s id p b = some true := hIy (by rw [b0, iqt, cnd_true])
    have hbi : ieq b id = false := iqf (by rw [b0]; exact Ne.symm hid0)
    have hb0 : ieq b 0 = true := by rw [b0, iqt]
    by_cases hp0 : p = 0
    · have hP : Pl s id p b k := ⟨hs, hok, hk, hki, hp, .inl b0, .inl hp0⟩
      have hp00 : ieq p 0 = true := by rw [hp0, iqt]
      refine go hP hI (by rw [hring, hp00]; rfl) fun O hO => ?_
      have := placeL_0 (p := p) (b := b) (id := id) (v1 := s.nodes) (x := y) (init := [withPar y p]) hs f2 hk (hki hk) (by simp)
      have hfe := flat_eq hP (x' := withPar y p) hyi
      rw [if_pos b0] at hfe
      rw [hfe] at this
      unfold spec_PlaceNode
      simp only [m_spec_Copy hs, s2, bnd_some, cnd_true, m_spec_NodeAt hn, ilt ha, hp00, hb0, hbi, cnd_false]
      rw [hy, bnd_some, m_spec_copyNode hyb, bnd_some, hatk, hxe, this, bnd_some, hO, hke]
    · obtain ⟨z, hz, hg, hza⟩ := hpz hp0
      cases hct : ct (upOf s) 8 p id with
      | true =>
        refine bad 6 (by decide) (iP_ring hs hok hI (by rw [hring, iqf hp0, hct]; rfl)) ?_
        unfold spec_PlaceNode
        simp only [m_spec_Copy hs, s2, bnd_some, cnd_true, m_spec_NodeAt hn, ilt ha, iqf hp0, ilt hza, hz, hg, hb0, hbi, cnd_false, m_Under hn, hct]
      | false =>
        have hP : Pl s id p b k := ⟨hs, hok, hk, hki, hp, .inl b0, .inr hct⟩
        refine go hP hI (by rw [hring, hct]; simp) fun O hO => ?_
        have := placeL_2 (p := p) (b := b) (id := id) (v1 := s.nodes) (x := y) (init := [withPar y p]) hs f2 hk (hki hk) (by simp)
        have hfe := flat_eq hP (x' := withPar y p) hyi
        rw [if_pos b0] at hfe
        rw [hfe] at this
        unfold spec_PlaceNode
        simp only [m_spec_Copy hs, s2, bnd_some, cnd_true, m_spec_NodeAt hn, ilt ha, iqf hp0, ilt hza, hz, hg, hb0, hbi, cnd_false, m_Under hn, hct]
        rw [hy, bnd_some, m_spec_copyNode hyb, bnd_some, hatk, hxe, this, bnd_some, hO, hke]
  · have hb0 : ieq b 0 = false := iqf b0
    by_cases bi : b = id
    · -- behind itself
      have hbi : ieq b id = true := by rw [bi, iqt]
      have hbn : 0 ≤ nodeAt s b := by rw [bi]; exact ha
      refine bad 2 (by decide) (iP_no hs hok (hIy (by rw [hb0, hbi, cnd_false, cnd_true]))) ?_
      unfold spec_PlaceNode
      by_cases hp0 : p = 0
      · have hp00 : ieq p 0 = true := by rw [hp0, iqt]
        simp only [m_spec_Copy hs, s2, bnd_some, cnd_true, m_spec_NodeAt hn, ilt ha, hp00, hb0, hbi, cnd_false, ilt hbn]
      · obtain ⟨z, hz, hg, hza⟩ := hpz hp0
        simp only [m_spec_Copy hs, s2, bnd_some, cnd_true, m_spec_NodeAt hn, ilt ha, iqf hp0, ilt hza, hz, hg, hb0, hbi, cnd_false, ilt hbn]
    · have hbi : ieq b id = false := iqf bi
      rcases idx_at (s := s) (id := b) with ⟨hbn, z0, _, _, z01, z02⟩ | ⟨hbn, _, _⟩
      case inr =>
        -- behind nothing
        refine bad 2 (by decide) (iP_no hs hok (hIy (by rw [hb0, hbi, cnd_false, cnd_false, ilf hbn]))) ?_
        unfold spec_PlaceNode
        by_cases hp0 : p = 0
        · have hp00 : ieq p 0 = true := by rw [hp0, iqt]
          simp only [m_spec_Copy hs, s2, bnd_some, cnd_true, m_spec_NodeAt hn, ilt ha, hp00, hb0, cnd_false, ilf hbn]
        · obtain ⟨z, hz, hg, hza⟩ := hpz hp0
          simp only [m_spec_Copy hs, s2, bnd_some, cnd_true, m_spec_NodeAt hn, ilt ha, iqf hp0, ilt hza, hz, hg, hb0, cnd_false, ilf hbn]
      -- behind another one
      have hI : impl_Scene_isPlace s id p b = some true := hIy (by rw [hb0, hbi, cnd_false, cnd_false, ilt hbn])
      by_cases hp0 : p = 0
      · have hP : Pl s id p b k := ⟨hs, hok, hk, hki, hp, .inr ⟨bi, z0, z02, z01⟩, .inl hp0⟩
        have hp00 : ieq p 0 = true := by rw [hp0, iqt]
        refine go hP hI (by rw [hring, hp00]; rfl) fun O hO => ?_
        have := placeL_1 (p := p) (b := b) (id := id) (v1 := s.nodes) (x := y) (init := []) hs f2 hk (hki hk) (by simp)
        have hfe := flat_eq hP (x' := withPar y p) hyi
        rw [if_neg b0] at hfe
        rw [hfe] at this
        unfold spec_PlaceNode
        simp only [m_spec_Copy hs, s2, bnd_some, cnd_true, m_spec_NodeAt hn, ilt ha, hp00, hb0, hbi, cnd_false, ilt hbn]
        rw [hy, bnd_some, m_spec_copyNode hyb, bnd_some, hatk, this, bnd_some, hO, hke]
      · obtain ⟨z, hz, hg, hza⟩ := hpz hp0
        cases hct : ct (upOf s) 8 p id with
        | true =>
          refine bad 6 (by decide) (iP_ring hs hok hI (by rw [hring, iqf hp0, hct]; rfl)) ?_
          unfold spec_PlaceNode
          simp only [m_spec_Copy hs, s2, bnd_some, cnd_true, m_spec_NodeAt hn, ilt ha, iqf hp0, ilt hza, hz, hg, hb0, hbi, cnd_false, m_Under hn, hct, ilt hbn]
        | false =>
          have hP : Pl s id p b k := ⟨hs, hok, hk, hki, hp, .inr ⟨bi, z0, z02, z01⟩, .inr hct⟩
          refine go hP hI (by rw [hring, hct]; simp) fun O hO => ?_
          have := placeL_3 (p := p) (b := b) (id := id) (v1 := s.nodes) (x := y) (init := []) hs f2 hk (hki hk) (by simp)
          have hfe := flat_eq hP (x' := withPar y p) hyi
          rw [if_neg b0] at hfe
          rw [hfe] at this
          unfold spec_PlaceNode
          simp only [m_spec_Copy hs, s2, bnd_some, cnd_true, m_spec_NodeAt hn, ilt ha, iqf hp0, ilt hza, hz, hg, hb0, hbi, cnd_false, m_Under hn, hct, ilt hbn]
          rw [hy, bnd_some, m_spec_copyNode hyb, bnd_some, hatk, this, bnd_some, hO, hke]
end

/-! ## FnPlaces: the law -/
def seenN (j i : Nat) : Nat := if i ≤ j then i else i - 1
def atN (k c : Nat) : Nat := if c ≤ k then c else c + 1
section
variable {s : TScene} {id p b : Int} {k : Nat}
theorem rest_get (h : Pl s id p b k) (c : Nat) (hc : c < (rest s id).length) : (∀ (_ : c < k), (rest s id)[c] = s.nodes[c]'(by have := rest_len h; omega)) ∧ (∀ (_ : k ≤ c) (h2 : c + 1 < s.nodes.length), (rest s id)[c] = s.nodes[c + 1]) := by
  have hk := h.hk
  have e := rm_eq h.facts.2.1 h.hk
  rw [h.hi h.hk] at e
  have e' : rest s id = s.nodes.take k ++ s.nodes.drop (k + 1) := e.symm
  have hrl := rest_len h
  constructor
  · intro hck
    have h1 : (rest s id)[c]? = s.nodes[c]? := by
      rw [e', List.getElem?_append_left (by rw [List.length_take]; omega), List.getElem?_take, if_pos hck]
    rw [List.getElem?_eq_getElem hc, List.getElem?_eq_getElem (by omega)] at h1
    exact Option.some.inj h1
  · intro hck h2
    have h1 : (rest s id)[c]? = s.nodes[c + 1]? := by
      rw [e', List.getElem?_append_right (by rw [List.length_take]; omega), List.getElem?_drop, List.length_take]
      congr 1; omega
    rw [List.getElem?_eq_getElem hc, List.getElem?_eq_getElem h2] at h1
    exact Option.some.inj h1
theorem placed_get (h : Pl s id p b k) : ∃ j : Nat, nodeAt ⟨rest s id⟩ b + 1 = (j : Int) ∧ j ≤ (rest s id).length ∧ (∀ (hi : j < (placed s b (withPar (s.nodes[k]'h.hk) p)).length), (placed s b (withPar (s.nodes[k]'h.hk) p))[j] = withPar (s.nodes[k]'h.hk) p) ∧
    (∀ i, i < j → ∀ (hi : i < (placed s b (withPar (s.nodes[k]'h.hk) p)).length) (hr : i < (rest s id).length), (placed s b (withPar (s.nodes[k]'h.hk) p))[i] = (rest s id)[i]) ∧
    (∀ i, j < i → ∀ (hi : i < (placed s b (withPar (s.nodes[k]'h.hk) p)).length) (hr : i - 1 < (rest s id).length), (placed s b (withPar (s.nodes[k]'h.hk) p))[i] = (rest s id)[i - 1]) := by
  have hk := h.hk
  have hx := h.hi h.hk
  have hxi : (withPar (s.nodes[k]'h.hk) p).id = id := hx
  obtain ⟨j, hj1, hj2, hj3⟩ : ∃ j : Nat, nodeAt ⟨rest s id⟩ b + 1 = (j : Int) ∧ j ≤ (rest s id).length ∧ (nodeAt ⟨rest s id⟩ b + 1).toNat = j := by
    rcases rest_at h with ⟨_, e⟩ | ⟨_, _, t, ht, e, _⟩
    · exact ⟨0, by omega, by omega, by omega⟩
    · exact ⟨t + 1, by omega, by omega, by omega⟩
  have hpe : placed s b (withPar (s.nodes[k]'h.hk) p) = (rest s id).take j ++ [withPar (s.nodes[k]'h.hk) p] ++ (rest s id).drop j := by
    unfold placed; rw [hxi, hj3]
  have hg : ∀ i (hi : i < (placed s b (withPar (s.nodes[k]'h.hk) p)).length) (y : TNode), ((rest s id).take j ++ [withPar (s.nodes[k]'h.hk) p] ++ (rest s id).drop j)[i]? = some y → (placed s b (withPar (s.nodes[k]'h.hk) p))[i] = y := fun i hi y hy => by
    rw [← hpe, List.getElem?_eq_getElem hi] at hy
    exact Option.some.inj hy
  refine ⟨j, hj1, hj2, fun hi => hg j hi _ ?_, fun i hij hi hr => hg i hi _ ?_, fun i hij hi hr => hg i hi _ ?_⟩
  · rw [List.getElem?_append_left (by simp; omega), List.getElem?_append_right (by rw [List.length_take]; omega), List.length_take, Nat.min_eq_left hj2, Nat.sub_self]; rfl
  · rw [List.getElem?_append_left (by simp; omega), List.getElem?_append_left (by rw [List.length_take]; omega), List.getElem?_take, if_pos hij, List.getElem?_eq_getElem hr]
  · rw [List.getElem?_append_right (by simp; omega), List.getElem?_drop]
    have : j + (i - ((rest s id).take j ++ [withPar (s.nodes[k]'h.hk) p]).length) = i - 1 := by simp; omega
    rw [this, List.getElem?_eq_getElem hr]
theorem orderL_0 (h : Pl s id p b k) : loopI (laws_FnPlaces_l0 s id ⟨placed s b (withPar (s.nodes[k]'h.hk) p)⟩) (0, 0) = some (.inl ()) := by
  have hk := h.hk
  have hx := h.hi h.hk
  have hxi : (withPar (s.nodes[k]'h.hk) p).id = id := hx
  have hpl := placed_len (b := b) h hxi
  have h8 := h.facts.1
  obtain ⟨j, hj, hjr, hjj, hlt, hgt⟩ := placed_get h
  have hrl := rest_len h
  have hr := rest_get h
  have key := loopI_n (f := laws_FnPlaces_l0 s id ⟨placed s b (withPar (s.nodes[k]'h.hk) p)⟩) (fun i => ((i : Int), (atN k (seenN j i) : Int))) (placed s b (withPar (s.nodes[k]'h.hk) p)).length (r := .inl ()) (fun i hi => ?_) ?_
  · have e : atN k (seenN j 0) = 0 := by unfold atN seenN; simp
    have key' : loopI (laws_FnPlaces_l0 s id ⟨placed s b (withPar (s.nodes[k]'h.hk) p)⟩) (((0 : Nat) : Int), (atN k (seenN j 0) : Int)) = some (.inl ()) := key
    rw [e] at key'; exact key'
  · try dsimp only
    rw [laws_FnPlaces_l0]
    try dsimp only
    rw [ilf (by omega), cnd_false, idx_nat hi, bnd_some, wr_in (n := (i : Int) + 1) (by omega)]
    have hc1 : ((i : Int) + 1) = ((i + 1 : Nat) : Int) := by omega
    rw [hc1]
    -- what is not the node itself
    have other : ∀ (c : Nat) (hc : c < (rest s id).length), (placed s b (withPar (s.nodes[k]'h.hk) p))[i] = (rest s id)[c] → seenN j i = c → seenN j (i + 1) = c + 1 → (cnd (ieq (placed s b (withPar (s.nodes[k]'h.hk) p))[i].id id) (some (Sum.inl (((i + 1 : Nat) : Int), (atN k (seenN j i) : Int))))
        (bnd (idx s.nodes (atN k (seenN j i) : Int)) fun v25 => cnd (ieq v25.id id) (bnd (idx s.nodes (IntKind.i64.wrap ((atN k (seenN j i) : Int) + 1))) fun v26 => bnd (laws_sameNode (placed s b (withPar (s.nodes[k]'h.hk) p))[i] v26) fun v27 => cnd v27 (some (Sum.inl (((i + 1 : Nat) : Int), (IntKind.i64.wrap ((IntKind.i64.wrap ((atN k (seenN j i) : Int) + 1)) + 1))))) (some (Sum.inr (Sum.inr ()))))
          (bnd (laws_sameNode (placed s b (withPar (s.nodes[k]'h.hk) p))[i] v25) fun v28 => cnd v28 (some (Sum.inl (((i + 1 : Nat) : Int), (IntKind.i64.wrap ((atN k (seenN j i) : Int) + 1))))) (some (Sum.inr (Sum.inr ())))))) = (some (Sum.inl (((i + 1 : Nat) : Int), (atN k (seenN j (i + 1)) : Int))) : Option (((Int) × (Int)) ⊕ ((Unit) ⊕ (Unit)))) := by
      intro c hc hpi hs1 hs2
      have hm := rest_mem.1 (List.getElem_mem hc)
      have hb : NB (rest s id)[c] := h.sb.x _ hm.1
      rw [hpi, iqf hm.2, cnd_false, hs1, hs2]
      obtain ⟨g1, g2⟩ := hr c hc
      by_cases hck : c < k
      · have e1 : atN k c = c := by unfold atN; rw [if_pos (by omega)]
        have e2 : atN k (c + 1) = c + 1 := by unfold atN; rw [if_pos (by omega)]
        have hcl : c < s.nodes.length := by omega
        have hcv : s.nodes[c] = (rest s id)[c] := (g1 hck).symm
        rw [e1, e2, idx_nat hcl, bnd_some, hcv, iqf hm.2, cnd_false, m_sameNode hb, bnd_some, cnd_true, wr_in (by omega)]; simp
      · have hc2 : c + 1 < s.nodes.length := by omega
        have hcv : s.nodes[c + 1] = (rest s id)[c] := (g2 (by omega) hc2).symm
        by_cases hke : c = k
        · subst hke
          have e1 : atN c c = c := by unfold atN; rw [if_pos (by omega)]
          have e2 : atN c (c + 1) = c + 2 := by unfold atN; rw [if_neg (by omega)]
          rw [e1, e2, idx_nat hk, bnd_some, hx, iqt, cnd_true, wr_in (n := (c : Int) + 1) (by omega)]
          have e3 : ((c : Int) + 1) = ((c + 1 : Nat) : Int) := by omega
          rw [e3, idx_nat hc2, bnd_some, hcv, m_sameNode hb, bnd_some, cnd_true, wr_in (by omega)]; simp; omega
        · have e1 : atN k c = c + 1 := by unfold atN; rw [if_neg (by omega)]
          have e2 : atN k (c + 1) = c + 2 := by unfold atN; rw [if_neg (by omega)]
          rw [e1, e2, idx_nat hc2, bnd_some, hcv, iqf hm.2, cnd_false, m_sameNode hb, bnd_some, cnd_true, wr_in (by omega)]; simp; omega
    by_cases hij : i = j
    · subst hij
      rw [hjj hi, hxi, iqt, cnd_true]
      have : seenN i i = seenN i (i + 1) := by unfold seenN; rw [if_pos (by omega), if_neg (by omega)]; omega
      rw [this]
    · by_cases hl : i < j
      · exact other i (by omega) (hlt i hl hi (by omega)) (by unfold seenN; rw [if_pos (by omega)]) (by unfold seenN; rw [if_pos (by omega)])
      · exact other (i - 1) (by omega) (hgt i (by omega) hi (by omega)) (by unfold seenN; rw [if_neg (by omega)]) (by unfold seenN; rw [if_neg (by omega)]; omega)
  · try dsimp only
    rw [laws_FnPlaces_l0]
    try dsimp only
    rw [ilt (by omega), cnd_true]
theorem orderL_1 (h : Pl s id p b k) : loopI (laws_FnPlaces_l1 s id ⟨placed s b (withPar (s.nodes[k]'h.hk) p)⟩) (0, 0) = some (.inl ()) := by
  have hk := h.hk
  have hx := h.hi h.hk
  have hxi : (withPar (s.nodes[k]'h.hk) p).id = id := hx
  have hpl := placed_len (b := b) h hxi
  have h8 := h.facts.1
  obtain ⟨j, hj, hjr, hjj, hlt, hgt⟩ := placed_get h
  have hrl := rest_len h
  have hr := rest_get h
  have key := loopI_n (f := laws_FnPlaces_l1 s id ⟨placed s b (withPar (s.nodes[k]'h.hk) p)⟩) (fun i => ((i : Int), (atN k (seenN j i) : Int))) (placed s b (withPar (s.nodes[k]'h.hk) p)).length (r := .inl ()) (fun i hi => ?_) ?_
  · have e : atN k (seenN j 0) = 0 := by unfold atN seenN; simp
    have key' : loopI (laws_FnPlaces_l1 s id ⟨placed s b (withPar (s.nodes[k]'h.hk) p)⟩) (((0 : Nat) : Int), (atN k (seenN j 0) : Int)) = some (.inl ()) := key
    rw [e] at key'; exact key'
  · try dsimp only
    rw [laws_FnPlaces_l1]
    try dsimp only
    rw [ilf (by omega), cnd_false, idx_nat hi, bnd_some, wr_in (n := (i : Int) + 1) (by omega)]
    have hc1 : ((i : Int) + 1) = ((i + 1 : Nat) : Int) := by omega
    rw [hc1]
    -- what is not the node itself
    have other : ∀ (c : Nat) (hc : c < (rest s id).length), (placed s b (withPar (s.nodes[k]'h.hk) p))[i] = (rest s id)[c] → seenN j i = c → seenN j (i + 1) = c + 1 → (cnd (ieq (placed s b (withPar (s.nodes[k]'h.hk) p))[i].id id) (some (Sum.inl (((i + 1 : Nat) : Int), (atN k (seenN j i) : Int))))
        (bnd (idx s.nodes (atN k (seenN j i) : Int)) fun v25 => cnd (ieq v25.id id) (bnd (idx s.nodes (IntKind.i64.wrap ((atN k (seenN j i) : Int) + 1))) fun v26 => bnd (laws_sameNode (placed s b (withPar (s.nodes[k]'h.hk) p))[i] v26) fun v27 => cnd v27 (some (Sum.inl (((i + 1 : Nat) : Int), (IntKind.i64.wrap ((IntKind.i64.wrap ((atN k (seenN j i) : Int) + 1)) + 1))))) (some (Sum.inr (Sum.inr ()))))
          (bnd (laws_sameNode (placed s b (withPar (s.nodes[k]'h.hk) p))[i] v25) fun v28 => cnd v28 (some (Sum.inl (((i + 1 : Nat) : Int), (IntKind.i64.wrap ((atN k (seenN j i) : Int) + 1))))) (some (Sum.inr (Sum.inr ())))))) = (some (Sum.inl (((i + 1 : Nat) : Int), (atN k (seenN j (i + 1)) : Int))) : Option (((Int) × (Int)) ⊕ ((Unit) ⊕ (Unit)))) := by
      intro c hc hpi hs1 hs2
      have hm := rest_mem.1 (List.getElem_mem hc)
      have hb : NB (rest s id)[c] := h.sb.x _ hm.1
      rw [hpi, iqf hm.2, cnd_false, hs1, hs2]
      obtain ⟨g1, g2⟩ := hr c hc
      by_cases hck : c < k
      · have e1 : atN k c = c := by unfold atN; rw [if_pos (by omega)]
        have e2 : atN k (c + 1) = c + 1 := by unfold atN; rw [if_pos (by omega)]
        have hcl : c < s.nodes.length := by omega
        have hcv : s.nodes[c] = (rest s id)[c] := (g1 hck).symm
        rw [e1, e2, idx_nat hcl, bnd_some, hcv, iqf hm.2, cnd_false, m_sameNode hb, bnd_some, cnd_true, wr_in (by omega)]; simp
      · have hc2 : c + 1 < s.nodes.length := by omega
        have hcv : s.nodes[c + 1] = (rest s id)[c] := (g2 (by omega) hc2).symm
        by_cases hke : c = k
        · subst hke
          have e1 : atN c c = c := by unfold atN; rw [if_pos (by omega)]
          have e2 : atN c (c + 1) = c + 2 := by unfold atN; rw [if_neg (by omega)]
          rw [e1, e2, idx_nat hk, bnd_some, hx, iqt, cnd_true, wr_in (n := (c : Int) + 1) (by omega)]
          have e3 : ((c : Int) + 1) = ((c + 1 : Nat) : Int) := by omega
          rw [e3, idx_nat hc2, bnd_some, hcv, m_sameNode hb, bnd_some, cnd_true, wr_in (by omega)]; simp; omega
        · have e1 : atN k c = c + 1 := by unfold atN; rw [if_neg (by omega)]
          have e2 : atN k (c + 1) = c + 2 := by unfold atN; rw [if_neg (by omega)]
          rw [e1, e2, idx_nat hc2, bnd_some, hcv, iqf hm.2, cnd_false, m_sameNode hb, bnd_some, cnd_true, wr_in (by omega)]; simp; omega
    by_cases hij : i = j
    · subst hij
      rw [hjj hi, hxi, iqt, cnd_true]
      have : seenN i i = seenN i (i + 1) := by unfold seenN; rw [if_pos (by omega), if_neg (by omega)]; omega
      rw [this]
    · by_cases hl : i < j
      · exact other i (by omega) (hlt i hl hi (by omega)) (by unfold seenN; rw [if_pos (by omega)]) (by unfold seenN; rw [if_pos (by omega)])
      · exact other (i - 1) (by omega) (hgt i (by omega) hi (by omega)) (by unfold seenN; rw [if_neg (by omega)]) (by unfold seenN; rw [if_neg (by omega)]; omega)
  · try dsimp only
    rw [laws_FnPlaces_l1]
    try dsimp only
    rw [ilt (by omega), cnd_true]

end
theorem place_ok {c : TL01Cur} (h : CurOk c) {n : Int} (h0 : 0 < n) (h1 : n ≤ 1000000) : ∃ r c', spec_l01Place n c = some (r, c') ∧ CurOk c' := by
  unfold spec_l01Place
  obtain ⟨b, c1, e1, k1⟩ := once_ok h (n := 15) (by omega)
  rw [e1, bnd_some]
  try dsimp only
  cases b with
  | true =>
    rw [cnd_true]
    obtain ⟨x, c2, e2, _, k2⟩ := pick_ok k1 (l := [-1, n, IntKind.i64.wrap (n + 1), 9223372036854775807, -9223372036854775808]) (by simp)
    rw [e2, bnd_some]
    exact ⟨_, _, rfl, k2⟩
  | false =>
    rw [cnd_false]
    obtain ⟨x, c2, e2, _, _, k2⟩ := below_ok k1 (n := n) h0
    rw [e2, bnd_some]
    exact ⟨_, _, rfl, k2⟩
theorem drawPlace_ok {a : List Int} (h : a.length ≤ 1048576) : ∃ s x y z, spec_DrawPlaceNode a = some (s, x, y, z) ∧ s.nodes.length ≤ 20 ∧ (∀ y ∈ s.nodes, NS y) := by
  obtain ⟨c0, e0, k0⟩ := new_ok a h
  obtain ⟨s, c1, e1, k1, l1, n1⟩ := any_ok k0
  obtain ⟨x, c2, e2, k2⟩ := place_ok k1 (n := 6) (by omega) (by omega)
  obtain ⟨y, c3, e3, _, _, k3⟩ := below_ok k2 (n := 6) (by omega)
  obtain ⟨z, c4, e4, _, _, k4⟩ := below_ok k3 (n := 6) (by omega)
  unfold spec_DrawPlaceNode
  rw [e0, bnd_some, e1, bnd_some]
  try dsimp only
  rw [e2, bnd_some]
  try dsimp only
  rw [e3, bnd_some]
  try dsimp only
  rw [e4, bnd_some]
  exact ⟨_, _, _, _, rfl, l1, n1⟩
theorem m_FnPlaces {a : List Int} (_ : okL (okN .u8) a) : laws_FnPlaces a = some true := by
  unfold laws_FnPlaces laws_big
  rw [bnd_some]
  by_cases hbig : (a.length : Int) ≤ 1048576
  case neg => rw [ilf (by omega)]; rfl
  rw [ilt hbig]
  obtain ⟨s, id, p, b, e1, sl, sn⟩ := drawPlace_ok (a := a) (by omega)
  have hs : SB s := sb_of (l := s.nodes) sl sn
  have hn := hs.n
  simp only [Bool.not_true, cnd_false]
  rw [e1, bnd_some]
  try dsimp only
  obtain ⟨⟨t, no⟩, r1, r2, r3⟩ := s_PlaceNode hs id p b
  rw [r1, bnd_some]
  try dsimp only
  rw [r2, bnd_some]
  try dsimp only
  rw [iqt, cnd_true]
  rcases r3 with ⟨q1, q2⟩ | ⟨k, h, q1, q2⟩
  · try dsimp only at q1 q2
    subst q2
    rw [m_sameScene hs, bnd_some, cnd_true, iqf q1, cnd_false, bnd_some]
  · cases q1
    have hx := h.hi h.hk
    have hxi : (withPar (s.nodes[k]'h.hk) p).id = id := hx
    have ht := placed_sb h p
    have hpl := placed_len (b := b) h hxi
    have hnd := placed_nodup (s := s) (b := b) h.facts.2.1 (x' := withPar (s.nodes[k]'h.hk) p)
    obtain ⟨j, hj, hjr, hjj, hlt, hgt⟩ := placed_get h
    have hrl := rest_len h
    have hjl : j < (placed s b (withPar (s.nodes[k]'h.hk) p)).length := by
      rcases rest_at h with ⟨_, e⟩ | ⟨_, _, t, ht, e, _⟩ <;> omega
    have hat : nodeAt ⟨placed s b (withPar (s.nodes[k]'h.hk) p)⟩ id = (j : Int) := by
      have := nodup_at (s := ⟨placed s b (withPar (s.nodes[k]'h.hk) p)⟩) hnd (i := j) hjl
      have e2 : (TScene.mk (placed s b (withPar (s.nodes[k]'h.hk) p))).nodes[j]'hjl = withPar (s.nodes[k]'h.hk) p := hjj hjl
      rwa [e2, hxi] at this
    rw [m_sameScene ht, bnd_some, cnd_true, iqt, cnd_true, m_impl_NodeAt ht.n, bnd_some, q2, bnd_some, cnd_true, hat, idx_nat hjl, bnd_some, hjj hjl]
    have hpar : (withPar (s.nodes[k]'h.hk) p).parent = p := rfl
    rw [hpar, iqt, cnd_true, orderL_0 h, orderL_1 h]
    have hle : ieq (((TScene.mk (placed s b (withPar (s.nodes[k]'h.hk) p))).nodes.length : Nat) : Int) (s.nodes.length : Int) = true := by
      show ieq ((placed s b (withPar (s.nodes[k]'h.hk) p)).length : Int) (s.nodes.length : Int) = true
      rw [hpl, iqt]
    rcases rest_at h with ⟨hb, e⟩ | ⟨hb, _, t, ht', e, e'⟩
    · have hj0 : ieq (j : Int) 0 = true := by
        have : j = 0 := by omega
        rw [this]; rfl
      have hb0 : ieq b 0 = true := by rw [hb, iqt]
      rw [hb0, cnd_true, hj0, cnd_true, bnd_some]
      exact congrArg some hle
    · rw [iqf hb, cnd_false, iqf (by omega), cnd_false, wr_in (by omega)]
      have hjt : (j : Int) - 1 = (t : Int) := by omega
      have htl : t < (placed s b (withPar (s.nodes[k]'h.hk) p)).length := by omega
      rw [hjt, idx_nat htl, bnd_some, hlt t (by omega) htl ht', e', iqt, cnd_true, bnd_some]
      exact congrArg some hle

/-! ## FnCreates: what is drawn is right -/
/-! ## FnCreates: nodes drawn -/
end Go.Proofs.Ytafljhadfoaceaa.Am
