import Derived.Test.YtafljhadfoaceaaAmCrMo
import Derived.Test.YtafljhadfoaceaaAmRo
import Derived.Test.YtafljhadfoaceaaAmLw
set_option linter.unusedVariables false
set_option linter.unusedSimpArgs false
set_option linter.unusedSectionVars false
namespace Go.Proofs.Ytafljhadfoaceaa.Am
open Go Go.Proofs
end Go.Proofs.Ytafljhadfoaceaa.Am
namespace Go.Proofs.Ytafljhadfoaceaa.Am
open Go Go.Proofs
set_option linter.unusedVariables false
set_option linter.unusedSimpArgs false
end Go.Proofs.Ytafljhadfoaceaa.Am
namespace Go.Proofs.Ytafljhadfoaceaa.Am
open Go Go.Proofs
set_option linter.unusedSimpArgs false
set_option linter.unusedVariables false
set_option maxRecDepth 100000
/-! ## Small words -/
def tin (x a b : Int) : Bool := ile a x && ile x b
theorem tin_t {x a b : Int} : tin x a b = true ↔ a ≤ x ∧ x ≤ b := by simp [tin, ile_t]
@[simp] theorem m_spec_l01In (x a b : Int) : spec_l01In x a b = some (tin x a b) := by
  unfold spec_l01In tin; cases ile a x <;> simp
@[simp] theorem m_impl_inRange (x a b : Int) : impl_inRange x a b = some (tin x a b) := by
  unfold impl_inRange tin; cases ile a x <;> simp
def tileCount (w h : Int) : Int := if tin w 1 12 && tin h 1 12 then ((w + 3) / 4) * ((h + 3) / 4) else 0
theorem four {w : Int} (h : tin w 1 12 = true) : (w + 3) / 4 = 1 ∨ (w + 3) / 4 = 2 ∨ (w + 3) / 4 = 3 := by rw [tin_t] at h; omega
theorem wr9 {w h : Int} (hw : tin w 1 12 = true) (hh : tin h 1 12 = true) : IntKind.i64.wrap ((w + 3) / 4 * ((h + 3) / 4)) = (w + 3) / 4 * ((h + 3) / 4) := by
  refine wr_in ?_
  rcases four hw with e | e | e <;> rcases four hh with f | f | f <;> rw [e, f] <;> decide
theorem up4 {w : Int} (h : tin w 1 12 = true) : IntKind.i64.wrap ((IntKind.i64.wrap (w + 3)).tdiv 4) = (w + 3) / 4 := by
  rw [tin_t] at h
  rw [wr_in (n := w + 3) (by omega), Int.tdiv_eq_ediv_of_nonneg (by omega), wr_in (by omega)]
def TBox.empty (b : TBox) : Bool := ile b.x1 b.x0 || ile b.y1 b.y0
def TBox.zero : TBox := ⟨0, 0, 0, 0⟩
def meet (a b : TBox) : TBox :=
  let c : TBox := ⟨max a.x0 b.x0, max a.y0 b.y0, min a.x1 b.x1, min a.y1 b.y1⟩
  if c.empty then .zero else c
@[simp] theorem m_spec_Empty (b : TBox) : spec_Empty b = some b.empty := by
  unfold spec_Empty TBox.empty; cases ile b.x1 b.x0 <;> simp
def inBox (b : TBox) (p : TPoint) : Bool := decide (b.x0 ≤ p.x ∧ p.x < b.x1 ∧ b.y0 ≤ p.y ∧ p.y < b.y1)
def tileBox (w h i : Int) : TBox :=
  if tin i 0 (tileCount w h - 1) then
    let x := i % ((w + 3) / 4) * 4
    let y := i / ((w + 3) / 4) * 4
    meet ⟨x, y, x + 4, y + 4⟩ ⟨0, 0, w, h⟩
  else .zero
theorem tc_bd (w h : Int) : 0 ≤ tileCount w h ∧ tileCount w h ≤ 9 := by
  unfold tileCount
  cases hw : tin w 1 12 <;> cases hh : tin h 1 12 <;> simp
  rcases four hw with e | e | e <;> rcases four hh with f | f | f <;> rw [e, f] <;> decide
@[simp] theorem tc_wrap (w h : Int) : IntKind.i64.wrap (tileCount w h - 1) = tileCount w h - 1 := by
  have := tc_bd w h
  exact wr_in (by omega)
theorem tb_facts {w h i : Int} (hi : tin i 0 (tileCount w h - 1) = true) : tin w 1 12 = true ∧ 0 ≤ i ∧ i ≤ 8 := by
  have := tc_bd w h
  rw [tin_t] at hi
  refine ⟨?_, by omega, by omega⟩
  cases hw : tin w 1 12 with
  | true => rfl
  | false =>
    have : tileCount w h = 0 := by simp [tileCount, hw]
    omega
theorem tb_x {r i : Int} (hr : r = 1 ∨ r = 2 ∨ r = 3) (h0 : 0 ≤ i) (h1 : i ≤ 8) : IntKind.i64.wrap (i.tmod r * 4) = i % r * 4 ∧ IntKind.i64.wrap (i % r * 4 + 4) = i % r * 4 + 4 ∧
    IntKind.i64.wrap (IntKind.i64.wrap (i.tdiv r) * 4) = i / r * 4 ∧ IntKind.i64.wrap (i / r * 4 + 4) = i / r * 4 + 4 := by
  rw [Int.tmod_eq_emod_of_nonneg h0, Int.tdiv_eq_ediv_of_nonneg h0]
  rcases hr with rfl | rfl | rfl
  · rw [wr_in (n := i / 1) (by omega)]; exact ⟨wr_in (by omega), wr_in (by omega), wr_in (by omega), wr_in (by omega)⟩
  · rw [wr_in (n := i / 2) (by omega)]; exact ⟨wr_in (by omega), wr_in (by omega), wr_in (by omega), wr_in (by omega)⟩
  · rw [wr_in (n := i / 3) (by omega)]; exact ⟨wr_in (by omega), wr_in (by omega), wr_in (by omega), wr_in (by omega)⟩
theorem four' {w : Int} (h : tin w 1 12 = true) : ¬ (w + 3) / 4 = 0 := by rcases four h with e | e | e <;> omega
/-! ## Draws -/
structure CurOk (c : TL01Cur) : Prop where
  lo : 0 ≤ c.i
  hi : c.i ≤ c.b.length
  big : c.b.length ≤ 1048576
theorem idx_of {α : Type} {l : List α} {i : Int} (h0 : 0 ≤ i) (h1 : i < l.length) : ∃ x, idx l i = some x ∧ x ∈ l := by
  have : i.toNat < l.length := by omega
  refine ⟨l[i.toNat], ?_, List.getElem_mem this⟩
  unfold idx; rw [if_pos h0]; exact List.getElem?_eq_getElem this
theorem and255 (x : Int) : 0 ≤ andI .i64 x 255 ∧ andI .i64 x 255 ≤ 255 := by
  have h : (BitVec.ofInt 64 x &&& BitVec.ofInt 64 255).toNat ≤ 255 := by
    rw [BitVec.toNat_and]
    exact Nat.le_trans Nat.and_le_right (by decide)
  have h2 : (((BitVec.ofInt 64 x &&& BitVec.ofInt 64 255).toNat : Nat) : Int) ≤ 255 := by exact_mod_cast h
  have e : andI .i64 x 255 = IntKind.i64.wrap (((BitVec.ofInt 64 x &&& BitVec.ofInt 64 255).toNat : Nat) : Int) := rfl
  rw [e, wr_in ⟨by omega, by omega⟩]
  exact ⟨by omega, h2⟩
theorem new_ok (a : List Int) (h : a.length ≤ 1048576) : ∃ c, spec_l01New a = some c ∧ CurOk c := by
  obtain ⟨s, h1, _⟩ := loopI_inv (f := spec_l01New_l0 a) (fun i (s : Int) => (s, (i : Int))) (min a.length 4000) (fun _ _ => True) (fun s => s) (s0 := IntKind.i64.wrap (28001 + (a.length : Int))) trivial
    (fun i s hi _ => by
      have e1 : ile (a.length : Int) (i : Int) = false := by rw [ile_f]; omega
      have e2 : ile 4000 (i : Int) = false := by rw [ile_f]; omega
      obtain ⟨x, hx, _⟩ := idx_of (l := a) (i := (i : Int)) (by omega) (by omega)
      have e3 : spec_l01New_l0 a (s, (i : Int)) = some (.inl (andI .i64 (IntKind.i64.wrap (IntKind.i64.wrap (IntKind.i64.wrap (s * 131) + IntKind.i64.wrap x) + 7)) 1073741823, ((i + 1 : Nat) : Int))) := by
        simp only [spec_l01New_l0, e1, e2, cnd_false, hx, bnd_some]
        rw [wr_in (n := (i : Int) + 1) (by omega)]
        rfl
      exact ⟨_, e3, trivial⟩)
    (fun s _ => by
      rcases Nat.le_total a.length 4000 with hl | hl
      · rw [Nat.min_eq_left hl]
        simp [spec_l01New_l0]
      · rw [Nat.min_eq_right hl]
        cases e1 : ile (a.length : Int) ((4000 : Nat) : Int)
        · have e2 : ile 4000 ((4000 : Nat) : Int) = true := by decide
          simp only [spec_l01New_l0, e1, e2, cnd_true, cnd_false]
        · simp only [spec_l01New_l0, e1, cnd_true])
  refine ⟨⟨a, 0, s⟩, ?_, by simp, by simp, h⟩
  unfold spec_l01New
  have : loopI (spec_l01New_l0 a) (IntKind.i64.wrap (28001 + (a.length : Int)), 0) = some s := h1
  rw [this]; rfl
theorem byte_ok {c : TL01Cur} (h : CurOk c) : ∃ r c', spec_l01Byte c = some (r, c') ∧ 0 ≤ r ∧ r ≤ 255 ∧ CurOk c' := by
  unfold spec_l01Byte
  cases e : ile (c.b.length : Int) c.i
  · rw [ile_f] at e
    obtain ⟨x, hx, _⟩ := idx_of (l := c.b) (i := c.i) h.lo e
    simp only [cnd_false, hx, bnd_some]
    have := h.big
    have := h.lo
    rw [wr_in (n := c.i + 1) (by omega)]
    exact ⟨_, _, rfl, (and255 _).1, (and255 _).2, by simp; omega, by simp; omega, h.big⟩
  · simp only [cnd_true]
    exact ⟨_, _, rfl, (and255 _).1, (and255 _).2, h.lo, h.hi, h.big⟩
theorem below_ok {c : TL01Cur} (h : CurOk c) {n : Int} (h0 : 0 < n) : ∃ r c', spec_l01Below n c = some (r, c') ∧ 0 ≤ r ∧ r < n ∧ CurOk c' := by
  unfold spec_l01Below
  have e0 : ile n 0 = false := by rw [ile_f]; exact h0
  have hn : ¬ n = 0 := by omega
  simp only [e0, cnd_false]
  obtain ⟨r1, c1, q1, a1, b1, k1⟩ := byte_ok h
  cases e1 : ile n 256
  · obtain ⟨r2, c2, q2, a2, b2, k2⟩ := byte_ok k1
    obtain ⟨r3, c3, q3, a3, b3, k3⟩ := byte_ok k2
    obtain ⟨r4, c4, q4, a4, b4, k4⟩ := byte_ok k3
    simp only [cnd_false, q1, q2, q3, q4, bnd_some, chkP_pos hn]
    rw [wr_in (n := r1 * 16777216) (by omega), wr_in (n := r2 * 65536) (by omega), wr_in (n := r3 * 256) (by omega)]
    rw [wr_in (n := r1 * 16777216 + r2 * 65536) (by omega)]
    rw [wr_in (n := r1 * 16777216 + r2 * 65536 + r3 * 256) (by omega)]
    rw [wr_in (by omega)]
    exact ⟨_, _, rfl, Int.tmod_nonneg _ (by omega), Int.tmod_lt_of_pos _ h0, k4⟩
  · simp only [cnd_true, q1, bnd_some, chkP_pos hn]
    exact ⟨_, _, rfl, Int.tmod_nonneg _ a1, Int.tmod_lt_of_pos _ h0, k1⟩
/-! ## Each square is in one tile -/
section
variable {a0 : List Int} {v3 v4 w h : Int}
end

/-! ## Loops that ask the same of all -/
theorem loopI_all {f : Int → Option (Int ⊕ (Unit ⊕ Unit))} (n : Nat) (p : Nat → Bool) (hn : n ≤ 9223372036854775807)
    (hs : ∀ i : Nat, i < n → f (i : Int) = cnd (p i) (some (.inl (IntKind.i64.wrap ((i : Int) + 1)))) (some (.inr (.inr ())))) (he : f (n : Int) = some (.inr (.inl ()))) :
    loopI f 0 = some (if (List.range n).all p then .inl () else .inr ()) := by
  have h := loopI_find (f := f) (fun i : Nat => (i : Int)) n (fun i => !(p i)) (fun _ => .inr ()) (r := .inl ()) (fun i hi => by
    rw [hs i hi, wr_in (by omega)]
    cases p i <;> simp) he
  have e : loopI f 0 = loopI f ((0 : Nat) : Int) := rfl
  rw [e, h]
  congr 1
  cases hq : (List.range n).find? (fun i => !(p i)) with
  | none =>
    rw [List.find?_eq_none] at hq
    have : (List.range n).all p = true := List.all_eq_true.2 fun x hx => by simpa using hq x hx
    rw [this]; rfl
  | some i =>
    have h1 := List.find?_some hq
    have h2 := List.mem_of_find?_eq_some hq
    have : (List.range n).all p = false := by
      rw [List.all_eq_false]; exact ⟨i, h2, by simpa using h1⟩
    rw [this]; rfl
theorem range_all {α : Type} {l : List α} {q : α → Bool} {p : Nat → Bool} (h : ∀ i (hi : i < l.length), p i = q l[i]) : (List.range l.length).all p = l.all q := by
  rw [Bool.eq_iff_iff, List.all_eq_true, List.all_eq_true]
  constructor
  · intro k x hx
    obtain ⟨i, hi, rfl⟩ := List.getElem_of_mem hx
    rw [← h i hi]; exact k i (List.mem_range.2 hi)
  · intro k i hi
    have hi := List.mem_range.1 hi
    rw [h i hi]; exact k _ (List.getElem_mem hi)
/-- Of a row, each element asked the same. -/
theorem loopI_row {α : Type} {l : List α} {f : Int → Option (Int ⊕ (Unit ⊕ Unit))} (q : α → Bool) (hn : l.length ≤ 9223372036854775807)
    (hs : ∀ (i : Nat) (h : i < l.length), f (i : Int) = cnd (q l[i]) (some (.inl (IntKind.i64.wrap ((i : Int) + 1)))) (some (.inr (.inr ())))) (he : f (l.length : Int) = some (.inr (.inl ()))) :
    loopI f 0 = some (if l.all q then .inl () else .inr ()) := by
  have h := loopI_all (f := f) l.length (fun i => if h : i < l.length then q l[i] else false) hn (fun i hi => by rw [hs i hi]; simp [hi]) he
  rw [h, range_all (q := q) (fun i hi => by simp [hi])]

/-! ## Masks -/
def TBox.isZero (b : TBox) : Bool := decide (b.x0 = 0) && (decide (b.y0 = 0) && (decide (b.x1 = 0) && (decide (b.y1 = 0))))
theorem empty_f {b : TBox} : b.empty = false ↔ b.x0 < b.x1 ∧ b.y0 < b.y1 := by simp [TBox.empty, ile_f]
/-! ## The first of a row that is asked for -/
def fst {α : Type} (q : α → Bool) (l : List α) : Int := match l.findIdx? q with | some i => (i : Int) | none => -1
theorem loopI_index {α ρ : Type} {l : List α} {f : Int → Option (Int ⊕ ρ)} (q : α → Bool) (a : ρ) (b : Int → ρ) (hn : l.length ≤ 9223372036854775807)
    (hs : ∀ (i : Nat) (h : i < l.length), f (i : Int) = cnd (q l[i]) (some (.inr (b (i : Int)))) (some (.inl (IntKind.i64.wrap ((i : Int) + 1))))) (he : f (l.length : Int) = some (.inr a)) :
    loopI f 0 = some (match l.findIdx? q with | some i => b (i : Int) | none => a) := by
  have h := loopI_find (f := f) (fun i : Nat => (i : Int)) l.length (fun i => match l[i]? with | some x => q x | none => false) (fun i => b (i : Int)) (r := a) (fun i hi => by
    rw [hs i hi, wr_in (by omega), List.getElem?_eq_getElem hi]
    cases h : q l[i] <;> simp [h]) he
  have e : loopI f 0 = loopI f ((0 : Nat) : Int) := rfl
  rw [e, h]
  have : (List.range l.length).find? (fun i => match l[i]? with | some x => q x | none => false) = l.findIdx? q := by
    cases hq : l.findIdx? q with
    | none =>
      rw [List.findIdx?_eq_none_iff] at hq
      rw [List.find?_eq_none]
      intro i hi
      have hi := List.mem_range.1 hi
      rw [List.getElem?_eq_getElem hi]
      simp [hq _ (List.getElem_mem hi)]
    | some i =>
      rw [List.findIdx?_eq_some_iff_getElem] at hq
      obtain ⟨h1, h2, h3⟩ := hq
      rw [List.find?_range_eq_some]
      refine ⟨by rw [List.getElem?_eq_getElem h1]; exact h2, by simpa using h1, fun j hj => ?_⟩
      have := h3 j hj
      rw [List.getElem?_eq_getElem (by omega)]
      simpa using this
  rw [this]
  cases l.findIdx? q <;> rfl
theorem fst_eq {α : Type} {q : α → Bool} {l : List α} {i : Nat} (hi : i < l.length) (hq : q l[i] = true) : fst q l = (i : Int) ↔ ∀ k (hk : k < i), q l[k] = false := by
  unfold fst
  cases h : l.findIdx? q with
  | none =>
    rw [List.findIdx?_eq_none_iff] at h
    have := h _ (List.getElem_mem hi)
    rw [hq] at this; cases this
  | some j =>
    rw [List.findIdx?_eq_some_iff_getElem] at h
    obtain ⟨h1, h2, h3⟩ := h
    show (j : Int) = (i : Int) ↔ _
    constructor
    · intro e k hk
      have : j = i := by omega
      have := h3 k (by omega)
      simpa using this
    · intro e
      have : ¬ j < i := fun hj => by have := e j hj; rw [h2] at this; cases this
      have : ¬ i < j := fun hj => h3 i hj hq
      show (j : Int) = i
      omega

/-! ## Caches -/
/-! ## Surfaces -/
theorem m_spec_ColorOk (c : TColor) : spec_ColorOk c = some (tin c.r 0 255 && tin c.g 0 255 && tin c.b 0 255 && tin c.a 0 255) := by
  unfold spec_ColorOk
  simp only [m_spec_l01In, bnd_some]
  cases tin c.r 0 255 <;> cases tin c.g 0 255 <;> cases tin c.b 0 255 <;> simp
theorem m_impl_isByte (x : Int) : impl_isByte x = some (tin x 0 255) := by unfold impl_isByte; simp only [m_impl_inRange, bnd_some]
theorem m_impl_ColorOk (c : TColor) : impl_ColorOk c = some (tin c.r 0 255 && tin c.g 0 255 && tin c.b 0 255 && tin c.a 0 255) := by
  unfold impl_ColorOk
  simp only [m_impl_isByte, bnd_some]
  cases tin c.r 0 255 <;> cases tin c.g 0 255 <;> cases tin c.b 0 255 <;> simp
/-! ## Loops from a number to another one -/
/-! ## Sparing -/
/-! ## Marks -/
/-! ## TilesOf -/
/-! ## Painting a part of a surface -/
section
variable {α : Type}
end

/-! ## Colours: the program's words are the reference's -/
/-! ## LayOver -/
/-! ## Paints -/
instance decCol : DecidableEq TColor := fun a b => decidable_of_iff (a.r = b.r ∧ a.g = b.g ∧ a.b = b.b ∧ a.a = b.a) (by cases a; cases b; simp)
instance decPt : DecidableEq TPoint := fun a b => decidable_of_iff (a.x = b.x ∧ a.y = b.y) (by cases a; cases b; simp)
theorem s_PointOk (p : TPoint) : impl_PointOk p = spec_PointOk p := by
  unfold impl_PointOk spec_PointOk impl_isFar
  rw [m_impl_inRange, m_spec_l01In, m_impl_inRange, m_spec_l01In]; rfl
theorem t_PointOk (p : TPoint) : spec_PointOk p = some (tin p.x (-8388608) 8388608 && tin p.y (-8388608) 8388608) := by
  unfold spec_PointOk
  rw [m_spec_l01In, bnd_some, m_spec_l01In]
  cases tin p.x (-8388608) 8388608 <;> simp
def pointOk (p : TPoint) : Bool := tin p.x (-8388608) 8388608 && tin p.y (-8388608) 8388608
def colOk (c : TColor) : Bool := tin c.r 0 255 && tin c.g 0 255 && tin c.b 0 255 && tin c.a 0 255
def paintOk (p : TPaint) : Bool := colOk p.first && if p.kind = 1 then decide (p.last = ⟨0, 0, 0, 0⟩) && decide (p.from_ = ⟨0, 0⟩) && decide (p.to = ⟨0, 0⟩)
  else decide (p.kind = 2) && colOk p.last && pointOk p.from_ && pointOk p.to && !decide (p.from_ = p.to)
theorem col_eq {c d : TColor} : andB (decide (c.r = d.r)) (andB (decide (c.g = d.g)) (andB (decide (c.b = d.b)) (andB (decide (c.a = d.a)) true))) = decide (c = d) := by
  cases c; cases d; simp [andB, Bool.decide_and]
theorem pt_eq {c d : TPoint} : andB (decide (c.x = d.x)) (andB (decide (c.y = d.y)) true) = decide (c = d) := by
  cases c; cases d; simp [andB, Bool.decide_and]
theorem m_spec_PaintOk (p : TPaint) : spec_PaintOk p = some (paintOk p) := by
  unfold spec_PaintOk paintOk
  rw [m_spec_ColorOk, bnd_some]
  have e1 := col_eq (c := p.last) (d := ⟨0, 0, 0, 0⟩)
  have e2 := pt_eq (c := p.from_) (d := ⟨0, 0⟩)
  have e3 := pt_eq (c := p.to) (d := ⟨0, 0⟩)
  have e4 := pt_eq (c := p.from_) (d := p.to)
  dsimp only at e1 e2 e3
  rw [e1, e2, e3, e4, m_spec_ColorOk, t_PointOk, t_PointOk]
  show cnd (colOk p.first) _ _ = _
  cases colOk p.first
  · rfl
  rw [cnd_true, Bool.true_and]
  by_cases h1 : p.kind = 1
  · rw [h1, iqt, cnd_true, if_pos rfl]
    cases decide (p.last = ⟨0, 0, 0, 0⟩) <;> simp only [cnd_true, cnd_false, Bool.false_and, Bool.true_and]
    cases decide (p.from_ = ⟨0, 0⟩) <;> simp
  · rw [iqf h1, cnd_false, if_neg h1]
    by_cases h2 : p.kind = 2
    · rw [h2, iqt, cnd_true]
      simp only [bnd_some, decide_true, Bool.true_and]
      show cnd (colOk p.last) _ _ = _
      cases colOk p.last <;> simp only [cnd_true, cnd_false, Bool.false_and, Bool.true_and]
      show cnd (pointOk p.from_) _ _ = _
      cases pointOk p.from_ <;> simp only [cnd_true, cnd_false, Bool.false_and, Bool.true_and]
      show cnd (pointOk p.to) _ _ = _
      cases pointOk p.to <;> simp
    · rw [iqf h2, cnd_false]; simp [h2]
theorem m_impl_PaintOk (p : TPaint) : impl_PaintOk p = some (paintOk p) := by
  unfold impl_PaintOk paintOk
  have e1 := col_eq (c := p.last) (d := ⟨0, 0, 0, 0⟩)
  have e2 := pt_eq (c := p.from_) (d := ⟨0, 0⟩)
  have e3 := pt_eq (c := p.to) (d := ⟨0, 0⟩)
  have e4 := pt_eq (c := p.from_) (d := p.to)
  dsimp only at e1 e2 e3
  by_cases h1 : p.kind = 1
  · rw [h1, iqt, cnd_true, m_impl_ColorOk, bnd_some, if_pos rfl]
    show cnd (colOk p.first) _ _ = _
    cases colOk p.first
    · rfl
    rw [cnd_true, Bool.true_and]
    congr 1
    rw [← e1, ← e2, ← e3]
    simp only [andB, decide_true, Bool.true_and, Bool.and_true, Bool.and_assoc]
  · rw [iqf h1, cnd_false, if_neg h1]
    by_cases h2 : p.kind = 2
    · rw [h2, iqt, cnd_true, e4, m_impl_ColorOk, m_impl_ColorOk, s_PointOk, s_PointOk, t_PointOk, t_PointOk]
      simp only [bnd_some, decide_true, Bool.true_and]
      show cnd (colOk p.first) _ _ = _
      cases colOk p.first <;> simp only [cnd_true, cnd_false, Bool.false_and, Bool.true_and]
      show cnd (colOk p.last) _ _ = _
      cases colOk p.last <;> simp only [cnd_true, cnd_false, Bool.false_and, Bool.true_and]
      show cnd (pointOk p.from_) _ _ = _
      cases pointOk p.from_ <;> simp only [cnd_true, cnd_false, Bool.false_and, Bool.true_and]
      show cnd (pointOk p.to) _ _ = _
      cases pointOk p.to <;> simp
    · rw [iqf h2, cnd_false]; simp [h2]
/-! ## PaintMask -/
/-! ## What blending yields -/
/-! ## Draws: each is told -/
theorem loopI_tot {σ ρ : Type} {f : σ → Option (σ ⊕ ρ)} (I : σ → Prop) (Q : ρ → Prop) (rk : σ → Nat) (hs : ∀ x, I x → (∃ y, f x = some (.inl y) ∧ I y ∧ rk y < rk x) ∨ (∃ r, f x = some (.inr r) ∧ Q r)) {x : σ} (hx : I x) : ∃ r, loopI f x = some r ∧ Q r := by
  have key : ∀ (n : Nat) (x : σ), rk x < n → I x → ∃ r, loopI f x = some r ∧ Q r := by
    intro n
    induction n with
    | zero => intro x h; omega
    | succ n ih =>
      intro x h hI
      rcases hs x hI with ⟨y, h1, h2, h3⟩ | ⟨r, h1, h2⟩
      · rw [loopI_go h1]; exact ih y (by omega) h2
      · exact ⟨r, loopI_end h1, h2⟩
  exact key (rk x + 1) x (by omega) hx
theorem pick_ok {c : TL01Cur} (h : CurOk c) {l : List Int} (h0 : 0 < l.length) : ∃ x c', spec_l01PickInt c l = some (x, c') ∧ x ∈ l ∧ CurOk c' := by
  obtain ⟨r, c', e, r0, r1, k⟩ := below_ok h (n := (l.length : Int)) (by omega)
  obtain ⟨x, hx, hm⟩ := idx_of (l := l) (i := r) r0 r1
  unfold spec_l01PickInt
  rw [e, bnd_some]
  try dsimp only
  rw [hx, bnd_some]
  exact ⟨x, c', rfl, hm, k⟩
theorem once_ok {c : TL01Cur} (h : CurOk c) {n : Int} (h0 : 0 < n) : ∃ b c', spec_l01Once n c = some (b, c') ∧ CurOk c' := by
  obtain ⟨r, c', e, r0, r1, k⟩ := below_ok h h0
  unfold spec_l01Once
  rw [e, bnd_some]
  exact ⟨_, c', rfl, k⟩
def need (v : Int) : Int := if v = 1 then 1 else if v = 2 then 1 else if v = 3 then 2 else if v = 4 then 3 else if v = 5 then 0 else -1
theorem m_NeedOf (v : Int) : spec_NeedOf v = some (need v) := by
  unfold spec_NeedOf
  rw [m_spec_l01In, bnd_some]
  cases h : tin v 1 5 with
  | false =>
    have h' : ¬ (1 ≤ v ∧ v ≤ 5) := by rw [← tin_t, h]; simp
    rw [cnd_false]; unfold need
    rw [if_neg (by omega), if_neg (by omega), if_neg (by omega), if_neg (by omega), if_neg (by omega)]
  | true =>
    rw [tin_t] at h
    have : v = 1 ∨ v = 2 ∨ v = 3 ∨ v = 4 ∨ v = 5 := by omega
    rcases this with rfl | rfl | rfl | rfl | rfl <;> decide
theorem need_bd (v : Int) : -1 ≤ need v ∧ need v ≤ 3 := by unfold need; repeat' split <;> omega
theorem verbs_mem {v : Int} (h : v ∈ [2, 2, 2, 3, 4, 5, 1]) : 0 ≤ need v := by
  simp only [List.mem_cons, List.mem_nil_iff, or_false] at h
  rcases h with rfl | rfl | rfl | rfl | rfl | rfl | rfl <;> decide
/-! ## Lines and masks of drawn paths: each is told -/
def nsum (vs : List Int) (i : Nat) : Int := ((vs.take i).map need).sum
theorem nsum_succ {vs : List Int} {i : Nat} (h : i < vs.length) : nsum vs (i + 1) = nsum vs i + need vs[i] := by
  unfold nsum
  rw [List.take_add_one, List.getElem?_eq_getElem h, List.map_append, List.sum_append]
  simp
structure VOk (vs : List Int) (n : Int) : Prop where
  all : ∀ i (h : i < vs.length), 0 ≤ need vs[i]
  one : ∀ h : 0 < vs.length, vs[0] = 1
  sum : nsum vs vs.length = n
theorem nsum_bd {vs : List Int} : ∀ i, i ≤ vs.length → (∀ j (h : j < vs.length), j < i → 0 ≤ need vs[j]) → 0 ≤ nsum vs i ∧ nsum vs i ≤ 3 * (i : Int) := by
  intro i
  induction i with
  | zero => intro _ _; simp [nsum]
  | succ i ih =>
    intro hi h
    have h1 := ih (by omega) (fun j hj hji => h j hj (by omega))
    have h2 := h i (by omega) (by omega)
    have h3 := need_bd vs[i]
    rw [nsum_succ (by omega)]
    omega
theorem pathOk_t (p : TPath) : ∃ b, spec_PathOk p = some b ∧ (b = true → p.verbs.length ≤ 24 ∧ p.points.length ≤ 24 ∧ VOk p.verbs (p.points.length : Int)) := by
  unfold spec_PathOk
  by_cases h1 : (p.points.length : Int) ≤ 24
  case neg => rw [ilf (by omega), cnd_false]; exact ⟨false, rfl, fun h => by cases h⟩
  by_cases h2 : (p.verbs.length : Int) ≤ 24
  case neg => rw [ilt h1, cnd_true, ilf (by omega), cnd_false]; exact ⟨false, rfl, fun h => by cases h⟩
  rw [ilt h1, ilt h2, cnd_true, cnd_true]
  obtain ⟨r, e1, e2⟩ := loopI_tot (f := spec_PathOk_l0 p) (fun s => ∃ i : Nat, s.2 = (i : Int) ∧ i ≤ p.verbs.length ∧ s.1 = nsum p.verbs i ∧ (∀ j (h : j < p.verbs.length), j < i → 0 ≤ need p.verbs[j]) ∧ (∀ h : 0 < p.verbs.length, 0 < i → p.verbs[0] = 1))
    (fun r => match r with | .inl y => y = nsum p.verbs p.verbs.length ∧ (∀ j (h : j < p.verbs.length), 0 ≤ need p.verbs[j]) ∧ (∀ h : 0 < p.verbs.length, p.verbs[0] = 1) | .inr _ => True) (fun s => (p.verbs.length - s.2).toNat)
    (by
      rintro ⟨x, y⟩ ⟨i, hy, hi, hx, ha, ho⟩
      dsimp only at hy hx
      subst hy; subst hx
      have hb := nsum_bd i hi ha
      rw [spec_PathOk_l0]
      by_cases hlt : i < p.verbs.length
      case neg =>
        right
        rw [ilt (by omega), cnd_true]
        have : i = p.verbs.length := by omega
        subst this
        exact ⟨_, rfl, rfl, fun j h => ha j h h, fun h => ho h h⟩
      have nb := need_bd p.verbs[i]
      rw [ilf (by omega), cnd_false, idx_nat hlt, bnd_some, m_NeedOf, bnd_some]
      by_cases hn : 0 ≤ need p.verbs[i]
      case neg => right; rw [ilf (by omega), cnd_false]; exact ⟨_, rfl, trivial⟩
      rw [ilt hn, cnd_true, wr_in (n := nsum p.verbs i + need p.verbs[i]) (by omega), wr_in (n := (i : Int) + 1) (by omega)]
      have step : ∀ ho' : (∀ h : 0 < p.verbs.length, p.verbs[0] = 1), ∃ k : Nat, (nsum p.verbs i + need p.verbs[i], (i : Int) + 1).2 = (k : Int) ∧ k ≤ p.verbs.length ∧ (nsum p.verbs i + need p.verbs[i], (i : Int) + 1).1 = nsum p.verbs k ∧ (∀ j (h : j < p.verbs.length), j < k → 0 ≤ need p.verbs[j]) ∧ (∀ h : 0 < p.verbs.length, 0 < k → p.verbs[0] = 1) := by
        intro ho'
        refine ⟨i + 1, by simp, by omega, (nsum_succ hlt).symm, fun j h hj => ?_, fun h _ => ho' h⟩
        by_cases hji : j = i
        · subst hji; exact hn
        · exact ha j h (by omega)
      by_cases h0 : i = 0
      · subst h0
        have z : ((0 : Nat) : Int) = 0 := rfl
        rw [z, iqt, cnd_true]
        by_cases hv : p.verbs[0] = 1
        · left
          rw [hv, iqt, cnd_true]
          rw [hv] at step
          exact ⟨_, rfl, step (fun _ => hv), by (try dsimp only) <;> omega⟩
        · right; rw [iqf hv, cnd_false]; exact ⟨_, rfl, trivial⟩
      · rw [iqf (by omega), cnd_false, wr_in (n := (i : Int) - 1) (by omega)]
        obtain ⟨q, hq, _⟩ := idx_of (l := p.verbs) (i := (i : Int) - 1) (by omega) (by omega)
        have ho' : ∀ h : 0 < p.verbs.length, p.verbs[0] = 1 := fun h => ho h (by omega)
        rw [hq, bnd_some]
        by_cases h5 : q = 5
        · rw [h5, iqt, cnd_true]
          by_cases hv : p.verbs[i] = 1
          · left
            rw [hv, iqt, cnd_true]
            rw [hv] at step
            exact ⟨_, rfl, step ho', by (try dsimp only) <;> omega⟩
          · right; rw [iqf hv, cnd_false]; exact ⟨_, rfl, trivial⟩
        · left
          rw [iqf h5, cnd_false]
          exact ⟨_, rfl, step ho', by (try dsimp only) <;> omega⟩)
    (x := (0, 0)) ⟨0, rfl, by omega, by simp [nsum], fun j _ h => by omega, fun _ h => by omega⟩
  rw [e1, bnd_some]
  rcases r with y | u
  · have key := loopI_row (l := p.points) (f := spec_PathOk_l1 p y) (fun q => tin q.x (-8388608) 8388608 && tin q.y (-8388608) 8388608) (by omega) (fun i hi => by rw [spec_PathOk_l1, ilf (by omega), cnd_false, idx_nat hi, bnd_some, t_PointOk, bnd_some]) (by rw [spec_PathOk_l1, ilt (by omega), cnd_true])
    try dsimp only
    rw [key, bnd_some]
    cases p.points.all (fun q => tin q.x (-8388608) 8388608 && tin q.y (-8388608) 8388608)
    · exact ⟨false, rfl, fun h => by cases h⟩
    · refine ⟨ieq y (p.points.length : Int), rfl, fun h => ⟨by omega, by omega, e2.2.1, e2.2.2, ?_⟩⟩
      have : y = (p.points.length : Int) := by simpa [ieq] using h
      rw [← e2.1]; exact this
  · exact ⟨false, rfl, fun h => by cases h⟩
/-! ## Masks of lines -/
/-! ## FnLayers -/
/-! ## FnPaintsOn -/
/-! ## Scenes: the program's word is the reference's -/
theorem loopI_congr {σ ρ : Type} {f g : σ → Option (σ ⊕ ρ)} (I : σ → Prop) (h : ∀ x, I x → f x = g x) (hi : ∀ x y, I x → f x = some (.inl y) → I y) {x : σ} (hx : I x) : loopI f x = loopI g x := by
  have key : ∀ (k : Nat) (x : σ), I x → loopN' f k x = loopN' g k x := by
    intro k
    induction k with
    | zero => intro x _; rfl
    | succ k ih =>
      intro x hI
      rw [loopN', loopN', ← h x hI]
      cases hf : f x with
      | none => rfl
      | some o => cases o with
        | inl y => exact ih y (hi x y hI hf)
        | inr r => rfl
  refine opt_ext fun r => ?_
  rw [loopI_iff, loopI_iff]
  constructor
  · rintro ⟨k, hk⟩; exact ⟨k, by rw [← key k x hx]; exact hk⟩
  · rintro ⟨k, hk⟩; exact ⟨k, by rw [key k x hx]; exact hk⟩
def matOk (m : TMat) : Bool := tin m.a (-1048576) 1048576 && tin m.b (-1048576) 1048576 && tin m.c (-1048576) 1048576 && tin m.d (-1048576) 1048576 && tin m.e (-8388608) 8388608 && tin m.f (-8388608) 8388608
theorem m_spec_MatOk (m : TMat) : spec_MatOk m = some (matOk m) := by
  unfold spec_MatOk matOk
  have e : IntKind.i64.wrap (0 - 1048576) = -1048576 := by decide
  rw [e]
  simp only [m_spec_l01In, bnd_some]
  cases tin m.a (-1048576) 1048576 <;> cases tin m.b (-1048576) 1048576 <;> cases tin m.c (-1048576) 1048576 <;> cases tin m.d (-1048576) 1048576 <;> cases tin m.e (-8388608) 8388608 <;> simp
theorem m_impl_MatOk (m : TMat) : impl_MatOk m = some (matOk m) := by
  unfold impl_MatOk matOk
  have key := loopI_row (l := [m.a, m.b, m.c, m.d]) (f := impl_MatOk_l0 m) (fun x => tin x (-1048576) 1048576) (by simp) (fun i hi => by
    have hi' : i < 4 := hi
    rw [impl_MatOk_l0, ilf (by omega), cnd_false, idx_nat hi, bnd_some, m_impl_inRange, bnd_some]) (by rw [impl_MatOk_l0, ilt (by simp), cnd_true])
  rw [key]
  unfold impl_isFar
  simp only [m_impl_inRange, bnd_some, List.all_cons, List.all_nil, Bool.and_true]
  cases tin m.a (-1048576) 1048576 <;> cases tin m.b (-1048576) 1048576 <;> cases tin m.c (-1048576) 1048576 <;> cases tin m.d (-1048576) 1048576 <;> cases tin m.e (-8388608) 8388608 <;> simp
theorem m_impl_NeedOf (v : Int) : impl_NeedOf v = some (need v) := by
  unfold impl_NeedOf need
  by_cases h1 : v = 1
  · subst h1; simp [ieq]
  by_cases h2 : v = 2
  · subst h2; simp [ieq]
  by_cases h3 : v = 3
  · subst h3; simp [ieq]
  by_cases h4 : v = 4
  · subst h4; simp [ieq]
  by_cases h5 : v = 5
  · subst h5; simp [ieq]
  simp [ieq, h1, h2, h3, h4, h5]
theorem pathL0_eq (p : TPath) (hl : p.verbs.length ≤ 24) : loopI (impl_PathOk_l0 p) (0, 0) = loopI (spec_PathOk_l0 p) (0, 0) := by
  refine loopI_congr (fun s => ∃ i : Nat, s.2 = (i : Int) ∧ i ≤ p.verbs.length) ?_ ?_ ⟨0, rfl, by omega⟩
  · rintro ⟨x, y⟩ ⟨i, hy, hi⟩
    dsimp only at hy
    subst hy
    rw [impl_PathOk_l0, spec_PathOk_l0]
    by_cases hlt : i < p.verbs.length
    case neg => rw [ilt (by omega), cnd_true, cnd_true]
    rw [ilf (by omega), cnd_false, cnd_false, idx_nat hlt, bnd_some, bnd_some, m_impl_NeedOf, m_NeedOf, bnd_some, bnd_some]
    by_cases h0 : i = 0
    · subst h0
      have z : ((0 : Nat) : Int) = 0 := rfl
      rw [z, iqt, cnd_true, cnd_true]
    · rw [iqf (by omega), cnd_false, cnd_false, wr_in (n := (i : Int) - 1) (by omega)]
      obtain ⟨q, hq, _⟩ := idx_of (l := p.verbs) (i := (i : Int) - 1) (by omega) (by omega)
      rw [hq, bnd_some, bnd_some]
  · rintro ⟨x, y⟩ ⟨x', y'⟩ ⟨i, hy, hi⟩ hf
    dsimp only at hy
    subst hy
    rw [impl_PathOk_l0] at hf
    by_cases hlt : i < p.verbs.length
    case neg => rw [ilt (by omega), cnd_true] at hf; cases hf
    refine ⟨i + 1, ?_, by omega⟩
    rw [ilf (by omega), cnd_false, idx_nat hlt, bnd_some, m_impl_NeedOf, bnd_some, wr_in (n := (i : Int) + 1) (by omega)] at hf
    have fin : ∀ {z : Int}, (some (.inl (z, (i : Int) + 1)) : Option ((Int × Int) ⊕ (Int ⊕ Unit))) = some (.inl (x', y')) → y' = ((i + 1 : Nat) : Int) := by
      intro z h; simp only [Option.some.injEq, Sum.inl.injEq, Prod.mk.injEq] at h; omega
    by_cases h0 : i = 0
    · subst h0
      have z : ((0 : Nat) : Int) = 0 := rfl
      rw [z, iqt, cnd_true] at hf
      cases h1 : ile 0 (need p.verbs[0]) <;> rw [h1] at hf
      · cases hf
      · rw [cnd_true] at hf
        cases h2 : ieq p.verbs[0] 1 <;> rw [h2] at hf
        · cases hf
        · exact fin hf
    · rw [iqf (by omega), cnd_false, wr_in (n := (i : Int) - 1) (by omega)] at hf
      obtain ⟨q, hq, _⟩ := idx_of (l := p.verbs) (i := (i : Int) - 1) (by omega) (by omega)
      rw [hq, bnd_some] at hf
      cases h1 : ile 0 (need p.verbs[i]) <;> rw [h1] at hf
      · cases hf
      · rw [cnd_true] at hf
        cases h3 : ieq q 5 <;> rw [h3] at hf
        · exact fin hf
        · rw [cnd_true] at hf
          cases h2 : ieq p.verbs[i] 1 <;> rw [h2] at hf
          · cases hf
          · exact fin hf
theorem pathL0_t (p : TPath) (hl : p.verbs.length ≤ 24) : ∃ r, loopI (spec_PathOk_l0 p) (0, 0) = some r := by
  obtain ⟨r, e, _⟩ := loopI_tot (f := spec_PathOk_l0 p) (fun s => ∃ i : Nat, s.2 = (i : Int) ∧ i ≤ p.verbs.length) (fun _ => True) (fun s => ((p.verbs.length : Int) - s.2).toNat)
    (by
      rintro ⟨x, y⟩ ⟨i, hy, hi⟩
      dsimp only at hy
      subst hy
      rw [spec_PathOk_l0]
      by_cases hlt : i < p.verbs.length
      case neg => right; rw [ilt (by omega), cnd_true]; exact ⟨_, rfl, trivial⟩
      rw [ilf (by omega), cnd_false, idx_nat hlt, bnd_some, m_NeedOf, bnd_some, wr_in (n := (i : Int) + 1) (by omega)]
      have fin : ∀ z : Int, ∃ y : Int × Int, (some (.inl (z, (i : Int) + 1)) : Option ((Int × Int) ⊕ (Int ⊕ Unit))) = some (.inl y) ∧ (∃ k : Nat, y.2 = (k : Int) ∧ k ≤ p.verbs.length) ∧ ((p.verbs.length : Int) - y.2).toNat < ((p.verbs.length : Int) - (x, (i : Int)).2).toNat := by
        intro z
        exact ⟨_, rfl, ⟨i + 1, by simp, by omega⟩, by (try dsimp only) <;> omega⟩
      cases ile 0 (need p.verbs[i])
      · right; exact ⟨_, rfl, trivial⟩
      rw [cnd_true]
      by_cases h0 : i = 0
      · subst h0
        have z : ((0 : Nat) : Int) = 0 := rfl
        rw [z, iqt, cnd_true]
        cases ieq p.verbs[0] 1
        · right; exact ⟨_, rfl, trivial⟩
        · left; exact fin _
      · rw [iqf (by omega), cnd_false, wr_in (n := (i : Int) - 1) (by omega)]
        obtain ⟨q, hq, _⟩ := idx_of (l := p.verbs) (i := (i : Int) - 1) (by omega) (by omega)
        rw [hq, bnd_some]
        cases ieq q 5
        · left; exact fin _
        · rw [cnd_true]
          cases ieq p.verbs[i] 1
          · right; exact ⟨_, rfl, trivial⟩
          · left; exact fin _)
    (x := (0, 0)) ⟨0, rfl, by omega⟩
  exact ⟨r, e⟩
theorem s_PathOk (p : TPath) : impl_PathOk p = spec_PathOk p ∧ ∃ b, spec_PathOk p = some b := by
  obtain ⟨b, e, _⟩ := pathOk_t p
  refine ⟨?_, b, e⟩
  unfold impl_PathOk spec_PathOk
  by_cases h1 : (p.points.length : Int) ≤ 24
  case neg => rw [ilf (by omega), cnd_false, cnd_false]
  by_cases h2 : (p.verbs.length : Int) ≤ 24
  case neg => rw [ilt h1, cnd_true, cnd_true, ilf (by omega), cnd_false, cnd_false]
  rw [ilt h1, ilt h2]
  simp only [cnd_true]
  obtain ⟨r, er⟩ := pathL0_t p (by omega)
  rw [pathL0_eq p (by omega), er]
  have k1 := loopI_row (l := p.points) (f := impl_pointsOk_l0 p.points) (fun q => tin q.x (-8388608) 8388608 && tin q.y (-8388608) 8388608) (by omega) (fun i hi => by rw [impl_pointsOk_l0, ilf (by omega), cnd_false, idx_nat hi, bnd_some, s_PointOk, t_PointOk, bnd_some]) (by rw [impl_pointsOk_l0, ilt (by omega), cnd_true])
  unfold impl_pointsOk
  rw [k1]
  simp only [bnd_some]
  rcases r with y | u
  · have k2 := loopI_row (l := p.points) (f := spec_PathOk_l1 p y) (fun q => tin q.x (-8388608) 8388608 && tin q.y (-8388608) 8388608) (by omega) (fun i hi => by rw [spec_PathOk_l1, ilf (by omega), cnd_false, idx_nat hi, bnd_some, t_PointOk, bnd_some]) (by rw [spec_PathOk_l1, ilt (by omega), cnd_true])
    simp only
    rw [k2]
    cases p.points.all (fun q => tin q.x (-8388608) 8388608 && tin q.y (-8388608) 8388608) <;> rfl
  · simp only
    cases p.points.all (fun q => tin q.x (-8388608) 8388608 && tin q.y (-8388608) 8388608) <;> rfl
theorem s_DashOk {l : List Int} (hl : l.length ≤ 1048576) : impl_DashOk l = spec_DashOk l ∧ ∃ b, spec_DashOk l = some b := by
  have k1 := loopI_row (l := l) (f := impl_DashOk_l0 l) (fun x => tin x 1 20000) (by omega) (fun i hi => by rw [impl_DashOk_l0, ilf (by omega), cnd_false, idx_nat hi, bnd_some, m_impl_inRange, bnd_some]) (by rw [impl_DashOk_l0, ilt (by omega), cnd_true])
  have k2 := loopI_row (l := l) (f := spec_DashOk_l0 l) (fun x => tin x 1 20000) (by omega) (fun i hi => by rw [spec_DashOk_l0, ilf (by omega), cnd_false, idx_nat hi, bnd_some, m_spec_l01In, bnd_some]) (by rw [spec_DashOk_l0, ilt (by omega), cnd_true])
  unfold impl_DashOk spec_DashOk
  rw [k1, k2]
  cases l.all (fun x => tin x 1 20000)
  · (first | exact ⟨rfl, _, rfl⟩ | exact ⟨trivial, _, rfl⟩)
  · simp only [if_true, bnd_some]
    cases ieq ((l.length : Int).tmod 2) 0 <;> (first | exact ⟨rfl, _, rfl⟩ | exact ⟨trivial, _, rfl⟩)
theorem s_NodeOk {x : TNode} (hl : x.dashes.length ≤ 1048576) : impl_NodeOk x = spec_NodeOk x ∧ ∃ b, spec_NodeOk x = some b := by
  obtain ⟨d1, db, d2⟩ := s_DashOk hl
  obtain ⟨p1, pb, p2⟩ := s_PathOk x.path
  obtain ⟨q1, qb, q2⟩ := s_PathOk x.clip
  unfold impl_NodeOk spec_NodeOk impl_isMode impl_Path_isNone spec_l15NoPath spec_l15NoPaint
  rw [d1, d2, p1, p2, q1, q2]
  simp only [m_impl_inRange, m_spec_l01In, bnd_some, m_impl_MatOk, m_spec_MatOk, m_impl_isByte, m_impl_PaintOk, m_spec_PaintOk]
  cases tin x.id 1 99
  · (first | exact ⟨rfl, _, rfl⟩ | exact ⟨trivial, _, rfl⟩)
  cases tin x.parent 0 99
  · (first | exact ⟨rfl, _, rfl⟩ | exact ⟨trivial, _, rfl⟩)
  cases ieq x.id x.parent
  case true => (first | exact ⟨rfl, _, rfl⟩ | exact ⟨trivial, _, rfl⟩)
  cases matOk x.mat
  · (first | exact ⟨rfl, _, rfl⟩ | exact ⟨trivial, _, rfl⟩)
  cases pb
  · (first | exact ⟨rfl, _, rfl⟩ | exact ⟨trivial, _, rfl⟩)
  cases qb
  · (first | exact ⟨rfl, _, rfl⟩ | exact ⟨trivial, _, rfl⟩)
  cases tin x.width 0 2048
  · (first | exact ⟨rfl, _, rfl⟩ | exact ⟨trivial, _, rfl⟩)
  cases db
  · (first | exact ⟨rfl, _, rfl⟩ | exact ⟨trivial, _, rfl⟩)
  cases tin x.mode 1 5
  · (first | exact ⟨rfl, _, rfl⟩ | exact ⟨trivial, _, rfl⟩)
  cases tin x.fade 0 255
  · (first | exact ⟨rfl, _, rfl⟩ | exact ⟨trivial, _, rfl⟩)
  cases x.group
  · (first | exact ⟨rfl, _, rfl⟩ | exact ⟨trivial, _, rfl⟩)
  simp only [cnd_true, cnd_false]
  generalize (andB (decide (x.paint.kind = 0)) _) = u
  cases u <;> cases ieq (x.path.verbs.length : Int) 0 <;> simp only [cnd_true, cnd_false, bnd_some]
  · (first | exact ⟨rfl, _, rfl⟩ | exact ⟨trivial, _, rfl⟩)
  · cases ieq (x.path.points.length : Int) 0 <;> (first | exact ⟨rfl, _, rfl⟩ | exact ⟨trivial, _, rfl⟩)
  · (first | exact ⟨rfl, _, rfl⟩ | exact ⟨trivial, _, rfl⟩)
  · cases ieq (x.path.points.length : Int) 0 <;> simp only [cnd_true, cnd_false]
    · (first | exact ⟨rfl, _, rfl⟩ | exact ⟨trivial, _, rfl⟩)
    · cases ieq x.width 0 <;> simp only [cnd_true, cnd_false]
      · (first | exact ⟨rfl, _, rfl⟩ | exact ⟨trivial, _, rfl⟩)
      · cases ieq (x.dashes.length : Int) 0 <;> (first | exact ⟨rfl, _, rfl⟩ | exact ⟨trivial, _, rfl⟩)
def nodeAt (s : TScene) (id : Int) : Int := fst (fun k => ieq k.id id) s.nodes
theorem fst_in {α : Type} {q : α → Bool} {l : List α} (h : 0 ≤ fst q l) : ∃ x, idx l (fst q l) = some x := by
  unfold fst at h ⊢
  cases hq : l.findIdx? q with
  | none => rw [hq] at h; simp at h
  | some i =>
    rw [List.findIdx?_eq_some_iff_getElem] at hq
    obtain ⟨h1, _⟩ := hq
    exact ⟨_, idx_nat h1⟩
theorem m_impl_NodeAt {s : TScene} {id : Int} (h : s.nodes.length ≤ 1048576) : impl_NodeAt s id = some (nodeAt s id) := by
  unfold impl_NodeAt slices_IndexFunc_Node_NodeAt_1
  have e : s.nodes.length ≤ 9223372036854775807 := by omega
  rw [loopI_index (l := s.nodes) (fun k => ieq k.id id) (.inl ()) .inr e (fun i hi => ?_) ?_]
  · unfold nodeAt fst
    cases List.findIdx? (fun k : TNode => ieq k.id id) s.nodes <;> rfl
  · rw [slices_IndexFunc_Node_NodeAt_1_l0, ilt (by omega), cnd_true]
  · rw [slices_IndexFunc_Node_NodeAt_1_l0, ilf (by omega), cnd_false, idx_nat hi, bnd_some, impl_NodeAt_1, bnd_some]
theorem m_spec_NodeAt {s : TScene} {id : Int} (h : s.nodes.length ≤ 1048576) : spec_NodeAt s id = some (nodeAt s id) := by
  unfold spec_NodeAt
  have e : s.nodes.length ≤ 9223372036854775807 := by omega
  rw [loopI_index (l := s.nodes) (fun k => ieq k.id id) (.inl ()) .inr e (fun i hi => ?_) ?_]
  · unfold nodeAt fst
    cases List.findIdx? (fun k : TNode => ieq k.id id) s.nodes <;> rfl
  · rw [spec_NodeAt_l0, ilt (by omega), cnd_true]
  · rw [spec_NodeAt_l0, ilf (by omega), cnd_false, idx_nat hi, bnd_some]
def outI : Int ⊕ Unit → Int
  | .inl y => y
  | .inr _ => 0
theorem depth_eq {s : TScene} (h : s.nodes.length ≤ 1048576) : ∀ (m : Nat) (n : Int) (id : Int), n + (m : Int) = 9 → 1 ≤ n → id ≠ 0 → ∃ q q', loopI (impl_DepthOf_l0 s) (id, n) = some q ∧ loopI (spec_DepthOf_l0 s) (id, n - 1, n - 1) = some q' ∧ outI q = outI q' := by
  intro m
  induction m with
  | zero =>
    intro n id hn h1 hid
    have : n = 9 := by omega
    subst this
    have e1 : loopI (impl_DepthOf_l0 s) (id, 9) = some (.inr ()) := loopI_end (by rw [impl_DepthOf_l0, ilf (by omega), cnd_false])
    by_cases ha : 0 ≤ nodeAt s id
    · obtain ⟨x, hx⟩ := fst_in ha
      have hx' : idx s.nodes (nodeAt s id) = some x := hx
      have e2 : spec_DepthOf_l0 s (id, 9 - 1, 9 - 1) = some (.inl (x.parent, 9, 9)) := by
        rw [spec_DepthOf_l0, ilt (by omega), cnd_true, iqf hid, cnd_false, m_spec_NodeAt h, bnd_some, ilt ha, cnd_true, hx', bnd_some, wr_in (by omega)]; rfl
      have e3 : loopI (spec_DepthOf_l0 s) (x.parent, 9, 9) = some (.inr ()) := loopI_end (by rw [spec_DepthOf_l0, ilf (by omega), cnd_false])
      exact ⟨_, _, e1, by rw [loopI_go e2]; exact e3, rfl⟩
    · have e2 : loopI (spec_DepthOf_l0 s) (id, 9 - 1, 9 - 1) = some (.inl 0) := loopI_end (by
        rw [spec_DepthOf_l0, ilt (by omega), cnd_true, iqf hid, cnd_false, m_spec_NodeAt h, bnd_some, ilf (by omega), cnd_false])
      exact ⟨_, _, e1, e2, rfl⟩
  | succ m ih =>
    intro n id hn h1 hid
    by_cases ha : 0 ≤ nodeAt s id
    · obtain ⟨x, hx⟩ := fst_in ha
      have hx' : idx s.nodes (nodeAt s id) = some x := hx
      have e2 : spec_DepthOf_l0 s (id, n - 1, n - 1) = some (.inl (x.parent, n, n)) := by
        rw [spec_DepthOf_l0, ilt (by omega), cnd_true, iqf hid, cnd_false, m_spec_NodeAt h, bnd_some, ilt ha, cnd_true, hx', bnd_some, wr_in (by omega), show n - 1 + 1 = n by omega]
      by_cases hp : x.parent = 0
      · have e1 : loopI (impl_DepthOf_l0 s) (id, n) = some (.inl n) := loopI_end (by
          rw [impl_DepthOf_l0, ilt (by omega), cnd_true, m_impl_NodeAt h, bnd_some, ilt ha, cnd_true, hx', bnd_some, hp, iqt, cnd_true])
        have e3 : loopI (spec_DepthOf_l0 s) (x.parent, n, n) = some (.inl n) := loopI_end (by rw [spec_DepthOf_l0, ilt (by omega), cnd_true, hp, iqt, cnd_true])
        exact ⟨_, _, e1, by rw [loopI_go e2]; exact e3, rfl⟩
      · have e1 : impl_DepthOf_l0 s (id, n) = some (.inl (x.parent, n + 1)) := by
          rw [impl_DepthOf_l0, ilt (by omega), cnd_true, m_impl_NodeAt h, bnd_some, ilt ha, cnd_true, hx', bnd_some, iqf hp, cnd_false, wr_in (by omega)]
        obtain ⟨q, q', f1, f2, f3⟩ := ih (n + 1) x.parent (by omega) (by omega) hp
        have f2' : loopI (spec_DepthOf_l0 s) (x.parent, n, n) = some q' := by
          rw [show n + 1 - 1 = n by omega] at f2; exact f2
        exact ⟨q, q', by rw [loopI_go e1]; exact f1, by rw [loopI_go e2]; exact f2', f3⟩
    · have e1 : loopI (impl_DepthOf_l0 s) (id, n) = some (.inl 0) := loopI_end (by
        rw [impl_DepthOf_l0, ilt (by omega), cnd_true, m_impl_NodeAt h, bnd_some, ilf (by omega), cnd_false])
      have e2 : loopI (spec_DepthOf_l0 s) (id, n - 1, n - 1) = some (.inl 0) := loopI_end (by
        rw [spec_DepthOf_l0, ilt (by omega), cnd_true, iqf hid, cnd_false, m_spec_NodeAt h, bnd_some, ilf (by omega), cnd_false])
      exact ⟨_, _, e1, e2, rfl⟩
theorem s_DepthOf {s : TScene} (h : s.nodes.length ≤ 1048576) (id : Int) : ∃ v, impl_DepthOf s id = some v ∧ spec_DepthOf s id = some v := by
  unfold impl_DepthOf spec_DepthOf
  by_cases hid : id = 0
  · subst hid
    have e : loopI (spec_DepthOf_l0 s) (0, 0, 0) = some (.inl 0) := loopI_end (by rw [spec_DepthOf_l0, ilt (by omega), cnd_true, iqt, cnd_true])
    rw [iqt, cnd_true, e]
    exact ⟨0, rfl, rfl⟩
  · obtain ⟨q, q', e1, e2, e3⟩ := depth_eq h 8 1 id (by omega) (by omega) hid
    have e2' : loopI (spec_DepthOf_l0 s) (id, 0, 0) = some q' := e2
    rw [iqf hid, cnd_false, e1, e2']
    refine ⟨outI q, ?_, ?_⟩
    · cases q <;> rfl
    · rw [e3]; cases q' <;> rfl
structure RowsS (s : TScene) : Prop where
  n : s.nodes.length ≤ 1048576
  d : ∀ x ∈ s.nodes, x.dashes.length ≤ 1048576
theorem s_SceneOk {s : TScene} (h : RowsS s) : impl_SceneOk s = spec_SceneOk s ∧ ∃ b, spec_SceneOk s = some b := by
  have hn := h.n
  unfold impl_SceneOk spec_SceneOk
  by_cases h8 : (s.nodes.length : Int) ≤ 8
  case neg => rw [ilf (by omega), cnd_false, cnd_false]; (first | exact ⟨rfl, _, rfl⟩ | exact ⟨trivial, _, rfl⟩)
  rw [ilt h8, cnd_true, cnd_true]
  have step : ∀ (i : Nat) (hi : i < s.nodes.length), ∃ b : Bool, impl_SceneOk_l0 s (i : Int) = cnd b (some (.inl (IntKind.i64.wrap ((i : Int) + 1)))) (some (.inr (.inr ()))) ∧ spec_SceneOk_l0 s (i : Int) = cnd b (some (.inl (IntKind.i64.wrap ((i : Int) + 1)))) (some (.inr (.inr ()))) := by
    intro i hi
    obtain ⟨n1, nb, n2⟩ := s_NodeOk (h.d _ (List.getElem_mem hi))
    obtain ⟨v, v1, v2⟩ := s_DepthOf hn (s.nodes[i]).id
    rw [impl_SceneOk_l0, spec_SceneOk_l0, ilf (by omega), cnd_false, cnd_false, idx_nat hi, bnd_some, bnd_some, n1, n2, bnd_some, bnd_some]
    cases nb
    · exact ⟨false, rfl, rfl⟩
    rw [cnd_true, cnd_true, m_impl_NodeAt hn, m_spec_NodeAt hn, bnd_some, bnd_some]
    cases ieq (nodeAt s (s.nodes[i]).id) (i : Int)
    · exact ⟨false, rfl, rfl⟩
    rw [cnd_true, cnd_true, v2, bnd_some, m_spec_l01In, bnd_some, m_spec_NodeAt hn]
    unfold impl_Scene_isParent
    rw [m_impl_NodeAt hn, bnd_some]
    by_cases hp : (s.nodes[i]).parent = 0
    · rw [hp, iqt, cnd_true, bnd_some, cnd_true, v1, bnd_some, m_impl_inRange, bnd_some, bnd_some, cnd_true]
      exact ⟨tin v 1 4, rfl, rfl⟩
    · rw [iqf hp, cnd_false, bnd_some, cnd_false]
      by_cases ha : 0 ≤ nodeAt s (s.nodes[i]).parent
      · obtain ⟨x, hx⟩ := fst_in ha
        have hx' : idx s.nodes (nodeAt s (s.nodes[i]).parent) = some x := hx
        rw [ilt ha, cnd_true, cnd_true, hx', bnd_some, bnd_some, bnd_some, v1, bnd_some, m_impl_inRange, bnd_some]
        refine ⟨x.group && tin v 1 4, ?_, ?_⟩
        · cases x.group <;> cases tin v 1 4 <;> rfl
        · cases x.group <;> cases tin v 1 4 <;> rfl
      · rw [ilf (by omega), cnd_false, cnd_false, bnd_some, cnd_false]
        refine ⟨false, rfl, ?_⟩
        cases tin v 1 4 <;> rfl
  have hc : ∀ (i : Nat), ∃ b : Bool, ∀ hi : i < s.nodes.length, impl_SceneOk_l0 s (i : Int) = cnd b (some (.inl (IntKind.i64.wrap ((i : Int) + 1)))) (some (.inr (.inr ()))) ∧ spec_SceneOk_l0 s (i : Int) = cnd b (some (.inl (IntKind.i64.wrap ((i : Int) + 1)))) (some (.inr (.inr ()))) := by
    intro i
    by_cases hi : i < s.nodes.length
    · obtain ⟨b, h1⟩ := step i hi; exact ⟨b, fun _ => h1⟩
    · exact ⟨false, fun h => absurd h hi⟩
  let B : Nat → Bool := fun i => (hc i).choose
  have hB : ∀ i (hi : i < s.nodes.length), impl_SceneOk_l0 s (i : Int) = cnd (B i) (some (.inl (IntKind.i64.wrap ((i : Int) + 1)))) (some (.inr (.inr ()))) ∧ spec_SceneOk_l0 s (i : Int) = cnd (B i) (some (.inl (IntKind.i64.wrap ((i : Int) + 1)))) (some (.inr (.inr ()))) := fun i hi => (hc i).choose_spec hi
  have k1 := loopI_all (f := impl_SceneOk_l0 s) s.nodes.length B (by omega) (fun i hi => (hB i hi).1) (by rw [impl_SceneOk_l0, ilt (by omega), cnd_true])
  have k2 := loopI_all (f := spec_SceneOk_l0 s) s.nodes.length B (by omega) (fun i hi => (hB i hi).2) (by rw [spec_SceneOk_l0, ilt (by omega), cnd_true])
  rw [k1, k2]
  cases (List.range s.nodes.length).all B <;> (first | exact ⟨rfl, _, rfl⟩ | exact ⟨trivial, _, rfl⟩)

/-! ## EngineOk -/
/-! ## EngineNew -/
/-! ## FnSets: draws -/
/-- Rows of a node: short ones. -/
structure NS (x : TNode) : Prop where
  v : x.path.verbs.length ≤ 24
  p : x.path.points.length ≤ 24
  d : x.dashes.length ≤ 2
  cv : x.clip.verbs.length ≤ 24
  cp : x.clip.points.length ≤ 24
theorem slc_tl {α : Type} {l : List α} (h : 1 ≤ l.length) : slc l 1 (l.length : Int) = some (l.drop 1) := by
  unfold slc
  rw [if_pos (by omega)]
  congr 1
  rw [List.take_of_length_le]
  · rfl
  · rw [List.length_drop]; omega
/-! Copies -/
structure NB (x : TNode) : Prop where
  v : x.path.verbs.length ≤ 1048576
  p : x.path.points.length ≤ 1048576
  d : x.dashes.length ≤ 1048576
  cv : x.clip.verbs.length ≤ 1048576
  cp : x.clip.points.length ≤ 1048576
theorem NS.big {x : TNode} (h : NS x) : NB x := ⟨by have := h.v; omega, by have := h.p; omega, by have := h.d; omega, by have := h.cv; omega, by have := h.cp; omega⟩
theorem m_spec_copyPath {p : TPath} (h : p.verbs.length ≤ 1048576) (h1 : p.points.length ≤ 1048576) : spec_l15CopyPath p = some p := by
  unfold spec_l15CopyPath
  rw [chkP_pos (by omega), nam_eq, chkP_pos (by omega), nam_eq]
  simp
theorem m_impl_copyPath {p : TPath} (h : p.verbs.length ≤ 1048576) (h1 : p.points.length ≤ 1048576) : impl_copyPath p = some p := by
  unfold impl_copyPath slices_Clone_int slices_Clone_Point
  rw [chkP_pos (by omega), bnd_some, chkP_pos (by omega), bnd_some]
theorem m_spec_copyNode {x : TNode} (h : NB x) : spec_l15CopyNode x = some x := by
  unfold spec_l15CopyNode
  have := h.d
  rw [m_spec_copyPath h.v h.p, bnd_some, m_spec_copyPath h.cv h.cp, bnd_some, chkP_pos (by omega), nam_eq]
  simp
theorem m_impl_copyNode {x : TNode} (h : NB x) : impl_copyNode x = some x := by
  unfold impl_copyNode slices_Clone_int
  have := h.d
  rw [m_impl_copyPath h.v h.p, bnd_some, m_impl_copyPath h.cv h.cp, bnd_some, chkP_pos (by omega), bnd_some]
theorem copy_loop {α : Type} {l : List α} {f : Int × List α → Option ((Int × List α) ⊕ (List α))} (hs : ∀ (i : Nat) (h : i < l.length), f ((i : Int), l.take i) = some (.inl (((i + 1 : Nat) : Int), l.take i ++ [l[i]]))) (he : f ((l.length : Int), l) = some (.inr l)) : loopI f (0, []) = some l := by
  have key := loopI_n (f := f) (fun i => ((i : Int), l.take i)) l.length (r := l) (fun i hi => ?_) (by (try dsimp only); rw [List.take_length]; exact he)
  · exact key
  · try dsimp only
    rw [hs i hi, List.take_add_one, List.getElem?_eq_getElem hi]; rfl
structure SB (s : TScene) : Prop where
  n : s.nodes.length ≤ 1048576
  x : ∀ y ∈ s.nodes, NB y
theorem SB.rows {s : TScene} (h : SB s) : RowsS s := ⟨h.n, fun y hy => (h.x y hy).d⟩
theorem m_spec_Copy {s : TScene} (h : SB s) : spec_l15Copy s = some s.nodes := by
  have hn := h.n
  unfold spec_l15Copy
  rw [copy_loop (l := s.nodes) (f := spec_l15Copy_l0 s) (fun i hi => by
    rw [spec_l15Copy_l0, ilf (by omega), cnd_false, idx_nat hi, bnd_some, m_spec_copyNode (h.x _ (List.getElem_mem hi)), bnd_some, chkP_pos (by rw [List.length_take]; omega), nam_eq, wr_in (by omega)]; rfl) (by rw [spec_l15Copy_l0, ilt (by omega), cnd_true])]
  rfl
theorem m_impl_copyScene {s : TScene} (h : SB s) : impl_copyScene s = some s.nodes := by
  have hn := h.n
  unfold impl_copyScene
  rw [copy_loop (l := s.nodes) (f := impl_copyScene_l0 s) (fun i hi => by
    rw [impl_copyScene_l0, ilf (by omega), cnd_false, idx_nat hi, bnd_some, m_impl_copyNode (h.x _ (List.getElem_mem hi)), bnd_some, chkP_pos (by rw [List.length_take]; omega), nam_eq, wr_in (by omega)]; rfl) (by rw [impl_copyScene_l0, ilt (by omega), cnd_true])]
  rfl
/-! Any scenes and nodes -/
/-! ## FnSets: the law -/
/-! Sameness -/
theorem m_sameInts {l : List Int} (h : l.length ≤ 1048576) : laws_sameInts l l = some true := by
  unfold laws_sameInts
  rw [iqt, cnd_true, loopI_row (l := l) (f := laws_sameInts_l0 l l) (fun _ => true) (by omega) (fun i hi => by rw [laws_sameInts_l0, ilf (by omega), cnd_false, idx_nat hi, bnd_some, bnd_some, iqt]) (by rw [laws_sameInts_l0, ilt (by omega), cnd_true])]
  simp
theorem m_samePoints {l : List TPoint} (h : l.length ≤ 1048576) : laws_samePoints l l = some true := by
  unfold laws_samePoints
  rw [iqt, cnd_true, loopI_row (l := l) (f := laws_samePoints_l0 l l) (fun _ => true) (by omega) (fun i hi => by rw [laws_samePoints_l0, ilf (by omega), cnd_false, idx_nat hi, bnd_some, bnd_some]; simp [andB]) (by rw [laws_samePoints_l0, ilt (by omega), cnd_true])]
  simp
theorem m_samePath {p : TPath} (h : p.verbs.length ≤ 1048576) (h1 : p.points.length ≤ 1048576) : laws_samePath p p = some true := by
  unfold laws_samePath
  rw [m_sameInts h, bnd_some, cnd_true, m_samePoints h1, bnd_some]
theorem m_sameNode {x : TNode} (h : NB x) : laws_sameNode x x = some true := by
  unfold laws_sameNode
  rw [m_samePath h.v h.p, m_samePath h.cv h.cp, m_sameInts h.d]
  simp [andB, iqt]
theorem m_sameScene {s : TScene} (h : SB s) : laws_sameScene s s = some true := by
  have hn := h.n
  unfold laws_sameScene
  rw [iqt, cnd_true, loopI_row (l := s.nodes) (f := laws_sameScene_l0 s s) (fun _ => true) (by omega) (fun i hi => by rw [laws_sameScene_l0, ilf (by omega), cnd_false, idx_nat hi, bnd_some, bnd_some, m_sameNode (h.x _ (List.getElem_mem hi)), bnd_some]) (by rw [laws_sameScene_l0, ilt (by omega), cnd_true])]
  simp
/-! Right scenes -/
theorem isParent_t {s : TScene} (h : s.nodes.length ≤ 1048576) (p : Int) : ∃ b, impl_Scene_isParent s p = some b ∧ (b = true ↔ p = 0 ∨ ∃ y, idx s.nodes (nodeAt s p) = some y ∧ y.group = true) := by
  unfold impl_Scene_isParent
  rw [m_impl_NodeAt h, bnd_some]
  by_cases hp : p = 0
  · rw [hp, iqt, cnd_true]; exact ⟨true, rfl, by simp⟩
  rw [iqf hp, cnd_false]
  by_cases ha : 0 ≤ nodeAt s p
  · obtain ⟨x, hx⟩ := fst_in ha
    have hx' : idx s.nodes (nodeAt s p) = some x := hx
    rw [ilt ha, cnd_true, hx', bnd_some]
    exact ⟨_, rfl, by simp [hp]⟩
  · rw [ilf (by omega), cnd_false]
    refine ⟨false, rfl, ?_⟩
    have : idx s.nodes (nodeAt s p) = none := by unfold idx; rw [if_neg ha]
    simp [hp, this]
structure GoodAt (s : TScene) (i : Nat) (y : TNode) : Prop where
  ok : impl_NodeOk y = some true
  at' : nodeAt s y.id = (i : Int)
  par : y.parent = 0 ∨ ∃ z, idx s.nodes (nodeAt s y.parent) = some z ∧ z.group = true
  dep : ∃ d, impl_DepthOf s y.id = some d ∧ tin d 1 4 = true
theorem sceneOk_iff {s : TScene} (h : RowsS s) : impl_SceneOk s = some true ↔ s.nodes.length ≤ 8 ∧ ∀ (i : Nat) (hi : i < s.nodes.length), GoodAt s i s.nodes[i] := by
  have hn := h.n
  unfold impl_SceneOk
  by_cases h8 : (s.nodes.length : Int) ≤ 8
  case neg => rw [ilf (by omega), cnd_false]; simp; omega
  rw [ilt h8, cnd_true]
  have step : ∀ (i : Nat) (hi : i < s.nodes.length), ∃ b : Bool, impl_SceneOk_l0 s (i : Int) = cnd b (some (.inl (IntKind.i64.wrap ((i : Int) + 1)))) (some (.inr (.inr ()))) ∧ (b = true ↔ GoodAt s i s.nodes[i]) := by
    intro i hi
    obtain ⟨n1, nb, n2⟩ := s_NodeOk (h.d _ (List.getElem_mem hi))
    obtain ⟨v, v1, v2⟩ := s_DepthOf hn (s.nodes[i]).id
    obtain ⟨pb, p1, p2⟩ := isParent_t hn (s.nodes[i]).parent
    rw [impl_SceneOk_l0, ilf (by omega), cnd_false, idx_nat hi, bnd_some, n1, n2, bnd_some]
    cases nb with
    | false => exact ⟨false, rfl, by simp; intro g; have := g.ok; rw [n1, n2] at this; cases this⟩
    | true =>
      rw [cnd_true, m_impl_NodeAt hn, bnd_some]
      by_cases ha : nodeAt s (s.nodes[i]).id = (i : Int)
      case neg => rw [iqf ha]; exact ⟨false, rfl, by simp; intro g; exact ha g.at'⟩
      rw [ha, iqt, cnd_true, p1, bnd_some]
      cases pb with
      | false => exact ⟨false, rfl, by simp; intro g; have := p2.2 g.par; cases this⟩
      | true =>
        rw [cnd_true, v1, bnd_some, m_impl_inRange, bnd_some]
        refine ⟨tin v 1 4, ?_, fun ht => ⟨by rw [n1, n2], ha, p2.1 rfl, v, v1, ht⟩, fun g => ?_⟩
        · cases tin v 1 4 <;> rfl
        · obtain ⟨d, d1, d2⟩ := g.dep
          rw [v1] at d1; cases d1; exact d2
  have hc : ∀ (i : Nat), ∃ b : Bool, ∀ hi : i < s.nodes.length, impl_SceneOk_l0 s (i : Int) = cnd b (some (.inl (IntKind.i64.wrap ((i : Int) + 1)))) (some (.inr (.inr ()))) ∧ (b = true ↔ GoodAt s i s.nodes[i]) := by
    intro i
    by_cases hi : i < s.nodes.length
    · obtain ⟨b, h1⟩ := step i hi; exact ⟨b, fun _ => h1⟩
    · exact ⟨false, fun h => absurd h hi⟩
  let B : Nat → Bool := fun i => (hc i).choose
  have hB : ∀ i (hi : i < s.nodes.length), impl_SceneOk_l0 s (i : Int) = cnd (B i) (some (.inl (IntKind.i64.wrap ((i : Int) + 1)))) (some (.inr (.inr ()))) ∧ (B i = true ↔ GoodAt s i s.nodes[i]) := fun i hi => (hc i).choose_spec hi
  have k1 := loopI_all (f := impl_SceneOk_l0 s) s.nodes.length B (by omega) (fun i hi => (hB i hi).1) (by rw [impl_SceneOk_l0, ilt (by omega), cnd_true])
  rw [k1]
  have e : (List.range s.nodes.length).all B = true ↔ ∀ (i : Nat) (hi : i < s.nodes.length), GoodAt s i s.nodes[i] := by
    rw [List.all_eq_true]
    exact ⟨fun k i hi => (hB i hi).2.1 (k i (List.mem_range.2 hi)), fun k i hi => (hB i (List.mem_range.1 hi)).2.2 (k i (List.mem_range.1 hi))⟩
  cases hA : (List.range s.nodes.length).all B with
  | true => simp only [if_true, bnd_some]; exact ⟨fun _ => ⟨by omega, e.1 hA⟩, fun _ => trivial⟩
  | false =>
    simp only [Bool.false_eq_true, if_false, bnd_some]
    refine ⟨fun hx => by simp at hx, fun hx => ?_⟩
    rw [e.2 hx.2] at hA; cases hA
theorem idx_toNat {α : Type} {l : List α} {i : Int} {x : α} (h : idx l i = some x) : 0 ≤ i ∧ i.toNat < l.length ∧ l[i.toNat]? = some x := by
  unfold idx at h
  split at h
  · rename_i h0
    exact ⟨h0, (List.getElem?_eq_some_iff.1 h).1, h⟩
  · cases h
theorem nodeOk_par {x : TNode} (h : impl_NodeOk x = some true) : tin x.parent 0 99 = true ∧ x.id ≠ x.parent ∧ tin x.id 1 99 = true := by
  revert h
  unfold impl_NodeOk
  simp only [m_impl_inRange, bnd_some]
  cases tin x.id 1 99 <;> simp only [cnd_true, cnd_false] <;> try (intro h; cases h)
  cases tin x.parent 0 99 <;> simp only [cnd_true, cnd_false] <;> try (intro h; cases h)
  by_cases he : x.id = x.parent
  · rw [he, iqt]; intro h; cases h
  · intro _; exact ⟨trivial, he, trivial⟩
/-! ## Masks drawn are right -/
/-! ## Rows: deleted from, put into -/
theorem slc_front {α : Type} {l n : List α} (h : l.take n.length = n) : slc l 0 (n.length : Int) = some n := by
  have h1 : n.length ≤ l.length := by
    have := congrArg List.length h
    rw [List.length_take] at this; omega
  unfold slc
  rw [if_pos (by omega)]
  simp only [Int.sub_zero, Int.toNat_natCast, Int.toNat_zero, List.drop_zero]
  rw [h]
theorem slc_some {α : Type} {l : List α} {a b : Nat} (h1 : a ≤ b) (h2 : b ≤ l.length) : slc l (a : Int) (b : Int) = some ((l.drop a).take (b - a)) := by
  unfold slc
  rw [if_pos (by omega)]
  have : ((b : Int) - (a : Int)).toNat = b - a := by omega
  simp only [this, Int.toNat_natCast]
theorem clr_take {α : Type} {l : List α} {a k : Nat} {z : α} (h : a ≤ l.length) : (clrL l a k z).take a = l.take a := by
  unfold clrL
  rw [List.append_assoc, List.take_append_of_le_length (by rw [List.length_take]; omega), List.take_take, Nat.min_self]
/-! ## Caches: right ones, remembered, recalled, forgotten -/
/-! ## Deleting by a test; what is first -/
theorem fst_cases {α : Type} (q : α → Bool) (l : List α) : (fst q l = -1 ∧ ∀ x ∈ l, q x = false) ∨ ∃ (i : Nat) (hi : i < l.length), fst q l = (i : Int) ∧ q l[i] = true ∧ ∀ (k : Nat) (hk : k < i), q l[k] = false := by
  unfold fst
  cases h : l.findIdx? q with
  | none => exact .inl ⟨rfl, List.findIdx?_eq_none_iff.1 h⟩
  | some i =>
    obtain ⟨hi, h1, h2⟩ := List.findIdx?_eq_some_iff_getElem.1 h
    exact .inr ⟨i, hi, rfl, h1, fun k hk => by simpa using h2 k hk⟩
theorem filter_take_succ {α : Type} {p : α → Bool} {l : List α} {j : Nat} (hj : j < l.length) : (l.take (j + 1)).filter p = (l.take j).filter p ++ (if p l[j] then [l[j]] else []) := by
  rw [List.take_add_one, List.getElem?_eq_getElem hj, List.filter_append]
  congr 1
  simp only [Option.toList, List.filter_cons, List.filter_nil]
theorem m_Index {l : List Int} {x : Int} (h : l.length ≤ 1048576) : slices_Index_int l x = some (fst (fun y => ieq x y) l) := by
  unfold slices_Index_int
  rw [loopI_index (l := l) (fun y => ieq x y) (.inl ()) .inr (by omega) (fun i hi => ?_) ?_]
  · unfold fst
    cases List.findIdx? (fun y => ieq x y) l <;> rfl
  · rw [slices_Index_int_l0, ilt (by omega), cnd_true]
  · rw [slices_Index_int_l0, ilf (by omega), cnd_false, idx_nat hi, bnd_some]
def isIn (x : Int) (l : List Int) : Bool := l.any fun y => ieq x y
theorem m_Contains {l : List Int} {x : Int} (h : l.length ≤ 1048576) : slices_Contains_int l x = some (isIn x l) := by
  unfold slices_Contains_int
  rw [m_Index h, bnd_some]
  congr 1
  unfold isIn
  rcases fst_cases (fun y => ieq x y) l with ⟨h1, h2⟩ | ⟨i, hi, h1, h2, _⟩
  · rw [h1, ilf (by omega)]
    symm
    rw [List.any_eq_false]
    intro y hy; simpa using h2 y hy
  · rw [h1, ilt (by omega)]
    symm
    rw [List.any_eq_true]
    exact ⟨_, List.getElem_mem hi, h2⟩
theorem idxf_DropNode {l : List TNode} {ids : List Int} (h : ids.length ≤ 1048576) (hn : l.length ≤ 1048576) : slices_IndexFunc_Node_DropNode_1 l ids = some (fst (fun k => isIn k.id ids) l) := by
  unfold slices_IndexFunc_Node_DropNode_1
  rw [loopI_index (l := l) (fun k => isIn k.id ids) (.inl ()) .inr (by omega) (fun i hi => ?_) ?_]
  · unfold fst
    cases List.findIdx? (fun k : TNode => isIn k.id ids) l <;> rfl
  · rw [slices_IndexFunc_Node_DropNode_1_l0, ilt (by omega), cnd_true]
  · rw [slices_IndexFunc_Node_DropNode_1_l0, ilf (by omega), cnd_false, idx_nat hi, bnd_some, impl_DropNode_1, m_Contains h, bnd_some, bnd_some]
theorem delf_DropNode {l : List TNode} {ids : List Int} (h : ids.length ≤ 1048576) (hn : l.length ≤ 1048576) :
    ∃ l', slices_DeleteFunc_Node_DropNode_1 l ids = some (l.filter (fun k => !isIn k.id ids), l') ∧ l'.take (l.filter (fun k => !isIn k.id ids)).length = l.filter (fun k => !isIn k.id ids) ∧ l'.length = l.length := by
  unfold slices_DeleteFunc_Node_DropNode_1
  rw [idxf_DropNode h hn, bnd_some]
  rcases fst_cases (fun k : TNode => isIn k.id ids) l with ⟨h1, h2⟩ | ⟨i0, hi0, h1, h2, h3⟩
  · have e : l.filter (fun k => !isIn k.id ids) = l := List.filter_eq_self.2 fun a ha => by simp [h2 a ha]
    rw [h1, iqt, cnd_true, e]
    exact ⟨l, rfl, List.take_length, rfl⟩
  rw [h1, iqf (by omega), cnd_false, wr_in (by omega)]
  have st : (l.take (i0 + 1)).filter (fun k => !isIn k.id ids) = l.take i0 := by
    rw [filter_take_succ hi0, h2]
    simp only [Bool.not_true, Bool.false_eq_true, if_false, List.append_nil]
    refine List.filter_eq_self.2 fun a ha => ?_
    obtain ⟨k, hk, rfl⟩ := List.getElem_of_mem ha
    rw [List.length_take] at hk
    rw [List.getElem_take, h3 k (by omega)]; rfl
  obtain ⟨⟨y1, y2⟩, r1, i, q1, q2, q3, q4⟩ := loopI_tot (f := slices_DeleteFunc_Node_DropNode_1_l0 ids)
    (fun s => ∃ j i : Nat, s.1 = (j : Int) ∧ s.2.1 = (i : Int) ∧ i < j ∧ j ≤ l.length ∧ s.2.2.length = l.length ∧ s.2.2.take i = (l.take j).filter (fun k => !isIn k.id ids) ∧ s.2.2.drop j = l.drop j)
    (fun r => ∃ i : Nat, r.2 = (i : Int) ∧ i ≤ l.length ∧ r.1.take i = l.filter (fun k => !isIn k.id ids) ∧ r.1.length = l.length) (fun s => (l.length - s.1).toNat)
    (by
      rintro ⟨x6, x7, x8⟩ ⟨j, i, rfl, rfl, hij, hj, hl, ht, hd⟩
      dsimp only at hl ht hd ⊢
      rw [slices_DeleteFunc_Node_DropNode_1_l0]
      by_cases hj2 : l.length ≤ j
      · right
        have : j = l.length := by omega
        subst this
        rw [ilt (by omega), cnd_true]
        exact ⟨_, rfl, i, rfl, by omega, by rw [ht, List.take_length], hl⟩
      left
      have hj3 : j < l.length := by omega
      have hx : x8[j]'(by omega) = l[j] := by
        have h1 : (x8.drop j)[0]? = (l.drop j)[0]? := by rw [hd]
        rw [List.getElem?_drop, List.getElem?_drop, Nat.add_zero, List.getElem?_eq_getElem (by omega), List.getElem?_eq_getElem hj3] at h1
        exact Option.some.inj h1
      rw [ilf (by omega), cnd_false, idx_nat (by omega), bnd_some, hx, impl_DropNode_1, m_Contains h, bnd_some, bnd_some]
      have hd1 : x8.drop (j + 1) = l.drop (j + 1) := by
        have := congrArg (List.drop 1) hd
        rwa [List.drop_drop, List.drop_drop] at this
      cases hg : isIn l[j].id ids with
      | true =>
        rw [cnd_true, wr_in (by omega)]
        refine ⟨_, rfl, ⟨j + 1, i, by simp, rfl, by omega, by omega, hl, ?_, hd1⟩, by (try dsimp only) <;> omega⟩
        try dsimp only
        rw [filter_take_succ hj3, hg, ht]; simp
      | false =>
        rw [cnd_false, idx_nat (by omega), bnd_some, nam_eq, wr_in (by omega), wr_in (by omega)]
        refine ⟨_, rfl, ⟨j + 1, i + 1, by simp, by simp, by omega, by omega, by (try dsimp only) <;> rw [List.length_set] <;> exact hl, ?_, ?_⟩, by (try dsimp only) <;> omega⟩
        · try dsimp only
          rw [filter_take_succ hj3, hg, ← ht, Int.toNat_natCast, List.take_add_one, List.getElem?_set_self (by omega), List.take_set_of_le (Nat.le_refl _)]; simp
        · try dsimp only
          rw [Int.toNat_natCast, List.drop_set_of_lt (by omega)]; exact hd1)
    (x := ((i0 : Int) + 1, (i0 : Int), l)) ⟨i0 + 1, i0, by simp, rfl, by omega, by omega, rfl, by (try dsimp only) <;> rw [st], rfl⟩
  dsimp only at q1 q3 q4
  subst q1
  rw [r1, bnd_some]
  try dsimp only
  rw [slc_some (by omega) (Nat.le_refl _), bnd_some, nam_eq, Int.toNat_natCast]
  have hlen : (l.filter (fun k => !isIn k.id ids)).length = i := by rw [← q3, List.length_take]; omega
  have hcl : ((clrL y1 i ((y1.drop i).take (y1.length - i)).length (⟨0, 0, false, ⟨0, 0, 0, 0, 0, 0⟩, ⟨[], []⟩, false, 0, [], ⟨0, ⟨0, 0, 0, 0⟩, ⟨0, 0, 0, 0⟩, ⟨0, 0⟩, ⟨0, 0⟩⟩, 0, 0, ⟨[], []⟩⟩ : TNode)).take i) = l.filter (fun k => !isIn k.id ids) := by
    rw [clr_take (by omega), q3]
  have hcn : (clrL y1 i ((y1.drop i).take (y1.length - i)).length (⟨0, 0, false, ⟨0, 0, 0, 0, 0, 0⟩, ⟨[], []⟩, false, 0, [], ⟨0, ⟨0, 0, 0, 0⟩, ⟨0, 0, 0, 0⟩, ⟨0, 0⟩, ⟨0, 0⟩⟩, 0, 0, ⟨[], []⟩⟩ : TNode)).length = l.length := by
    rw [clrL_len, q4]
    rw [List.length_take, List.length_drop]; omega
  have s5 := slc_front (l := clrL y1 i ((y1.drop i).take (y1.length - i)).length (⟨0, 0, false, ⟨0, 0, 0, 0, 0, 0⟩, ⟨[], []⟩, false, 0, [], ⟨0, ⟨0, 0, 0, 0⟩, ⟨0, 0, 0, 0⟩, ⟨0, 0⟩, ⟨0, 0⟩⟩, 0, 0, ⟨[], []⟩⟩ : TNode)) (n := l.filter (fun k => !isIn k.id ids)) (by rw [hlen]; exact hcl)
  rw [hlen] at s5
  rw [s5, bnd_some]
  exact ⟨_, rfl, by rw [hlen]; exact hcl, hcn⟩

/-! ## Scenes as maps of parents -/
def upOf (s : TScene) (id : Int) : Option Int := (idx s.nodes (nodeAt s id)).map (·.parent)
def dl (p : Int → Option Int) : Nat → Int → Int → Int
  | 0, _, _ => 0
  | f + 1, id, n => match p id with
    | none => 0
    | some q => if q = 0 then n else dl p f q (n + 1)
def dpt (p : Int → Option Int) (id : Int) : Int := if id = 0 then 0 else dl p 8 id 1
def ct (p : Int → Option Int) : Nat → Int → Int → Bool
  | 0, id, top => ieq id top
  | f + 1, id, top => if ieq id top then true else match p id with
    | none => false
    | some q => ct p f q top
theorem idx_at {s : TScene} {id : Int} : (0 ≤ nodeAt s id ∧ ∃ x, idx s.nodes (nodeAt s id) = some x ∧ upOf s id = some x.parent ∧ x.id = id ∧ x ∈ s.nodes) ∨ (nodeAt s id < 0 ∧ upOf s id = none ∧ ∀ x ∈ s.nodes, x.id ≠ id) := by
  rcases fst_cases (fun k : TNode => ieq k.id id) s.nodes with ⟨h1, h2⟩ | ⟨i, hi, h1, h2, _⟩
  · right
    have h0 : nodeAt s id = -1 := h1
    refine ⟨by omega, ?_, fun x hx e => ?_⟩
    · unfold upOf; rw [h0]; rfl
    · have := h2 x hx
      rw [e, iqt] at this; cases this
  · left
    have h0 : nodeAt s id = (i : Int) := h1
    refine ⟨by omega, s.nodes[i], by rw [h0, idx_nat hi], ?_, by simpa [ieq] using h2, List.getElem_mem hi⟩
    unfold upOf; rw [h0, idx_nat hi]; rfl
theorem m_DepthOf {s : TScene} (h : s.nodes.length ≤ 1048576) (id : Int) : impl_DepthOf s id = some (dpt (upOf s) id) := by
  unfold impl_DepthOf dpt
  by_cases hid : id = 0
  · rw [hid, iqt, cnd_true, if_pos rfl]
  rw [iqf hid, cnd_false, if_neg hid]
  have key : ∀ (f : Nat) (id n : Int), n + (f : Int) = 9 → 1 ≤ n → ∃ q, loopI (impl_DepthOf_l0 s) (id, n) = some q ∧ outI q = dl (upOf s) f id n := by
    intro f
    induction f with
    | zero =>
      intro id n hn h1
      have : n = 9 := by omega
      subst this
      exact ⟨.inr (), loopI_end (by rw [impl_DepthOf_l0, ilf (by omega), cnd_false]), rfl⟩
    | succ f ih =>
      intro id n hn h1
      rcases idx_at (s := s) (id := id) with ⟨ha, x, hx, hp, _⟩ | ⟨ha, hp, _⟩
      · by_cases h0 : x.parent = 0
        · refine ⟨.inl n, loopI_end (by rw [impl_DepthOf_l0, ilt (by omega), cnd_true, m_impl_NodeAt h, bnd_some, ilt ha, cnd_true, hx, bnd_some, h0, iqt, cnd_true]), ?_⟩
          rw [dl, hp]; simp [h0, outI]
        · obtain ⟨q, q1, q2⟩ := ih x.parent (n + 1) (by omega) (by omega)
          have e1 : impl_DepthOf_l0 s (id, n) = some (.inl (x.parent, n + 1)) := by
            rw [impl_DepthOf_l0, ilt (by omega), cnd_true, m_impl_NodeAt h, bnd_some, ilt ha, cnd_true, hx, bnd_some, iqf h0, cnd_false, wr_in (by omega)]
          refine ⟨q, by rw [loopI_go e1]; exact q1, ?_⟩
          rw [q2, dl, hp]; simp [h0]
      · refine ⟨.inl 0, loopI_end (by rw [impl_DepthOf_l0, ilt (by omega), cnd_true, m_impl_NodeAt h, bnd_some, ilf (by omega), cnd_false]), ?_⟩
        rw [dl, hp]; rfl
  obtain ⟨q, q1, q2⟩ := key 8 id 1 (by omega) (by omega)
  rw [q1]
  cases q with
  | inl y => simp only [outI] at q2; rw [← q2]; rfl
  | inr u => simp only [outI] at q2; rw [← q2]; rfl
theorem m_comesTo {s : TScene} (h : s.nodes.length ≤ 1048576) (a b : Int) : impl_Scene_comesTo s a b = some (ct (upOf s) 8 a b) := by
  unfold impl_Scene_comesTo
  have key : ∀ (f : Nat) (id n : Int), n + (f : Int) = 8 → 0 ≤ n → ∃ q, loopI (impl_Scene_comesTo_l0 s b) (id, n) = some q ∧ ieq q b = ct (upOf s) f id b := by
    intro f
    induction f with
    | zero =>
      intro id n hn h1
      exact ⟨id, loopI_end (by rw [impl_Scene_comesTo_l0, ilt (by omega), cnd_true]), rfl⟩
    | succ f ih =>
      intro id n hn h1
      by_cases he : id = b
      · exact ⟨id, loopI_end (by rw [impl_Scene_comesTo_l0, ilf (by omega), cnd_false, m_impl_NodeAt h, bnd_some, he, iqt, cnd_true]), by rw [ct, he, iqt, if_pos rfl]⟩
      rcases idx_at (s := s) (id := id) with ⟨ha, x, hx, hp, _⟩ | ⟨ha, hp, _⟩
      · obtain ⟨q, q1, q2⟩ := ih x.parent (n + 1) (by omega) (by omega)
        have e1 : impl_Scene_comesTo_l0 s b (id, n) = some (.inl (x.parent, n + 1)) := by
          rw [impl_Scene_comesTo_l0, ilf (by omega), cnd_false, m_impl_NodeAt h, bnd_some, iqf he, cnd_false, ilt ha, cnd_true, hx, bnd_some, wr_in (by omega)]
        refine ⟨q, by rw [loopI_go e1]; exact q1, ?_⟩
        rw [q2, ct, iqf he, hp]; rfl
      · refine ⟨id, loopI_end (by rw [impl_Scene_comesTo_l0, ilf (by omega), cnd_false, m_impl_NodeAt h, bnd_some, iqf he, cnd_false, ilf (by omega), cnd_false]), ?_⟩
        rw [ct, iqf he, hp]; rfl
  obtain ⟨q, q1, q2⟩ := key 8 a 0 (by omega) (by omega)
  rw [q1, bnd_some, q2]
theorem m_Under {s : TScene} (h : s.nodes.length ≤ 1048576) (a b : Int) : spec_l15Under s a b = some (ct (upOf s) 8 a b) := by
  unfold spec_l15Under
  have key : ∀ (f : Nat) (id n : Int), n + (f : Int) = 8 → 0 ≤ n → ∃ q : Bool ⊕ Unit, loopI (spec_l15Under_l0 s b) (id, n) = some q ∧ (match q with | .inl y => y | .inr _ => false) = ct (upOf s) f id b := by
    intro f
    induction f with
    | zero =>
      intro id n hn h1
      have : n = 8 := by omega
      subst this
      by_cases he : id = b
      · exact ⟨.inl true, loopI_end (by rw [spec_l15Under_l0, ilt (by omega), cnd_true, he, iqt, cnd_true]), by rw [ct, he, iqt]⟩
      rcases idx_at (s := s) (id := id) with ⟨ha, x, hx, hp, _⟩ | ⟨ha, hp, _⟩
      · have e1 : spec_l15Under_l0 s b (id, 8) = some (.inl (x.parent, 9)) := by
          rw [spec_l15Under_l0, ilt (by omega), cnd_true, iqf he, cnd_false, m_spec_NodeAt h, bnd_some, ilt ha, cnd_true, hx, bnd_some, wr_in (by omega)]; rfl
        refine ⟨.inr (), by rw [loopI_go e1]; exact loopI_end (by rw [spec_l15Under_l0, ilf (by omega), cnd_false]), ?_⟩
        rw [ct, iqf he]
      · refine ⟨.inl false, loopI_end (by rw [spec_l15Under_l0, ilt (by omega), cnd_true, iqf he, cnd_false, m_spec_NodeAt h, bnd_some, ilf (by omega), cnd_false]), ?_⟩
        rw [ct, iqf he]
    | succ f ih =>
      intro id n hn h1
      by_cases he : id = b
      · exact ⟨.inl true, loopI_end (by rw [spec_l15Under_l0, ilt (by omega), cnd_true, he, iqt, cnd_true]), by rw [ct, he, iqt]; rfl⟩
      rcases idx_at (s := s) (id := id) with ⟨ha, x, hx, hp, _⟩ | ⟨ha, hp, _⟩
      · obtain ⟨q, q1, q2⟩ := ih x.parent (n + 1) (by omega) (by omega)
        have e1 : spec_l15Under_l0 s b (id, n) = some (.inl (x.parent, n + 1)) := by
          rw [spec_l15Under_l0, ilt (by omega), cnd_true, iqf he, cnd_false, m_spec_NodeAt h, bnd_some, ilt ha, cnd_true, hx, bnd_some, wr_in (by omega)]
        refine ⟨q, by rw [loopI_go e1]; exact q1, ?_⟩
        rw [q2, ct, iqf he, hp]; rfl
      · refine ⟨.inl false, loopI_end (by rw [spec_l15Under_l0, ilt (by omega), cnd_true, iqf he, cnd_false, m_spec_NodeAt h, bnd_some, ilf (by omega), cnd_false]), ?_⟩
        rw [ct, iqf he, hp]; rfl
  obtain ⟨q, q1, q2⟩ := key 8 a 0 (by omega) (by omega)
  rw [q1, bnd_some, ← q2]
  cases q <;> rfl
def underOf (s : TScene) (id : Int) : List Int := if 0 ≤ nodeAt s id then (s.nodes.filter fun x => ct (upOf s) 8 x.id id).map (·.id) else []
theorem m_impl_UnderOf {s : TScene} (h : s.nodes.length ≤ 1048576) (id : Int) : impl_UnderOf s id = some (underOf s id) := by
  unfold impl_UnderOf underOf
  rw [m_impl_NodeAt h, bnd_some]
  by_cases ha : 0 ≤ nodeAt s id
  case neg => rw [ilf (by omega), cnd_false, if_neg ha]
  rw [ilt ha, cnd_true, if_pos ha]
  have key := loopI_n (f := impl_UnderOf_l0 s id) (fun i => (((s.nodes.take i).filter fun x => ct (upOf s) 8 x.id id).map (·.id), (i : Int))) s.nodes.length (r := (s.nodes.filter fun x => ct (upOf s) 8 x.id id).map (·.id)) (fun i hi => ?_) ?_
  · have e : loopI (impl_UnderOf_l0 s id) ([], 0) = some ((s.nodes.filter fun x => ct (upOf s) 8 x.id id).map (·.id)) := key
    rw [e]; rfl
  · try dsimp only
    have kl : (((s.nodes.take i).filter fun x => ct (upOf s) 8 x.id id).map (·.id)).length ≤ s.nodes.length := by
      rw [List.length_map]
      have h1 := List.length_filter_le (fun x : TNode => ct (upOf s) 8 x.id id) (s.nodes.take i)
      rw [List.length_take] at h1; omega
    rw [filter_take_succ hi, List.map_append, impl_UnderOf_l0, ilf (by omega), cnd_false, idx_nat hi, bnd_some, m_comesTo h, bnd_some, wr_in (by omega)]
    cases ct (upOf s) 8 (s.nodes[i]).id id with
    | true => rw [cnd_true, chkP_pos (by omega), nam_eq]; rfl
    | false => rw [cnd_false]; simp
  · try dsimp only
    rw [impl_UnderOf_l0, ilt (by omega), cnd_true, List.take_length]
theorem dl_same {p p' : Int → Option Int} {id : Int} (hp : ∀ z, z ≠ id → p z = p' z) : ∀ (f : Nat) (y n : Int), ct p f y id = false → dl p f y n = dl p' f y n
  | 0, _, _, _ => rfl
  | f + 1, y, n, h => by
    rw [ct] at h
    by_cases he : y = id
    · rw [he, iqt] at h; cases h
    rw [iqf he] at h
    simp only [Bool.false_eq_true, if_false] at h
    rw [dl, dl, ← hp y he]
    cases hq : p y with
    | none => rfl
    | some q =>
      rw [hq] at h
      dsimp only at h ⊢
      by_cases h0 : q = 0
      · rw [if_pos h0, if_pos h0]
      · rw [if_neg h0, if_neg h0]; exact dl_same hp f q (n + 1) h
theorem dpt_same {p p' : Int → Option Int} {id y : Int} (hp : ∀ z, z ≠ id → p z = p' z) (h : ct p 8 y id = false) : dpt p y = dpt p' y := by
  unfold dpt
  by_cases h0 : y = 0
  · rw [if_pos h0, if_pos h0]
  · rw [if_neg h0, if_neg h0]; exact dl_same hp 8 y 1 h
theorem nodup_at {s : TScene} (hn : (s.nodes.map (·.id)).Nodup) {i : Nat} (hi : i < s.nodes.length) : nodeAt s s.nodes[i].id = (i : Int) := by
  unfold nodeAt
  rw [fst_eq hi (by simp [ieq])]
  intro k hk
  have : s.nodes[k].id ≠ s.nodes[i].id := fun e => by
    have h1 : (s.nodes.map (·.id))[k]'(by rw [List.length_map]; omega) = (s.nodes.map (·.id))[i]'(by rw [List.length_map]; omega) := by simpa using e
    have := (List.getElem_inj hn).1 h1
    omega
  simp [ieq, this]
theorem at_mem {s : TScene} (hn : (s.nodes.map (·.id)).Nodup) {x : TNode} (hx : x ∈ s.nodes) : idx s.nodes (nodeAt s x.id) = some x := by
  obtain ⟨i, hi, rfl⟩ := List.getElem_of_mem hx
  rw [nodup_at hn hi, idx_nat hi]
/-- Right scenes, by parents. -/
theorem sceneOk_par {s : TScene} (h : RowsS s) : impl_SceneOk s = some true ↔ s.nodes.length ≤ 8 ∧ (s.nodes.map (·.id)).Nodup ∧ ∀ x ∈ s.nodes, impl_NodeOk x = some true ∧ (x.parent = 0 ∨ ∃ z ∈ s.nodes, z.id = x.parent ∧ z.group = true) ∧ tin (dpt (upOf s) x.id) 1 4 = true := by
  have hn := h.n
  rw [sceneOk_iff h]
  refine and_congr Iff.rfl ⟨fun hg => ?_, fun ⟨nd, hx⟩ i hi => ?_⟩
  · have nd : (s.nodes.map (·.id)).Nodup := by
      unfold List.Nodup
      rw [List.pairwise_iff_getElem]
      intro i j hi hj hij e
      rw [List.length_map] at hi hj
      simp only [List.getElem_map] at e
      have a := (hg i hi).at'
      have b := (hg j hj).at'
      rw [e, b] at a
      omega
    refine ⟨nd, fun x hx => ?_⟩
    obtain ⟨i, hi, rfl⟩ := List.getElem_of_mem hx
    have g := hg i hi
    refine ⟨g.ok, ?_, ?_⟩
    · rcases g.par with h0 | ⟨z, z1, z2⟩
      · exact .inl h0
      · right
        rcases idx_at (s := s) (id := s.nodes[i].parent) with ⟨_, y, y1, _, y3, y4⟩ | ⟨ha, _, _⟩
        · have := Option.some.inj (y1.symm.trans z1)
          subst this
          exact ⟨_, y4, y3, z2⟩
        · unfold idx at z1; rw [if_neg (by omega)] at z1; cases z1
    · obtain ⟨d, d1, d2⟩ := g.dep
      rw [m_DepthOf hn] at d1; cases d1; exact d2
  · obtain ⟨x1, x2, x3⟩ := hx _ (List.getElem_mem hi)
    refine ⟨x1, nodup_at nd hi, ?_, _, m_DepthOf hn _, x3⟩
    rcases x2 with h0 | ⟨z, z1, z2, z3⟩
    · exact .inl h0
    · exact .inr ⟨z, by rw [← z2]; exact at_mem nd z1, z3⟩

/-! ## A node placed -/
section
variable {s : TScene} {id p b : Int} {k : Nat}
end

/-! ## A node placed: the program and the reference -/
section
variable {s : TScene} {id p b : Int} {k : Nat}
theorem under_len (hn : s.nodes.length ≤ 1048576) : (underOf s id).length ≤ 1048576 := by
  unfold underOf; split
  · rw [List.length_map]; have := List.length_filter_le (fun x : TNode => ct (upOf s) 8 x.id id) s.nodes; omega
  · simp
end

/-! ## FnPlaces: the law -/
section
variable {s : TScene} {id p b : Int} {k : Nat}
end
/-! ## FnCreates: what is drawn is right -/
theorem pointR {c : TL01Cur} (h : CurOk c) : ∃ p c', spec_l04Point c = some (p, c') ∧ CurOk c' ∧ pointOk p = true := by
  obtain ⟨r, c1, e1, r0, r1, k1⟩ := below_ok h (n := 3600) (by omega)
  obtain ⟨s, c2, e2, s0, s1, k2⟩ := below_ok k1 (n := 3600) (by omega)
  unfold spec_l04Point
  rw [e1, bnd_some]
  try dsimp only
  rw [e2, bnd_some, wr_in (by omega), wr_in (by omega)]
  refine ⟨_, c2, rfl, k2, ?_⟩
  unfold pointOk
  rw [Bool.and_eq_true, tin_t, tin_t]
  try dsimp only
  omega
/-- Points drawn, as many as a verb needs; all in range. -/
theorem ptsR {f : Int × List Int × Int × Int × List TPoint → Option ((Int × List Int × Int × Int × List TPoint) ⊕ (List Int × Int × Int × List TPoint))} {n : Int} (hn : n ≤ 3)
    (hf : ∀ (k : Int) (b : List Int) (i h : Int) (ps : List TPoint), f (k, b, i, h, ps) = bnd (some n) fun v => cnd (ile v k) (some (.inr (b, i, h, ps))) (bnd (spec_l04Point ⟨b, i, h⟩) fun (w, c) => chkP ((List.length ps + 1) * 16 ≤ 17592186044416) (nam ((ps ++ [w]) : List TPoint) fun l => some (.inl (IntKind.i64.wrap (k + 1), c.b, c.i, c.h, l)))))
    {c : TL01Cur} (hc : CurOk c) {ps : List TPoint} (hl : ps.length ≤ 100) (hp : ∀ q ∈ ps, pointOk q = true) : ∃ b i h ps', loopI f (0, c.b, c.i, c.h, ps) = some (b, i, h, ps') ∧ CurOk ⟨b, i, h⟩ ∧ (ps'.length : Int) = (ps.length : Int) + max n 0 ∧ ∀ q ∈ ps', pointOk q = true := by
  obtain ⟨r, h1, h2⟩ := loopI_tot (f := f) (fun s => 0 ≤ s.1 ∧ s.1 ≤ max n 0 ∧ CurOk ⟨s.2.1, s.2.2.1, s.2.2.2.1⟩ ∧ (s.2.2.2.2.length : Int) = (ps.length : Int) + s.1 ∧ ∀ q ∈ s.2.2.2.2, pointOk q = true) (fun r => CurOk ⟨r.1, r.2.1, r.2.2.1⟩ ∧ (r.2.2.2.length : Int) = (ps.length : Int) + max n 0 ∧ ∀ q ∈ r.2.2.2, pointOk q = true) (fun s => (max n 0 - s.1).toNat)
    (by
      rintro ⟨k, b, i, h, qs⟩ ⟨k0, k1, k2, k3, k4⟩
      dsimp only at k0 k1 k2 k3 k4
      rw [hf, bnd_some]
      by_cases hk : n ≤ k
      · right
        rw [ilt hk, cnd_true]
        exact ⟨_, rfl, k2, by (try dsimp only) <;> omega, k4⟩
      · left
        obtain ⟨p, c', e, kc, pk⟩ := pointR k2
        rw [ilf (by omega), cnd_false, e, bnd_some]
        try dsimp only
        rw [chkP_pos (by omega), nam_eq, wr_in (by omega)]
        refine ⟨_, rfl, ⟨by (try dsimp only) <;> omega, by (try dsimp only) <;> omega, kc, by simp <;> omega, fun q hq => ?_⟩, by (try dsimp only) <;> omega⟩
        rcases List.mem_append.1 hq with hq | hq
        · exact k4 q hq
        · rw [List.mem_singleton] at hq; rw [hq]; exact pk)
    (x := (0, c.b, c.i, c.h, ps)) ⟨by omega, by (try dsimp only) <;> omega, hc, by (try dsimp only) <;> omega, hp⟩
  obtain ⟨b, i, h, ps'⟩ := r
  exact ⟨b, i, h, ps', h1, h2.1, h2.2.1, h2.2.2⟩
def vgood (vs : List Int) : Prop := ∀ (i : Nat) (v : Int), vs[i]? = some v → 0 ≤ need v ∧ (i = 0 → v = 1) ∧ (0 < i → vs[i - 1]? = some 5 → v = 1)
def vsum (vs : List Int) : Int := (vs.map need).sum
theorem vsum_bd (vs : List Int) : -(vs.length : Int) ≤ vsum vs ∧ vsum vs ≤ 3 * (vs.length : Int) := by
  unfold vsum
  induction vs with
  | nil => simp
  | cons a l ih =>
    have := need_bd a
    simp only [List.map_cons, List.sum_cons, List.length_cons]
    omega
theorem vsum_app (vs : List Int) (v : Int) : vsum (vs ++ [v]) = vsum vs + need v := by
  unfold vsum
  rw [List.map_append, List.sum_append]
  simp
theorem vgood_app {vs : List Int} {v : Int} (h : vgood vs) (h0 : 0 ≤ need v) (h1 : vs.length = 0 → v = 1) (h2 : vs[vs.length - 1]? = some 5 → v = 1) : vgood (vs ++ [v]) := by
  intro i w hw
  by_cases hi : i < vs.length
  · rw [List.getElem?_append_left hi] at hw
    obtain ⟨a, b, c⟩ := h i w hw
    refine ⟨a, b, fun hi0 hq => c hi0 ?_⟩
    rwa [List.getElem?_append_left (by omega)] at hq
  · have hi2 : i = vs.length := by
      rcases Nat.lt_or_ge vs.length i with hlt | hge
      · rw [List.getElem?_eq_none (by simp; omega)] at hw; cases hw
      · omega
    subst hi2
    rw [List.getElem?_append_right (by omega), Nat.sub_self] at hw
    have : v = w := by simpa using hw
    subst this
    refine ⟨h0, fun e => h1 e, fun hi0 hq => h2 ?_⟩
    rwa [List.getElem?_append_left (by omega)] at hq
structure PathR (p : TPath) : Prop where
  lv : p.verbs.length ≤ 24
  lp : p.points.length ≤ 24
  g : vgood p.verbs
  s : vsum p.verbs = (p.points.length : Int)
  q : ∀ q ∈ p.points, pointOk q = true
theorem pathR_ok {p : TPath} (h : PathR p) : spec_PathOk p = some true := by
  unfold spec_PathOk
  have hv := h.lv
  have hp := h.lp
  rw [ilt (by omega), cnd_true, ilt (by omega), cnd_true]
  have key := loopI_n (f := spec_PathOk_l0 p) (fun i => (vsum (p.verbs.take i), (i : Int))) p.verbs.length (r := .inl (p.points.length : Int)) (fun i hi => ?_) ?_
  · have e : loopI (spec_PathOk_l0 p) (0, 0) = some (.inl (p.points.length : Int)) := key
    rw [e, bnd_some]
    have k2 := loopI_row (l := p.points) (f := spec_PathOk_l1 p (p.points.length : Int)) (fun q => tin q.x (-8388608) 8388608 && tin q.y (-8388608) 8388608) (by omega) (fun i hi => by rw [spec_PathOk_l1, ilf (by omega), cnd_false, idx_nat hi, bnd_some, t_PointOk, bnd_some]) (by rw [spec_PathOk_l1, ilt (by omega), cnd_true])
    have ha : (p.points.all fun q => tin q.x (-8388608) 8388608 && tin q.y (-8388608) 8388608) = true := List.all_eq_true.2 fun q hq => h.q q hq
    rw [ha, if_pos rfl] at k2
    simp only [k2, bnd_some, iqt]
  · obtain ⟨g1, g2, g3⟩ := h.g i p.verbs[i] (List.getElem?_eq_getElem hi)
    have hb := vsum_bd (p.verbs.take i)
    have hl : (p.verbs.take i).length ≤ 24 := by rw [List.length_take]; omega
    have nb := need_bd p.verbs[i]
    have e1 : vsum (p.verbs.take (i + 1)) = vsum (p.verbs.take i) + need p.verbs[i] := by
      rw [List.take_add_one, List.getElem?_eq_getElem hi]
      exact vsum_app _ _
    try dsimp only
    rw [spec_PathOk_l0, ilf (by omega), cnd_false, idx_nat hi, bnd_some, m_NeedOf, bnd_some, ilt g1, cnd_true, wr_in (n := vsum (p.verbs.take i) + need p.verbs[i]) (by omega), wr_in (n := (i : Int) + 1) (by omega), e1]
    by_cases h0 : i = 0
    · have : ieq (i : Int) 0 = true := by rw [h0]; rfl
      rw [this, cnd_true, g2 h0, iqt, cnd_true]; rfl
    · rw [iqf (by omega), cnd_false, wr_in (n := (i : Int) - 1) (by omega)]
      have hi1 : i - 1 < p.verbs.length := by omega
      have hc : (i : Int) - 1 = ((i - 1 : Nat) : Int) := by omega
      rw [hc, idx_nat hi1, bnd_some]
      by_cases h5 : p.verbs[i - 1] = 5
      · rw [h5, iqt, cnd_true, g3 (by omega) (by rw [List.getElem?_eq_getElem hi1, h5]), iqt, cnd_true]; rfl
      · rw [iqf h5, cnd_false]; rfl
  · try dsimp only
    rw [spec_PathOk_l0, ilt (by omega), cnd_true, List.take_length, h.s]
theorem pathR_nil : PathR ⟨[], []⟩ := ⟨by simp, by simp, fun i v h => by simp at h, rfl, fun q hq => by cases hq⟩
theorem rectR {b : TBox} (h : -8388608 ≤ b.x0 ∧ b.x1 ≤ 8388608 ∧ -8388608 ≤ b.y0 ∧ b.y1 ≤ 8388608 ∧ b.x0 < b.x1 ∧ b.y0 < b.y1) : ∃ p, spec_RectPath b = some p ∧ PathR p := by
  have t1 : tin b.x0 (-8388608) 8388608 = true := by rw [tin_t]; omega
  have t2 : tin b.x1 (-8388608) 8388608 = true := by rw [tin_t]; omega
  have t3 : tin b.y0 (-8388608) 8388608 = true := by rw [tin_t]; omega
  have t4 : tin b.y1 (-8388608) 8388608 = true := by rw [tin_t]; omega
  unfold spec_RectPath
  rw [m_spec_Empty, bnd_some, empty_f.2 ⟨h.2.2.2.2.1, h.2.2.2.2.2⟩, cnd_false, t_PointOk, t_PointOk]
  simp only [bnd_some, t1, t2, t3, t4, Bool.and_self, cnd_true]
  refine ⟨_, rfl, by simp, by simp, ?_, (show vsum [1, 2, 2, 2, 5] = 4 by decide), ?_⟩
  · have g0 : vgood [] := fun i v h => by simp at h
    have g1 := vgood_app (v := 1) g0 (by decide) (by simp) (by simp)
    have g2 := vgood_app (v := 2) g1 (by decide) (by simp) (by simp)
    have g3 := vgood_app (v := 2) g2 (by decide) (by simp) (by simp)
    have g4 := vgood_app (v := 2) g3 (by decide) (by simp) (by simp)
    have g5 := vgood_app (v := 5) g4 (by decide) (by simp) (by simp)
    exact g5
  · intro q hq
    simp only [List.mem_cons, List.mem_nil_iff, or_false] at hq
    unfold pointOk
    rcases hq with rfl | rfl | rfl | rfl <;> simp [t1, t2, t3, t4]
theorem pathR {c : TL01Cur} (h : CurOk c) : ∃ p c', spec_l06Path c = some (p, c') ∧ CurOk c' ∧ PathR p := by
  obtain ⟨b, c1, e1, k1⟩ := once_ok h (n := 2) (by omega)
  unfold spec_l06Path
  rw [e1, bnd_some]
  try dsimp only
  cases b with
  | true =>
    rw [cnd_true]
    obtain ⟨x, c2, e2, x0, x1, k2⟩ := below_ok k1 (n := 2400) (by omega)
    obtain ⟨y, c3, e3, y0, y1, k3⟩ := below_ok k2 (n := 2400) (by omega)
    obtain ⟨u, c4, e4, u0, u1, k4⟩ := below_ok k3 (n := 1500) (by omega)
    obtain ⟨v, c5, e5, v0, v1, k5⟩ := below_ok k4 (n := 1500) (by omega)
    rw [e2, bnd_some]
    try dsimp only
    rw [e3, bnd_some]
    try dsimp only
    rw [e4, bnd_some]
    try dsimp only
    rw [e5, bnd_some]
    try dsimp only
    rw [wr_in (n := x + 1) (by omega), wr_in (n := y + 1) (by omega), wr_in (n := x + 1 + u) (by omega), wr_in (n := y + 1 + v) (by omega)]
    obtain ⟨p, ep, pp⟩ := rectR (b := ⟨x, y, x + 1 + u, y + 1 + v⟩) (by (try dsimp only) <;> omega)
    rw [ep, bnd_some]
    exact ⟨p, c5, rfl, k5, pp⟩
  | false =>
    rw [cnd_false]
    obtain ⟨r, h1, h2⟩ := loopI_tot (f := spec_l06Path_l3) (fun s => 0 ≤ s.1 ∧ s.1 ≤ 6 ∧ CurOk ⟨s.2.1, s.2.2.1, s.2.2.2.1⟩ ∧ (s.2.2.2.2.1.length : Int) = s.1 ∧ PathR ⟨s.2.2.2.2.1, s.2.2.2.2.2⟩)
      (fun r => match r with
        | .inl (b, i, h, vs, ps) => CurOk ⟨b, i, h⟩ ∧ PathR ⟨vs, ps⟩
        | .inr (b, i, h, vs, ps) => CurOk ⟨b, i, h⟩ ∧ PathR ⟨vs, ps⟩) (fun s => (6 - s.1).toNat)
      (by
        rintro ⟨x, b, i, h, vs, ps⟩ ⟨x0, x1, kc, hv, hp⟩
        dsimp only at x0 x1 kc hv hp
        have hpl : ps.length ≤ 24 := hp.lp
        have hpq : ∀ q ∈ ps, pointOk q = true := hp.q
        have hps : vsum vs = (ps.length : Int) := hp.s
        have hpg : vgood vs := hp.g
        obtain ⟨w, d, e2, w0, w1, kd⟩ := below_ok kc (n := 6) (by omega)
        rw [spec_l06Path_l3, e2, bnd_some]
        try dsimp only
        rw [wr_in (n := 1 + w) (by omega)]
        by_cases hx : 1 + w ≤ x
        · right
          rw [ilt hx, cnd_true]
          exact ⟨_, rfl, kd, hp⟩
        · obtain ⟨v, d2, e3, hm, kd2⟩ := pick_ok kd (l := [2, 2, 2, 3, 4, 5, 1]) (by simp)
          rw [ilf (by omega), cnd_false, e3, bnd_some]
          try dsimp only
          have mk : ∀ (v : Int) (ps' : List TPoint), 0 ≤ need v → (x = 0 → v = 1) → (vs[vs.length - 1]? = some 5 → v = 1) → (ps'.length : Int) = (ps.length : Int) + max (need v) 0 → (ps.length : Int) + need v ≤ 24 → (∀ q ∈ ps', pointOk q = true) → PathR ⟨vs ++ [v], ps'⟩ := by
            intro v ps' n0 n1 n2 l1 l2 l3
            refine ⟨by simp; omega, by (try dsimp only) <;> omega, vgood_app hpg n0 (fun e => n1 (by omega)) n2, ?_, l3⟩
            (try dsimp only)
            rw [vsum_app, hps, l1]
            omega
          by_cases hz : x = 0
          · rw [hz, iqt, cnd_true, m_NeedOf, bnd_some]
            have n1 : need 1 = 1 := by decide
            rw [n1, wr_in (n := (ps.length : Int) + 1) (by omega)]
            by_cases hq : (ps.length : Int) + 1 ≤ 24
            · left
              rw [ilt hq, cnd_true, chkP_pos (by omega), nam_eq]
              obtain ⟨b', i', h', ps', e4, k4, l4, q4⟩ := ptsR (f := spec_l06Path_l0 (vs ++ [1]) 0) (n := 1) (by omega) (fun k b i h ps => by rw [spec_l06Path_l0, m_NeedOf, n1]) kd2 (ps := ps) (by omega) hpq
              rw [e4, bnd_some]
              try dsimp only
              rw [wr_in (by omega)]
              exact ⟨_, rfl, ⟨by (try dsimp only) <;> omega, by (try dsimp only) <;> omega, k4, by simp <;> omega, mk 1 ps' (by decide) (fun _ => rfl) (fun _ => rfl) (by rw [n1]; exact l4) (by rw [n1]; exact hq) q4⟩, by (try dsimp only) <;> omega⟩
            · right
              rw [ilf (by omega), cnd_false]
              exact ⟨_, rfl, kd2, hp⟩
          · rw [iqf hz, cnd_false, wr_in (n := x - 1) (by omega)]
            obtain ⟨q, hq, _⟩ := idx_of (l := vs) (i := x - 1) (by omega) (by omega)
            have hql : vs[vs.length - 1]? = some q := by
              have : (x - 1).toNat = vs.length - 1 := by omega
              obtain ⟨_, _, h3⟩ := idx_toNat hq
              rw [← this]; exact h3
            rw [hq, bnd_some]
            by_cases h5 : q = 5
            · rw [h5, iqt, cnd_true, m_NeedOf, bnd_some]
              have n1 : need 1 = 1 := by decide
              rw [n1, wr_in (n := (ps.length : Int) + 1) (by omega)]
              by_cases hq : (ps.length : Int) + 1 ≤ 24
              · left
                rw [ilt hq, cnd_true, chkP_pos (by omega), nam_eq]
                obtain ⟨b', i', h', ps', e4, k4, l4, q4⟩ := ptsR (f := spec_l06Path_l1 (vs ++ [1]) x) (n := 1) (by omega) (fun k b i h ps => by rw [spec_l06Path_l1, m_NeedOf, n1]) kd2 (ps := ps) (by omega) hpq
                rw [e4, bnd_some]
                try dsimp only
                rw [wr_in (by omega)]
                exact ⟨_, rfl, ⟨by (try dsimp only) <;> omega, by (try dsimp only) <;> omega, k4, by simp <;> omega, mk 1 ps' (by decide) (fun _ => rfl) (fun _ => rfl) (by rw [n1]; exact l4) (by rw [n1]; exact hq) q4⟩, by (try dsimp only) <;> omega⟩
              · right
                rw [ilf (by omega), cnd_false]
                exact ⟨_, rfl, kd2, hp⟩
            · have nb := need_bd v
              have n0 := verbs_mem hm
              rw [iqf h5, cnd_false, m_NeedOf, bnd_some, wr_in (n := (ps.length : Int) + need v) (by omega)]
              by_cases hq : (ps.length : Int) + need v ≤ 24
              · left
                rw [ilt hq, cnd_true, chkP_pos (by omega), nam_eq]
                obtain ⟨b', i', h', ps', e4, k4, l4, q4⟩ := ptsR (f := spec_l06Path_l2 (vs ++ [v]) v x) (n := need v) (by omega) (fun k b i h ps => by rw [spec_l06Path_l2, m_NeedOf]) kd2 (ps := ps) (by omega) hpq
                rw [e4, bnd_some]
                try dsimp only
                rw [wr_in (by omega)]
                exact ⟨_, rfl, ⟨by (try dsimp only) <;> omega, by (try dsimp only) <;> omega, k4, by simp <;> omega, mk v ps' n0 (fun e => absurd e hz) (fun e => by rw [hql] at e; exact absurd (Option.some.inj e) h5) l4 hq q4⟩, by (try dsimp only) <;> omega⟩
              · right
                rw [ilf (by omega), cnd_false]
                exact ⟨_, rfl, kd2, hp⟩)
      (x := (0, c1.b, c1.i, c1.h, [], [])) ⟨by omega, by (try dsimp only) <;> omega, k1, by simp, pathR_nil⟩
    rw [h1, bnd_some]
    rcases r with ⟨b, i, h, vs, ps⟩ | ⟨b, i, h, vs, ps⟩
    · exact ⟨_, _, rfl, h2.1, h2.2⟩
    · exact ⟨_, _, rfl, h2.1, h2.2⟩
theorem matR {c : TL01Cur} (h : CurOk c) : ∃ m c', spec_l04Mat c = some (m, c') ∧ CurOk c' ∧ matOk m = true := by
  obtain ⟨r, c1, e1, r0, r1, k1⟩ := below_ok h (n := 1200) (by omega)
  obtain ⟨s, c2, e2, s0, s1, k2⟩ := below_ok k1 (n := 1200) (by omega)
  obtain ⟨t, c3, e3, _, _, k3⟩ := below_ok k2 (n := 6) (by omega)
  obtain ⟨u, c4, e4, u0, u1, k4⟩ := below_ok k3 (n := 65536) (by omega)
  obtain ⟨v, c5, e5, v0, v1, k5⟩ := below_ok k4 (n := 65536) (by omega)
  have mk : ∀ a b c d : Int, (-1048576 ≤ a ∧ a ≤ 1048576) → (-1048576 ≤ b ∧ b ≤ 1048576) → (-1048576 ≤ c ∧ c ≤ 1048576) → (-1048576 ≤ d ∧ d ≤ 1048576) → matOk ⟨a, b, c, d, r - 400, s - 400⟩ = true := by
    intro a b c d ha hb hc hd
    unfold matOk
    simp only [Bool.and_eq_true, tin_t]
    refine ⟨⟨⟨⟨⟨ha, hb⟩, hc⟩, hd⟩, ?_⟩, ?_⟩ <;> omega
  unfold spec_l04Mat spec_Shift
  rw [e1, bnd_some]
  try dsimp only
  rw [e2, bnd_some]
  try dsimp only
  rw [bnd_some, e3, bnd_some, wr_in (n := r - 400) (by omega), wr_in (n := s - 400) (by omega)]
  try dsimp only
  cases ieq t 0 with
  | true =>
    rw [cnd_true, e4, bnd_some]
    try dsimp only
    rw [e5, bnd_some, wr_in (by omega), wr_in (by omega)]
    exact ⟨_, c5, rfl, k5, mk _ _ _ _ (by omega) (by omega) (by omega) (by omega)⟩
  | false =>
    rw [cnd_false]
    cases ieq t 1 with
    | true => exact ⟨_, c3, rfl, k3, mk _ _ _ _ (by omega) (by omega) (by omega) (by omega)⟩
    | false =>
      rw [cnd_false]
      cases ieq t 2 with
      | true =>
        rw [cnd_true, e4, bnd_some, wr_in (by omega)]
        exact ⟨_, c4, rfl, k4, mk _ _ _ _ (by omega) (by omega) (by omega) (by omega)⟩
      | false => exact ⟨_, c3, rfl, k3, mk _ _ _ _ (by omega) (by omega) (by omega) (by omega)⟩
theorem colorR {c : TL01Cur} (h : CurOk c) : ∃ x c', spec_l12Color c = some (x, c') ∧ CurOk c' ∧ colOk x = true := by
  unfold spec_l12Color
  obtain ⟨r1, c1, e1, a1, b1, k1⟩ := below_ok h (n := 256) (by omega)
  obtain ⟨r2, c2, e2, a2, b2, k2⟩ := below_ok k1 (n := 256) (by omega)
  obtain ⟨r3, c3, e3, a3, b3, k3⟩ := below_ok k2 (n := 256) (by omega)
  obtain ⟨v, c4, e4, hm, k4⟩ := pick_ok k3 (l := [255, 255, 128, 0, 1, 200]) (by simp)
  rw [e1, bnd_some]
  try dsimp only
  rw [e2, bnd_some]
  try dsimp only
  rw [e3, bnd_some]
  try dsimp only
  rw [e4, bnd_some]
  refine ⟨_, c4, rfl, k4, ?_⟩
  have hv : 0 ≤ v ∧ v ≤ 255 := by
    simp only [List.mem_cons, List.mem_nil_iff, or_false] at hm
    omega
  unfold colOk
  simp only [Bool.and_eq_true, tin_t]
  refine ⟨⟨⟨?_, ?_⟩, ?_⟩, hv⟩ <;> omega
theorem paintR {c : TL01Cur} (h : CurOk c) : ∃ x c', spec_l12Paint c = some (x, c') ∧ CurOk c' ∧ paintOk x = true := by
  unfold spec_l12Paint
  obtain ⟨x, c1, e1, k1, q1⟩ := colorR h
  obtain ⟨b, c2, e2, k2⟩ := once_ok k1 (n := 3) (by omega)
  rw [e1, bnd_some]
  try dsimp only
  rw [e2, bnd_some]
  try dsimp only
  cases b with
  | false =>
    refine ⟨_, c2, rfl, k2, ?_⟩
    unfold paintOk
    simp [q1]
  | true =>
    obtain ⟨y, c3, e3, k3, q3⟩ := colorR k2
    obtain ⟨p, c4, e4, k4, p4⟩ := pointR k3
    obtain ⟨q, c5, e5, k5, p5⟩ := pointR k4
    rw [cnd_true, e3, bnd_some]
    try dsimp only
    rw [e4, bnd_some]
    try dsimp only
    rw [e5, bnd_some]
    try dsimp only
    rw [pt_eq]
    have hq : -300 ≤ q.x ∧ q.x < 3300 := by
      obtain ⟨r, d1, f1, r0, r1, kk1⟩ := below_ok k4 (n := 3600) (by omega)
      obtain ⟨s, d2, f2, s0, s1, kk2⟩ := below_ok kk1 (n := 3600) (by omega)
      unfold spec_l04Point at e5
      rw [f1, bnd_some] at e5
      try dsimp only at e5
      rw [f2, bnd_some, wr_in (by omega), wr_in (by omega)] at e5
      have := congrArg Prod.fst (Option.some.inj e5)
      have hx := congrArg TPoint.x this
      dsimp only at hx
      omega
    by_cases he : p = q
    · rw [decide_eq_true he, cnd_true, wr_in (by omega)]
      refine ⟨_, c5, rfl, k5, ?_⟩
      unfold pointOk at p4 p5
      rw [Bool.and_eq_true, tin_t, tin_t] at p4 p5
      unfold paintOk pointOk
      subst he
      have t1 : tin p.x (-8388608) 8388608 = true := by rw [tin_t]; omega
      have t2 : tin p.y (-8388608) 8388608 = true := by rw [tin_t]; omega
      have t3 : tin (p.x + 1) (-8388608) 8388608 = true := by rw [tin_t]; omega
      have ne : ¬ p = ⟨p.x + 1, p.y⟩ := fun e => by have := congrArg TPoint.x e; dsimp only at this; omega
      simp [q1, q3, t1, t2, t3, ne]
    · rw [decide_eq_false he, cnd_false]
      refine ⟨_, c5, rfl, k5, ?_⟩
      unfold paintOk
      simp [q1, q3, p4, p5, he]
theorem dashR {l : List Int} (h : l.all (fun x => tin x 1 20000) = true) (hl : l.length = 0 ∨ l.length = 2) : impl_DashOk l = some true := by
  have k1 := loopI_row (l := l) (f := impl_DashOk_l0 l) (fun x => tin x 1 20000) (by omega) (fun i hi => by rw [impl_DashOk_l0, ilf (by omega), cnd_false, idx_nat hi, bnd_some, m_impl_inRange, bnd_some]) (by rw [impl_DashOk_l0, ilt (by omega), cnd_true])
  unfold impl_DashOk
  rw [k1, h, if_pos rfl, bnd_some]
  rcases hl with hl | hl <;> rw [hl] <;> rfl

/-! ## FnCreates: nodes drawn -/
theorem nodeR_mk {x : TNode} (h1 : tin x.id 1 99 = true) (h2 : tin x.parent 0 99 = true) (h3 : x.id ≠ x.parent) (h4 : matOk x.mat = true) (h5 : PathR x.path) (h6 : PathR x.clip) (h7 : tin x.width 0 2048 = true)
    (h8 : x.dashes.all (fun x => tin x 1 20000) = true) (h9 : x.dashes.length = 0 ∨ x.dashes.length = 2) (ha : tin x.mode 1 5 = true) (hb : tin x.fade 0 255 = true)
    (hc : (x.group = false ∧ paintOk x.paint = true) ∨ (x.group = true ∧ x.paint = TPaint.mk 0 (TColor.mk 0 0 0 0) (TColor.mk 0 0 0 0) (TPoint.mk 0 0) (TPoint.mk 0 0) ∧ x.path = ⟨[], []⟩ ∧ x.width = 0 ∧ x.dashes = [] ∧ x.even = false)) : impl_NodeOk x = some true := by
  unfold impl_NodeOk impl_isMode impl_Path_isNone
  simp only [m_impl_inRange, bnd_some, h1, cnd_true, h2, iqf h3, cnd_false, m_impl_MatOk, h4, (s_PathOk x.path).1, pathR_ok h5, (s_PathOk x.clip).1, pathR_ok h6, h7, dashR h8 h9, ha, m_impl_isByte, hb, m_impl_PaintOk]
  rcases hc with ⟨g1, g2⟩ | ⟨g1, g2, g3, g4, g5, g6⟩
  · rw [g1, cnd_false, g2]
  · rw [g1, cnd_true, g2, g3, g4, g5, g6]
    rfl
noncomputable def ntl (a0 a1 w3 w6 : Int) (m : TMat) (cl : TPath) (c : TL01Cur) : Option (TNode × TL01Cur) :=
  bnd (spec_l01Once 3 c) fun (w21, w22) =>
  cnd w21 (
   some ((TNode.mk a0 a1 true m (TPath.mk [] []) false 0 [] (TPaint.mk 0 (TColor.mk 0 0 0 0) (TColor.mk 0 0 0 0) (TPoint.mk 0 0) (TPoint.mk 0 0)) w3 w6 cl), w22)) (
   bnd (spec_l06Path w22) fun (w24, w25) =>
   bnd (spec_l01Once 3 w25) fun (w27, w28) =>
   bnd (spec_l12Paint w28) fun (w30, w31) =>
   bnd (spec_l01Once 3 w31) fun (w33, w34) =>
   cnd w33 (
    bnd (spec_l01Below 600 w34) fun (w36, w37) =>
    bnd (spec_l01Once 2 w37) fun (w39, w40) =>
    cnd w39 (
     bnd (spec_l01Below 500 w40) fun (w42, w43) =>
     bnd (spec_l01Below 500 w43) fun (w45, w46) =>
     some ((TNode.mk a0 a1 false m w24 w27 (IntKind.i64.wrap (1 + w36)) [(IntKind.i64.wrap (100 + w42)), (IntKind.i64.wrap (50 + w45))] w30 w3 w6 cl), w46)) (
     some ((TNode.mk a0 a1 false m w24 w27 (IntKind.i64.wrap (1 + w36)) [] w30 w3 w6 cl), w40))) (
    some ((TNode.mk a0 a1 false m w24 w27 0 [] w30 w3 w6 cl), w34)))
structure NodeR (x : TNode) : Prop where
  ns : NS x
  ok : impl_NodeOk x = some true
theorem ntlR {a0 a1 w3 w6 : Int} {m : TMat} {cl : TPath} {c : TL01Cur} (h : CurOk c) (i1 : tin a0 1 99 = true) (i2 : tin a1 0 99 = true) (i3 : a0 ≠ a1) (i4 : tin w3 1 5 = true) (i5 : tin w6 0 255 = true) (i6 : matOk m = true) (i7 : PathR cl) :
    ∃ x c', ntl a0 a1 w3 w6 m cl c = some (x, c') ∧ CurOk c' ∧ NodeR x ∧ x.id = a0 ∧ x.parent = a1 := by
  have z0 : tin 0 0 2048 = true := by decide
  have h1 := i7.lv
  have h2 := i7.lp
  obtain ⟨b1, c1, e1, k1⟩ := once_ok h (n := 3) (by omega)
  unfold ntl
  rw [e1, bnd_some]
  try dsimp only
  cases b1 with
  | true => exact ⟨_, c1, rfl, k1, ⟨⟨by simp, by simp, by simp, h1, h2⟩, nodeR_mk i1 i2 i3 i6 pathR_nil i7 z0 rfl (.inl rfl) i4 i5 (.inr ⟨rfl, rfl, rfl, rfl, rfl, rfl⟩)⟩, rfl, rfl⟩
  | false =>
    obtain ⟨p, c2, e2, k2, pr⟩ := pathR k1
    have l1 := pr.lv
    have l2 := pr.lp
    obtain ⟨b3, c3, e3, k3⟩ := once_ok k2 (n := 3) (by omega)
    obtain ⟨pt, c4, e4, k4, pk⟩ := paintR k3
    obtain ⟨b5, c5, e5, k5⟩ := once_ok k4 (n := 3) (by omega)
    rw [cnd_false, e2, bnd_some]
    try dsimp only
    rw [e3, bnd_some]
    try dsimp only
    rw [e4, bnd_some]
    try dsimp only
    rw [e5, bnd_some]
    try dsimp only
    cases b5 with
    | false => exact ⟨_, c5, rfl, k5, ⟨⟨l1, l2, by simp, h1, h2⟩, nodeR_mk i1 i2 i3 i6 pr i7 z0 rfl (.inl rfl) i4 i5 (.inl ⟨rfl, pk⟩)⟩, rfl, rfl⟩
    | true =>
      obtain ⟨x6, c6, e6, a6, b6, k6⟩ := below_ok k5 (n := 600) (by omega)
      obtain ⟨b7, c7, e7, k7⟩ := once_ok k6 (n := 2) (by omega)
      have zw : tin (1 + x6) 0 2048 = true := by rw [tin_t]; omega
      rw [cnd_true, e6, bnd_some]
      try dsimp only
      rw [e7, bnd_some, wr_in (n := 1 + x6) (by omega)]
      try dsimp only
      cases b7 with
      | false => exact ⟨_, c7, rfl, k7, ⟨⟨l1, l2, by simp, h1, h2⟩, nodeR_mk i1 i2 i3 i6 pr i7 zw rfl (.inl rfl) i4 i5 (.inl ⟨rfl, pk⟩)⟩, rfl, rfl⟩
      | true =>
        obtain ⟨x8, c8, e8, a8, b8, k8⟩ := below_ok k7 (n := 500) (by omega)
        obtain ⟨x9, c9, e9, a9, b9, k9⟩ := below_ok k8 (n := 500) (by omega)
        rw [cnd_true, e8, bnd_some]
        try dsimp only
        rw [e9, bnd_some, wr_in (n := 100 + x8) (by omega), wr_in (n := 50 + x9) (by omega)]
        have t1 : tin (100 + x8) 1 20000 = true := by rw [tin_t]; omega
        have t2 : tin (50 + x9) 1 20000 = true := by rw [tin_t]; omega
        exact ⟨_, c9, rfl, k9, ⟨⟨l1, l2, by simp, h1, h2⟩, nodeR_mk i1 i2 i3 i6 pr i7 zw (by simp [t1, t2]) (.inr rfl) i4 i5 (.inl ⟨rfl, pk⟩)⟩, rfl, rfl⟩
theorem nodeR_eq (a0 a1 : Int) (a2 : TL01Cur) : spec_l15Node a0 a1 a2 =
    bnd spec_Still fun v1 =>
    bnd (spec_l01PickInt a2 [1, 1, 1, 2, 3, 4, 5]) fun (w3, w4) =>
    bnd (spec_l01PickInt w4 [255, 255, 255, 128, 0]) fun (w6, w7) =>
    bnd (spec_l01Once 3 w7) fun (w9, w10) =>
    cnd w9 (
     bnd (spec_l04Mat w10) fun (w12, w13) =>
     bnd (spec_l01Once 4 w13) fun (w15, w16) =>
     cnd w15 (
      bnd (spec_l06Path w16) fun (w18, w19) => ntl a0 a1 w3 w6 w12 w18 w19) (
      ntl a0 a1 w3 w6 w12 ⟨[], []⟩ w16)) (
     bnd (spec_l01Once 4 w10) fun (w78, w79) =>
     cnd w78 (
      bnd (spec_l06Path w79) fun (w81, w82) => ntl a0 a1 w3 w6 v1 w81 w82) (
      ntl a0 a1 w3 w6 v1 ⟨[], []⟩ w79)) := rfl
theorem nodeR {a0 a1 : Int} {c : TL01Cur} (h : CurOk c) (i1 : tin a0 1 99 = true) (i2 : tin a1 0 99 = true) (i3 : a0 ≠ a1) : ∃ x c', spec_l15Node a0 a1 c = some (x, c') ∧ CurOk c' ∧ NodeR x ∧ x.id = a0 ∧ x.parent = a1 := by
  obtain ⟨x1, c1, e1, m1, k1⟩ := pick_ok h (l := [1, 1, 1, 2, 3, 4, 5]) (by simp)
  obtain ⟨x2, c2, e2, m2, k2⟩ := pick_ok k1 (l := [255, 255, 255, 128, 0]) (by simp)
  obtain ⟨b3, c3, e3, k3⟩ := once_ok k2 (n := 3) (by omega)
  have t1 : tin x1 1 5 = true := by
    simp only [List.mem_cons, List.mem_nil_iff, or_false] at m1
    rw [tin_t]; omega
  have t2 : tin x2 0 255 = true := by
    simp only [List.mem_cons, List.mem_nil_iff, or_false] at m2
    rw [tin_t]; omega
  have ms : matOk ⟨65536, 0, 0, 65536, 0, 0⟩ = true := by decide
  rw [nodeR_eq]
  unfold spec_Still
  rw [bnd_some, e1, bnd_some]
  try dsimp only
  rw [e2, bnd_some]
  try dsimp only
  rw [e3, bnd_some]
  try dsimp only
  cases b3 with
  | true =>
    obtain ⟨m, c4, e4, k4, mk⟩ := matR k3
    obtain ⟨b5, c5, e5, k5⟩ := once_ok k4 (n := 4) (by omega)
    rw [cnd_true, e4, bnd_some]
    try dsimp only
    rw [e5, bnd_some]
    try dsimp only
    cases b5 with
    | true =>
      obtain ⟨p, c6, e6, k6, pr⟩ := pathR k5
      rw [cnd_true, e6, bnd_some]
      exact ntlR k6 i1 i2 i3 t1 t2 mk pr
    | false => exact ntlR k5 i1 i2 i3 t1 t2 mk pathR_nil
  | false =>
    obtain ⟨b5, c5, e5, k5⟩ := once_ok k3 (n := 4) (by omega)
    rw [cnd_false, e5, bnd_some]
    try dsimp only
    cases b5 with
    | true =>
      obtain ⟨p, c6, e6, k6, pr⟩ := pathR k5
      rw [cnd_true, e6, bnd_some]
      exact ntlR k6 i1 i2 i3 t1 t2 ms pr
    | false => exact ntlR k5 i1 i2 i3 t1 t2 ms pathR_nil

/-! ## FnCreates: a node more -/
theorem ct_no {p : Int → Option Int} {top : Int} (hp : ∀ y q, p y = some q → q ≠ top) : ∀ (f : Nat) (y : Int), y ≠ top → ct p f y top = false
  | 0, y, h => by rw [ct, iqf h]
  | f + 1, y, h => by
    rw [ct, iqf h]
    simp only [Bool.false_eq_true, if_false]
    cases hq : p y with
    | none => rfl
    | some q => exact ct_no hp f q (hp y q hq)
theorem dl_up {p : Int → Option Int} : ∀ (f : Nat) (y n d : Int), dl p (f + 1) y n = d → d ≠ 0 → d < n + (f : Int) → dl p f y (n + 1) = d + 1
  | 0, y, n, d, h, h0, hd => by
    rw [dl] at h
    cases hq : p y with
    | none => rw [hq] at h; dsimp only at h; omega
    | some q =>
      rw [hq] at h
      dsimp only at h
      by_cases hz : q = 0
      · rw [if_pos hz] at h; omega
      · rw [if_neg hz, dl] at h; omega
  | f + 1, y, n, d, h, h0, hd => by
    rw [dl] at h
    rw [dl]
    cases hq : p y with
    | none => rw [hq] at h; dsimp only at h; omega
    | some q =>
      rw [hq] at h
      dsimp only at h ⊢
      by_cases hz : q = 0
      · rw [if_pos hz] at h ⊢; omega
      · rw [if_neg hz] at h ⊢
        exact dl_up f q (n + 1) d h h0 (by omega)
theorem up_par {s : TScene} {y q : Int} (h : upOf s y = some q) : ∃ x ∈ s.nodes, x.id = y ∧ x.parent = q := by
  rcases idx_at (s := s) (id := y) with ⟨_, x, _, x2, x3, x4⟩ | ⟨_, e, _⟩
  · rw [x2] at h; exact ⟨x, x4, x3, Option.some.inj h⟩
  · rw [e] at h; cases h
theorem up_mem {s : TScene} (hn : (s.nodes.map (·.id)).Nodup) {x : TNode} (hx : x ∈ s.nodes) : upOf s x.id = some x.parent := by
  unfold upOf; rw [at_mem hn hx]; rfl
theorem up_none {s : TScene} {id : Int} (h : ∀ x ∈ s.nodes, x.id ≠ id) : upOf s id = none ∧ nodeAt s id < 0 := by
  rcases idx_at (s := s) (id := id) with ⟨_, x, _, _, x3, x4⟩ | ⟨ha, e, _⟩
  · exact absurd x3 (h x x4)
  · exact ⟨e, ha⟩
theorem up_app {s : TScene} {x : TNode} (hn : ((s.nodes ++ [x]).map (·.id)).Nodup) (z : Int) (hz : z ≠ x.id) : upOf s z = upOf ⟨s.nodes ++ [x]⟩ z := by
  have hn1 : (s.nodes.map (·.id)).Nodup := by
    rw [List.map_append] at hn; exact (List.nodup_append.1 hn).1
  cases hq : upOf s z with
  | some q =>
    obtain ⟨y, y1, y2, y3⟩ := up_par hq
    have := up_mem (s := ⟨s.nodes ++ [x]⟩) hn (List.mem_append_left _ y1)
    rw [← y2, this, y3]
  | none =>
    refine (up_none (s := ⟨s.nodes ++ [x]⟩) fun y hy e => ?_).1.symm
    rcases List.mem_append.1 hy with hy | hy
    · rw [← e, up_mem hn1 hy] at hq; cases hq
    · rw [List.mem_singleton] at hy; rw [hy] at e; exact hz e.symm
theorem par_ne {s : TScene} {x : TNode} (h : ∀ y ∈ s.nodes, y.parent = 0 ∨ ∃ z ∈ s.nodes, z.id = y.parent ∧ z.group = true) (hf : ∀ y ∈ s.nodes, y.id ≠ x.id) (h0 : x.id ≠ 0) : ∀ y ∈ s.nodes, y.parent ≠ x.id := by
  intro y hy e
  rcases h y hy with h | ⟨z, z1, z2, _⟩
  · exact h0 (by rw [← e, h])
  · exact hf z z1 (by rw [z2, e])
theorem app_nodup {s : TScene} {x : TNode} (hn : (s.nodes.map (·.id)).Nodup) (hf : ∀ y ∈ s.nodes, y.id ≠ x.id) : ((s.nodes ++ [x]).map (·.id)).Nodup := by
  rw [List.map_append]
  refine List.nodup_append.2 ⟨hn, by simp, fun a ha b hb e => ?_⟩
  obtain ⟨y, y1, rfl⟩ := List.mem_map.1 ha
  simp only [List.map_cons, List.map_nil, List.mem_singleton] at hb
  exact hf y y1 (by rw [e, hb])
theorem app_sb {s : TScene} {x : TNode} (hs : SB s) (hx : NB x) (h8 : s.nodes.length ≤ 8) : SB ⟨s.nodes ++ [x]⟩ := ⟨by simp; omega, fun y hy => by
  rcases List.mem_append.1 hy with hy | hy
  · exact hs.x y hy
  · rw [List.mem_singleton] at hy; rw [hy]; exact hx⟩
/-- A right scene and a node more. -/
theorem app_ok {s : TScene} {x : TNode} (hs : SB s) (hx : NB x) (h : impl_SceneOk s = some true) (h8 : s.nodes.length < 8) (hk : impl_NodeOk x = some true) (hf : ∀ y ∈ s.nodes, y.id ≠ x.id)
    (hp : x.parent = 0 ∨ ∃ z ∈ s.nodes, z.id = x.parent ∧ z.group = true) (hd : x.parent ≠ 0 → dpt (upOf s) x.parent ≤ 3) : impl_SceneOk ⟨s.nodes ++ [x]⟩ = some true := by
  obtain ⟨s8, sn, sx⟩ := (sceneOk_par hs.rows).1 h
  have hn := app_nodup sn hf
  have hi : x.id ≠ 0 := by
    have := (nodeOk_par hk).2.2
    rw [tin_t] at this; omega
  have hne := par_ne (x := x) (fun y hy => (sx y hy).2.1) hf hi
  refine (sceneOk_par (app_sb hs hx s8).rows).2 ⟨by simp; omega, hn, fun y hy => ?_⟩
  have sub : ∀ z, z ∈ s.nodes → z ∈ s.nodes ++ [x] := fun z hz => List.mem_append_left _ hz
  rcases List.mem_append.1 hy with hy | hy
  · obtain ⟨y1, y2, y3⟩ := sx y hy
    refine ⟨y1, ?_, ?_⟩
    · rcases y2 with h0 | ⟨z, z1, z2⟩
      · exact .inl h0
      · exact .inr ⟨z, sub z z1, z2⟩
    · rw [← dpt_same (p := upOf s) (id := x.id) (fun z hz => up_app hn z hz)]
      · exact y3
      · exact ct_no (fun a q e => by
          obtain ⟨w, w1, _, w3⟩ := up_par e
          rw [← w3]; exact hne w w1) 8 y.id (hf y hy)
  · rw [List.mem_singleton] at hy
    subst hy
    refine ⟨hk, ?_, ?_⟩
    · rcases hp with h0 | ⟨z, z1, z2⟩
      · exact .inl h0
      · exact .inr ⟨z, sub z z1, z2⟩
    · have e1 : upOf ⟨s.nodes ++ [y]⟩ y.id = some y.parent := up_mem (s := ⟨s.nodes ++ [y]⟩) hn (List.mem_append_right _ (List.mem_singleton.2 rfl))
      unfold dpt
      rw [if_neg hi, dl, e1]
      dsimp only
      by_cases h0 : y.parent = 0
      · rw [if_pos h0]; decide
      · rw [if_neg h0]
        rcases hp with h1 | ⟨z, z1, z2, _⟩
        · exact absurd h1 h0
        · have e2 := dpt_same (p := upOf s) (p' := upOf ⟨s.nodes ++ [y]⟩) (id := y.id) (y := y.parent) (fun z hz => up_app hn z hz) (ct_no (fun a q e => by
            obtain ⟨w, w1, _, w3⟩ := up_par e
            rw [← w3]; exact hne w w1) 8 y.parent (by rw [← z2]; exact hf z z1))
          have e3 := (sx z z1).2.2
          have e4 := hd h0
          rw [tin_t, z2] at e3
          have e5 : dl (upOf ⟨s.nodes ++ [y]⟩) 8 y.parent 1 = dpt (upOf s) y.parent := by
            rw [e2]; unfold dpt; rw [if_neg h0]
          have e6 := dl_up 7 y.parent 1 _ e5 (by omega) (by omega)
          rw [tin_t]
          have e7 : (1 : Int) + 1 = 2 := rfl
          omega
theorem m_spec_DepthOf {s : TScene} (h : s.nodes.length ≤ 1048576) (id : Int) : spec_DepthOf s id = some (dpt (upOf s) id) := by
  obtain ⟨v, v1, v2⟩ := s_DepthOf h id
  rw [m_DepthOf h] at v1
  rw [v2, ← v1]
/-- The parent drawn: none, or a group of depth three at most. -/
theorem scene0R {x7 : Int} {l : List TNode} (hl : l.length ≤ 1048576) {c : TL01Cur} (h : CurOk c) : ∃ b i hh p, loopI (spec_l15Scene_l0 x7 l) (0, 0, c.b, c.i, c.h) = some (b, i, hh, p) ∧ CurOk ⟨b, i, hh⟩ ∧ (p = 0 ∨ ((∃ z ∈ l, z.id = p ∧ z.group = true) ∧ dpt (upOf ⟨l⟩) p ≤ 3)) := by
  obtain ⟨r, h1, h2⟩ := loopI_tot (f := spec_l15Scene_l0 x7 l) (fun s => 0 ≤ s.1 ∧ s.1 ≤ l.length ∧ CurOk ⟨s.2.2.1, s.2.2.2.1, s.2.2.2.2⟩ ∧ (s.2.1 = 0 ∨ ((∃ z ∈ l, z.id = s.2.1 ∧ z.group = true) ∧ dpt (upOf ⟨l⟩) s.2.1 ≤ 3))) (fun r => CurOk ⟨r.1, r.2.1, r.2.2.1⟩ ∧ (r.2.2.2 = 0 ∨ ((∃ z ∈ l, z.id = r.2.2.2 ∧ z.group = true) ∧ dpt (upOf ⟨l⟩) r.2.2.2 ≤ 3))) (fun s => ((l.length : Int) - s.1).toNat)
    (by
      rintro ⟨k, p, b, i, hh⟩ ⟨k0, k1, kc, kp⟩
      dsimp only at k0 k1 kc kp
      rw [spec_l15Scene_l0]
      by_cases hk : (l.length : Int) ≤ k
      · right; rw [ilt hk, cnd_true]; exact ⟨_, rfl, kc, kp⟩
      left
      obtain ⟨x, hx, hm⟩ := idx_of (l := l) (i := k) k0 (by omega)
      rw [ilf (by omega), cnd_false, hx, bnd_some, wr_in (n := k + 1) (by omega)]
      cases hg : x.group with
      | false => exact ⟨_, rfl, ⟨by (try dsimp only) <;> omega, by (try dsimp only) <;> omega, kc, kp⟩, by (try dsimp only) <;> omega⟩
      | true =>
        rw [cnd_true, m_spec_DepthOf (s := ⟨l⟩) hl, bnd_some]
        by_cases hd : 4 ≤ dpt (upOf ⟨l⟩) x.id
        · rw [ilt hd]
          exact ⟨_, rfl, ⟨by (try dsimp only) <;> omega, by (try dsimp only) <;> omega, kc, kp⟩, by (try dsimp only) <;> omega⟩
        · obtain ⟨b2, c2, e2, k2⟩ := once_ok kc (n := 2) (by omega)
          rw [ilf (by omega), cnd_false, e2, bnd_some]
          try dsimp only
          cases b2
          · exact ⟨_, rfl, ⟨by (try dsimp only) <;> omega, by (try dsimp only) <;> omega, k2, kp⟩, by (try dsimp only) <;> omega⟩
          · exact ⟨_, rfl, ⟨by (try dsimp only) <;> omega, by (try dsimp only) <;> omega, k2, .inr ⟨⟨x, hm, rfl, hg⟩, by (try dsimp only) <;> omega⟩⟩, by (try dsimp only) <;> omega⟩)
    (x := (0, 0, c.b, c.i, c.h)) ⟨by omega, by (try dsimp only) <;> omega, h, .inl rfl⟩
  obtain ⟨b, i, hh, p⟩ := r
  exact ⟨b, i, hh, p, h1, h2⟩
structure SceneR (s : TScene) : Prop where
  n : s.nodes.length ≤ 5
  x : ∀ y ∈ s.nodes, NodeR y ∧ 1 ≤ y.id ∧ y.id ≤ (s.nodes.length : Int)
  ok : impl_SceneOk s = some true
theorem SceneR.sb {s : TScene} (h : SceneR s) : SB s := ⟨by have := h.n; omega, fun y hy => (h.x y hy).1.ns.big⟩
theorem sceneR_nil : SceneR ⟨[]⟩ := by
  refine ⟨by simp, fun y hy => by simp at hy, ?_⟩
  exact (sceneOk_par (s := ⟨[]⟩) ⟨by simp, fun y hy => by simp at hy⟩).2 ⟨by simp, by simp, fun y hy => by simp at hy⟩
theorem sceneR_app {l : List TNode} {x : TNode} (h : SceneR ⟨l⟩) (hl : l.length < 5) (hx : NodeR x) (hi : x.id = (l.length : Int) + 1) (hp : x.parent = 0 ∨ ((∃ z ∈ l, z.id = x.parent ∧ z.group = true) ∧ dpt (upOf ⟨l⟩) x.parent ≤ 3)) : SceneR ⟨l ++ [x]⟩ := by
  refine ⟨by simp; omega, fun y hy => ?_, ?_⟩
  · rcases List.mem_append.1 hy with hy | hy
    · obtain ⟨y1, y2, y3⟩ := h.x y hy
      exact ⟨y1, y2, by simp; (try dsimp only at y3); omega⟩
    · rw [List.mem_singleton] at hy; rw [hy, hi]
      exact ⟨hx, by omega, by simp⟩
  · refine app_ok (s := ⟨l⟩) h.sb hx.ns.big h.ok (by (try dsimp only); omega) hx.ok (fun y hy e => ?_) ?_ (fun h0 => ?_)
    · have := (h.x y hy).2.2
      (try dsimp only at this)
      omega
    · rcases hp with h0 | h1
      · exact .inl h0
      · exact .inr h1.1
    · rcases hp with h1 | h1
      · exact absurd h1 h0
      · exact h1.2
/-- Order does not matter to rightness. -/
theorem perm_up {s t : TScene} (hp : s.nodes.Perm t.nodes) (hn : (s.nodes.map (·.id)).Nodup) : upOf s = upOf t := by
  funext z
  have hn2 : (t.nodes.map (·.id)).Nodup := (hp.map _).nodup_iff.1 hn
  cases hq : upOf t z with
  | some q =>
    obtain ⟨y, y1, y2, y3⟩ := up_par hq
    rw [← y2, up_mem hn (hp.mem_iff.2 y1), y3]
  | none =>
    refine (up_none fun y hy e => ?_).1
    rw [← e, up_mem hn2 (hp.mem_iff.1 hy)] at hq; cases hq
theorem sceneR_perm {s t : TScene} (hp : s.nodes.Perm t.nodes) (h : SceneR s) : SceneR t := by
  have hb : SB t := ⟨by have := h.n; rw [← hp.length_eq]; omega, fun y hy => h.sb.x y (hp.mem_iff.2 hy)⟩
  refine ⟨by rw [← hp.length_eq]; exact h.n, fun y hy => by rw [← hp.length_eq]; exact h.x y (hp.mem_iff.2 hy), ?_⟩
  obtain ⟨s8, sn, sx⟩ := (sceneOk_par h.sb.rows).1 h.ok
  refine (sceneOk_par hb.rows).2 ⟨by rw [← hp.length_eq]; exact s8, (hp.map _).nodup_iff.1 sn, fun y hy => ?_⟩
  obtain ⟨y1, y2, y3⟩ := sx y (hp.mem_iff.2 hy)
  refine ⟨y1, ?_, by rw [← perm_up hp sn]; exact y3⟩
  rcases y2 with h0 | ⟨z, z1, z2⟩
  · exact .inl h0
  · exact .inr ⟨z, hp.mem_iff.1 z1, z2⟩
theorem sceneR {c : TL01Cur} (h : CurOk c) : ∃ s c', spec_l15Scene c = some (s, c') ∧ CurOk c' ∧ SceneR s := by
  obtain ⟨r, h1, h2, h3⟩ := loopI_tot (f := spec_l15Scene_l1) (fun s => 0 ≤ s.1 ∧ s.1 ≤ 5 ∧ CurOk ⟨s.2.1, s.2.2.1, s.2.2.2.1⟩ ∧ (s.2.2.2.2.length : Int) = s.1 ∧ SceneR ⟨s.2.2.2.2⟩)
    (fun r => CurOk ⟨r.1, r.2.1, r.2.2.1⟩ ∧ SceneR ⟨r.2.2.2⟩) (fun s => (5 - s.1).toNat)
    (by
      rintro ⟨k, b, i, hh, l⟩ ⟨k0, k1, kc, kl, kn⟩
      dsimp only at k0 k1 kc kl kn
      obtain ⟨w, d, e2, w0, w1, kd⟩ := below_ok kc (n := 6) (by omega)
      rw [spec_l15Scene_l1, e2, bnd_some]
      try dsimp only
      by_cases hk : w ≤ k
      · right; rw [ilt hk, cnd_true]; exact ⟨_, rfl, kd, kn⟩
      left
      obtain ⟨b2, i2, h2, p, e3, k3, hp⟩ := scene0R (x7 := k) (l := l) (by omega) kd
      have hpb : 0 ≤ p ∧ p ≤ k := by
        rcases hp with h0 | ⟨⟨z, z1, z2, _⟩, _⟩
        · omega
        · have := (kn.x z z1).2
          (try dsimp only at this)
          omega
      obtain ⟨x, c4, e4, k4, n4, i4, p4⟩ := nodeR (a0 := k + 1) (a1 := p) k3 (by rw [tin_t]; omega) (by rw [tin_t]; omega) (by omega)
      rw [ilf (by omega), cnd_false, e3, bnd_some]
      try dsimp only
      rw [wr_in (n := k + 1) (by omega), e4, bnd_some]
      try dsimp only
      rw [chkP_pos (by omega), nam_eq]
      refine ⟨_, rfl, ⟨by (try dsimp only) <;> omega, by (try dsimp only) <;> omega, k4, by simp <;> omega, ?_⟩, by (try dsimp only) <;> omega⟩
      exact sceneR_app kn (by omega) n4 (by omega) (by rw [p4]; exact hp))
    (x := (0, c.b, c.i, c.h, [])) ⟨by omega, by (try dsimp only) <;> omega, h, by simp, sceneR_nil⟩
  obtain ⟨b, i, hh, l⟩ := r
  dsimp only at h2 h3
  unfold spec_l15Scene
  rw [h1, bnd_some]
  try dsimp only
  by_cases hl : (l.length : Int) ≤ 1
  · rw [ilt hl, cnd_true]; exact ⟨_, _, rfl, h2, h3⟩
  rw [ilf (by omega), cnd_false]
  obtain ⟨b2, c2, e2, k2⟩ := once_ok h2 (n := 3) (by omega)
  rw [e2, bnd_some]
  try dsimp only
  have l5 : l.length ≤ 5 := h3.n
  cases b2 with
  | false => exact ⟨_, c2, rfl, k2, h3⟩
  | true =>
    obtain ⟨x, hx, hm⟩ := idx_of (l := l) (i := 0) (by omega) (by omega)
    rw [cnd_true, hx, bnd_some, slc_tl (by omega), bnd_some, chkP_pos (by rw [List.length_drop]; omega), nam_eq, chkP_pos (by rw [List.nil_append, List.length_drop]; omega), nam_eq]
    refine ⟨_, c2, rfl, k2, sceneR_perm (s := ⟨l⟩) ?_ h3⟩
    obtain ⟨_, h0, h01⟩ := idx_toNat hx
    cases l with
    | nil => simp at hl
    | cons a l =>
      have : a = x := by simpa using h01
      subst this
      simp only [List.drop_succ_cons, List.drop_zero, List.nil_append]
      exact (List.perm_append_singleton a l).symm
theorem drawSceneR {a : List Int} (h : a.length ≤ 1048576) : ∃ s, spec_DrawScene a = some s ∧ SceneR s := by
  obtain ⟨c0, e0, k0⟩ := new_ok a h
  obtain ⟨s, c1, e1, k1, l1⟩ := sceneR k0
  unfold spec_DrawScene
  rw [e0, bnd_some, e1, bnd_some]
  exact ⟨s, rfl, l1⟩
theorem drawNodeR {a : List Int} (h : a.length ≤ 1048576) : ∃ x, spec_DrawNode a = some x ∧ NodeR x ∧ x.id = 9 := by
  obtain ⟨c0, e0, k0⟩ := new_ok a h
  obtain ⟨p, c1, e1, p0, p1, k1⟩ := below_ok k0 (n := 6) (by omega)
  obtain ⟨x, c2, e2, k2, n2, i2, _⟩ := nodeR (a0 := 9) (a1 := p) k1 (by decide) (by rw [tin_t]; omega) (by omega)
  unfold spec_DrawNode
  rw [e0, bnd_some, e1, bnd_some]
  try dsimp only
  rw [e2, bnd_some]
  exact ⟨x, rfl, n2, i2⟩

/-! ## FnCreates: created and dropped -/
theorem m_spec_UnderOf {s : TScene} (h : s.nodes.length ≤ 1048576) (id : Int) : spec_UnderOf s id = some (underOf s id) := by
  unfold spec_UnderOf underOf
  rw [m_spec_NodeAt h, bnd_some]
  by_cases ha : 0 ≤ nodeAt s id
  case neg => rw [ilf (by omega), cnd_false, if_neg ha]
  rw [ilt ha, cnd_true, if_pos ha]
  have key := loopI_n (f := spec_UnderOf_l0 s id) (fun i => ((i : Int), ((s.nodes.take i).filter fun x => ct (upOf s) 8 x.id id).map (·.id))) s.nodes.length (r := (s.nodes.filter fun x => ct (upOf s) 8 x.id id).map (·.id)) (fun i hi => ?_) ?_
  · have e : loopI (spec_UnderOf_l0 s id) (0, []) = some ((s.nodes.filter fun x => ct (upOf s) 8 x.id id).map (·.id)) := key
    rw [e]; rfl
  · try dsimp only
    have kl : (((s.nodes.take i).filter fun x => ct (upOf s) 8 x.id id).map (·.id)).length ≤ s.nodes.length := by
      rw [List.length_map]
      have h1 := List.length_filter_le (fun x : TNode => ct (upOf s) 8 x.id id) (s.nodes.take i)
      rw [List.length_take] at h1; omega
    rw [filter_take_succ hi, List.map_append, spec_UnderOf_l0, ilf (by omega), cnd_false, idx_nat hi, bnd_some, m_Under h, bnd_some, wr_in (by omega)]
    cases ct (upOf s) 8 (s.nodes[i]).id id with
    | true => rw [cnd_true, chkP_pos (by omega), nam_eq]; rfl
    | false => rw [cnd_false]; simp
  · try dsimp only
    rw [spec_UnderOf_l0, ilt (by omega), cnd_true, List.take_length]
theorem s_CreateNode {s : TScene} {x : TNode} (hs : SB s) (hx : NB x) : ∃ r : TScene × Int, impl_CreateNode s x = some r ∧ spec_CreateNode s x = some r ∧
    ((r.2 ≠ 0 ∧ r.1 = s) ∨ (r = (⟨s.nodes ++ [x]⟩, 0) ∧ impl_SceneOk s = some true ∧ s.nodes.length < 8 ∧ impl_NodeOk x = some true ∧ (∀ y ∈ s.nodes, y.id ≠ x.id) ∧ (x.parent = 0 ∨ ∃ z ∈ s.nodes, z.id = x.parent ∧ z.group = true) ∧ (x.parent ≠ 0 → dpt (upOf s) x.parent ≤ 3))) := by
  have hn := hs.n
  obtain ⟨q1, sb, q2⟩ := s_SceneOk hs.rows
  obtain ⟨n1, nb, n2⟩ := s_NodeOk hx.d
  unfold impl_CreateNode spec_CreateNode impl_Scene_isParent
  simp only [m_impl_copyScene hs, m_spec_Copy hs, bnd_some, n1, n2, q1, q2, m_impl_NodeAt hn, m_spec_NodeAt hn, m_impl_copyNode hx, m_spec_copyNode hx, m_DepthOf hn, m_spec_DepthOf hn]
  cases nb with
  | false => cases sb <;> exact ⟨_, rfl, rfl, .inl ⟨by simp, rfl⟩⟩
  | true =>
  cases sb with
  | false => exact ⟨_, rfl, rfl, .inl ⟨by simp, rfl⟩⟩
  | true =>
  simp only [cnd_true]
  by_cases ha : 0 ≤ nodeAt s x.id
  · simp only [ilt ha, cnd_true]
    exact ⟨_, rfl, rfl, .inl ⟨by simp, rfl⟩⟩
  have hfr : ∀ y ∈ s.nodes, y.id ≠ x.id := by
    rcases idx_at (s := s) (id := x.id) with ⟨h1, _⟩ | ⟨_, _, h3⟩
    · exact absurd h1 ha
    · exact h3
  simp only [ilf (show nodeAt s x.id < 0 by omega), cnd_false]
  have h8 : s.nodes.length ≤ 8 := ((sceneOk_iff hs.rows).1 (by rw [q1, q2])).1
  by_cases h0 : x.parent = 0
  · simp only [h0, iqt, cnd_true, bnd_some]
    by_cases hl : s.nodes.length = 8
    · have e1 : ile 8 (s.nodes.length : Int) = true := ilt (by omega)
      have e2 : ieq (s.nodes.length : Int) 8 = true := by rw [hl]; rfl
      simp only [e1, e2, cnd_true]
      exact ⟨_, rfl, rfl, .inl ⟨by simp, rfl⟩⟩
    · have e1 : ile 8 (s.nodes.length : Int) = false := ilf (by omega)
      have e2 : ieq (s.nodes.length : Int) 8 = false := iqf (by omega)
      have e3 : ile 4 (dpt (upOf s) 0) = false := by unfold dpt; rw [if_pos rfl]; rfl
      have e4 : (s.nodes.length + 1) * 328 ≤ 17592186044416 := by omega
      simp only [e1, e2, e3, cnd_false, chkP_pos e4, nam_eq]
      exact ⟨_, rfl, rfl, .inr ⟨rfl, trivial, by omega, trivial, hfr, .inl trivial, fun h => absurd rfl h⟩⟩
  simp only [iqf h0, cnd_false]
  rcases idx_at (s := s) (id := x.parent) with ⟨hb, z, z1, _, z3, z4⟩ | ⟨hb, _, _⟩
  case inr =>
    simp only [ilf hb, cnd_false, bnd_some]
    exact ⟨_, rfl, rfl, .inl ⟨by simp, rfl⟩⟩
  simp only [ilt hb, cnd_true, z1, bnd_some]
  cases hg : z.group with
  | false =>
    simp only [cnd_false]
    exact ⟨_, rfl, rfl, .inl ⟨by simp, rfl⟩⟩
  | true =>
    simp only [cnd_true]
    by_cases hl : s.nodes.length = 8
    · have e1 : ile 8 (s.nodes.length : Int) = true := ilt (by omega)
      have e2 : ieq (s.nodes.length : Int) 8 = true := by rw [hl]; rfl
      simp only [e1, e2, cnd_true]
      exact ⟨_, rfl, rfl, .inl ⟨by simp, rfl⟩⟩
    have e1 : ile 8 (s.nodes.length : Int) = false := ilf (by omega)
    have e2 : ieq (s.nodes.length : Int) 8 = false := iqf (by omega)
    have e4 : (s.nodes.length + 1) * 328 ≤ 17592186044416 := by omega
    simp only [e1, e2, cnd_false]
    by_cases hd : 4 ≤ dpt (upOf s) x.parent
    · simp only [ilt hd, cnd_true]
      exact ⟨_, rfl, rfl, .inl ⟨by simp, rfl⟩⟩
    · simp only [ilf (show dpt (upOf s) x.parent < 4 by omega), cnd_false, chkP_pos e4, nam_eq]
      exact ⟨_, rfl, rfl, .inr ⟨rfl, trivial, by omega, trivial, hfr, .inr ⟨z, z4, z3, hg⟩, fun _ => by omega⟩⟩
theorem ct_self {p : Int → Option Int} {id : Int} : ∀ f : Nat, ct p f id id = true
  | 0 => by rw [ct, iqt]
  | f + 1 => by rw [ct, iqt]; rfl
theorem ct_s0 {p : Int → Option Int} {f : Nat} {y id : Int} (h : y ≠ id) (hq : p y = none) : ct p (f + 1) y id = false := by
  rw [ct, iqf h, hq]; rfl
theorem ct_s1 {p : Int → Option Int} {f : Nat} {y id q : Int} (h : y ≠ id) (hq : p y = some q) : ct p (f + 1) y id = ct p f q id := by
  rw [ct, iqf h, hq]; rfl
theorem dl_s0 {p : Int → Option Int} {f : Nat} {y n : Int} (hq : p y = none) : dl p (f + 1) y n = 0 := by
  rw [dl, hq]
theorem dl_s1 {p : Int → Option Int} {f : Nat} {y n q : Int} (hq : p y = some q) : dl p (f + 1) y n = if q = 0 then n else dl p f q (n + 1) := by
  rw [dl, hq]
theorem dl_ge {p : Int → Option Int} : ∀ (f : Nat) (y n : Int), dl p f y n ≠ 0 → n ≤ dl p f y n
  | 0, _, _, h => absurd rfl h
  | f + 1, y, n, h => by
    cases hq : p y with
    | none => rw [dl_s0 hq] at h; exact absurd rfl h
    | some q =>
      rw [dl_s1 hq] at h ⊢
      by_cases hz : q = 0
      · rw [if_pos hz]; omega
      · rw [if_neg hz] at h ⊢
        have := dl_ge f q (n + 1) h
        omega
theorem ct_more {p : Int → Option Int} {id : Int} (h0 : p 0 = none) (hid : id ≠ 0) : ∀ (f F : Nat) (y n : Int), dl p F y n ≠ 0 → dl p F y n < n + (f : Int) → ct p f y id = ct p (f + 1) y id
  | 0, F, y, n, h, h1 => by
    have := dl_ge F y n h
    omega
  | f + 1, 0, y, n, h, h1 => absurd rfl h
  | f + 1, F + 1, y, n, h, h1 => by
    by_cases he : y = id
    · rw [he, ct_self, ct_self]
    cases hq : p y with
    | none => rw [dl_s0 hq] at h; exact absurd rfl h
    | some q =>
      rw [ct_s1 he hq, ct_s1 he hq]
      rw [dl_s1 hq] at h h1
      by_cases hz : q = 0
      · subst hz
        have e : ∀ g : Nat, ct p g 0 id = false := fun g => by
          cases g with
          | zero => rw [ct, iqf (by omega)]
          | succ g => exact ct_s0 (by omega) h0
        rw [e, e]
      · rw [if_neg hz] at h h1
        exact ct_more h0 hid f F q (n + 1) h (by omega)
theorem dl_keep {p p' : Int → Option Int} {K : Int → Prop} (hK : ∀ y, K y → p y = p' y) (hS : ∀ y q, K y → p y = some q → q ≠ 0 → K q) : ∀ (f : Nat) (y n : Int), K y → dl p f y n = dl p' f y n
  | 0, _, _, _ => rfl
  | f + 1, y, n, hy => by
    cases hq : p y with
    | none => rw [dl_s0 hq, dl_s0 (by rw [← hK y hy, hq])]
    | some q =>
      rw [dl_s1 hq, dl_s1 (q := q) (by rw [← hK y hy, hq])]
      by_cases hz : q = 0
      · rw [if_pos hz, if_pos hz]
      · rw [if_neg hz, if_neg hz]
        exact dl_keep hK hS f q (n + 1) (hS y q hy hq hz)
def kept (s : TScene) (id : Int) : TScene := ⟨s.nodes.filter fun k => !ct (upOf s) 8 k.id id⟩
theorem kept_mem {s : TScene} {id : Int} {z : TNode} : z ∈ (kept s id).nodes ↔ z ∈ s.nodes ∧ ct (upOf s) 8 z.id id = false := by
  unfold kept
  rw [List.mem_filter, Bool.not_eq_true']
theorem under_in {s : TScene} {id : Int} (ha : 0 ≤ nodeAt s id) {k : TNode} (hk : k ∈ s.nodes) : isIn k.id (underOf s id) = ct (upOf s) 8 k.id id := by
  rw [Bool.eq_iff_iff]
  unfold isIn underOf
  rw [if_pos ha, List.any_eq_true]
  constructor
  · rintro ⟨y, hy, he⟩
    obtain ⟨z, hz, rfl⟩ := List.mem_map.1 hy
    have e : k.id = z.id := by simpa [ieq] using he
    rw [e]
    exact (List.mem_filter.1 hz).2
  · intro h
    exact ⟨k.id, List.mem_map.2 ⟨k, List.mem_filter.2 ⟨hk, h⟩, rfl⟩, iqt⟩
theorem m_DropNode {s : TScene} (hs : SB s) (hok : impl_SceneOk s = some true) (id : Int) : impl_DropNode s id = some (if 0 ≤ nodeAt s id then (kept s id, 0) else (s, 2)) := by
  have hn := hs.n
  unfold impl_DropNode
  rw [m_impl_copyScene hs, bnd_some, hok, bnd_some, cnd_true, m_impl_NodeAt hn, bnd_some]
  by_cases ha : 0 ≤ nodeAt s id
  case neg => rw [ilf (by omega), cnd_false, if_neg ha]
  rw [ilt ha, cnd_true, if_pos ha, m_impl_UnderOf hn, bnd_some]
  obtain ⟨l', d1, d2, d3⟩ := delf_DropNode (l := s.nodes) (ids := underOf s id) (under_len hn) hn
  have e : s.nodes.filter (fun k => !isIn k.id (underOf s id)) = (kept s id).nodes := List.filter_congr fun k hk => by rw [under_in ha hk]
  rw [d1, bnd_some]
  try dsimp only
  rw [slc_front d2, bnd_some, e]
theorem filter_len {α : Type} (q : α → Bool) : ∀ l : List α, (l.filter fun x => !q x).length + (l.filter q).length = l.length
  | [] => rfl
  | a :: l => by
    have := filter_len q l
    cases hq : q a <;> simp [List.filter_cons, hq] <;> omega
theorem drop_ok {s : TScene} {id : Int} (hs : SB s) (hok : impl_SceneOk s = some true) (ha : 0 ≤ nodeAt s id) :
    SB (kept s id) ∧ impl_SceneOk (kept s id) = some true ∧ (kept s id).nodes.length + (underOf s id).length = s.nodes.length ∧ nodeAt (kept s id) id < 0 := by
  obtain ⟨s8, sn, sx⟩ := (sceneOk_par hs.rows).1 hok
  have hlen : (kept s id).nodes.length + (underOf s id).length = s.nodes.length := by
    unfold kept underOf
    rw [if_pos ha, List.length_map]
    exact filter_len _ _
  have hb : SB (kept s id) := ⟨by have := hs.n; omega, fun y hy => hs.x y (kept_mem.1 hy).1⟩
  have hn' : ((kept s id).nodes.map (·.id)).Nodup := List.Nodup.sublist (List.filter_sublist.map _) sn
  have h1 : ∀ x ∈ s.nodes, 1 ≤ x.id := fun x hx => by
    have := (nodeOk_par (sx x hx).1).2.2
    rw [tin_t] at this; omega
  have hid : id ≠ 0 := by
    rcases idx_at (s := s) (id := id) with ⟨_, x, _, _, x3, x4⟩ | ⟨h, _, _⟩
    · have := h1 x x4; omega
    · omega
  have hp0 : upOf s 0 = none := (up_none fun x hx e => by have := h1 x hx; omega).1
  -- what stays has its parent
  have par : ∀ z ∈ (kept s id).nodes, z.parent = 0 ∨ ∃ w ∈ (kept s id).nodes, w.id = z.parent ∧ w.group = true := by
    intro z hz
    obtain ⟨z1, z2⟩ := kept_mem.1 hz
    rcases (sx z z1).2.1 with h0 | ⟨w, w1, w2, w3⟩
    · exact .inl h0
    · right
      refine ⟨w, kept_mem.2 ⟨w1, ?_⟩, w2, w3⟩
      have hne : z.id ≠ id := fun e => by rw [e, ct_self] at z2; cases z2
      have hu := up_mem sn z1
      rw [ct_s1 hne hu] at z2
      have hd := (sx w w1).2.2
      rw [tin_t] at hd
      have hdl : dpt (upOf s) w.id = dl (upOf s) 8 w.id 1 := by
        unfold dpt; rw [if_neg (by have := h1 w w1; omega)]
      rw [hdl] at hd
      have := ct_more (id := id) hp0 hid 7 8 w.id 1 (by omega) (by omega)
      rw [← this, w2]; exact z2
  have hup : ∀ z ∈ (kept s id).nodes, upOf s z.id = some z.parent ∧ upOf (kept s id) z.id = some z.parent := fun z hz => ⟨up_mem sn (kept_mem.1 hz).1, up_mem hn' hz⟩
  refine ⟨hb, (sceneOk_par hb.rows).2 ⟨by omega, hn', fun z hz => ⟨(sx z (kept_mem.1 hz).1).1, par z hz, ?_⟩⟩, hlen, ?_⟩
  · have hz1 := h1 z (kept_mem.1 hz).1
    have e : dpt (upOf (kept s id)) z.id = dpt (upOf s) z.id := by
      unfold dpt
      rw [if_neg (by omega), if_neg (by omega)]
      refine (dl_keep (K := fun y => ∃ z ∈ (kept s id).nodes, z.id = y) ?_ ?_ 8 z.id 1 ⟨z, hz, rfl⟩).symm
      · rintro y ⟨w, w1, rfl⟩
        rw [(hup w w1).1, (hup w w1).2]
      · rintro y q ⟨w, w1, rfl⟩ hq h0
        rw [(hup w w1).1] at hq
        have := Option.some.inj hq
        rcases par w w1 with h | ⟨v, v1, v2, _⟩
        · omega
        · exact ⟨v, v1, by rw [v2, this]⟩
    rw [e]
    exact (sx z (kept_mem.1 hz).1).2.2
  · exact (up_none fun x hx e => by
      have := (kept_mem.1 hx).2
      rw [e, ct_self] at this; cases this).2
theorem drop_app {s : TScene} {x : TNode} (hs : SB s) (hx : NB x) (h8 : s.nodes.length ≤ 8) (hok1 : impl_SceneOk s = some true) (hok : impl_SceneOk ⟨s.nodes ++ [x]⟩ = some true) (hf : ∀ y ∈ s.nodes, y.id ≠ x.id) :
    impl_DropNode ⟨s.nodes ++ [x]⟩ x.id = some (s, 0) := by
  have hb := app_sb hs hx h8
  obtain ⟨_, sn, sx⟩ := (sceneOk_par hb.rows).1 hok
  obtain ⟨_, _, sx1⟩ := (sceneOk_par hs.rows).1 hok1
  have hxm : x ∈ (TScene.mk (s.nodes ++ [x])).nodes := List.mem_append_right _ (List.mem_singleton.2 rfl)
  obtain ⟨x1, x2, x3⟩ := nodeOk_par (sx x hxm).1
  rw [tin_t] at x3
  have hne := par_ne (x := x) (fun y hy => (sx1 y hy).2.1) hf (by omega)
  have ha : 0 ≤ nodeAt ⟨s.nodes ++ [x]⟩ x.id := (idx_toNat (at_mem sn hxm)).1
  rw [m_DropNode hb hok, if_pos ha]
  have hct : ∀ y ∈ s.nodes, ct (upOf ⟨s.nodes ++ [x]⟩) 8 y.id x.id = false := fun y hy => ct_no (fun a q e => by
    obtain ⟨w, w1, _, w3⟩ := up_par e
    rcases List.mem_append.1 w1 with w1 | w1
    · rw [← w3]; exact hne w w1
    · rw [List.mem_singleton] at w1; rw [← w3, w1]; exact x2.symm) 8 y.id (hf y hy)
  have e : kept ⟨s.nodes ++ [x]⟩ x.id = s := by
    unfold kept
    rw [List.filter_append, List.filter_eq_self.2 (fun y hy => by rw [hct y hy]; rfl), List.filter_cons, ct_self]
    simp
  rw [e]
theorem createsL_0 {s : TScene} (hs : SB s) (hok : impl_SceneOk s = some true) : loopI (laws_FnCreates_l0 s) 0 = some (.inl ()) := by
  have hn := hs.n
  obtain ⟨s8, sn, _⟩ := (sceneOk_par hs.rows).1 hok
  have key := loopI_n (f := laws_FnCreates_l0 s) (fun i => (i : Int)) s.nodes.length (r := .inl ()) (fun i hi => ?_) ?_
  · exact key
  · have ha : 0 ≤ nodeAt s s.nodes[i].id := by rw [nodup_at sn hi]; omega
    obtain ⟨k1, k2, k3, k4⟩ := drop_ok hs hok ha
    rw [laws_FnCreates_l0, ilf (by omega), cnd_false, idx_nat hi, bnd_some, m_spec_UnderOf hn, bnd_some, m_DropNode hs hok, if_pos ha, bnd_some]
    try dsimp only
    rw [iqt, cnd_true, k2, bnd_some, cnd_true, wr_in (by omega)]
    have e : ((kept s s.nodes[i].id).nodes.length : Int) + ((underOf s s.nodes[i].id).length : Int) = (s.nodes.length : Int) := by omega
    rw [e, iqt, cnd_true, m_impl_NodeAt k1.n, bnd_some, ilf k4, cnd_false, wr_in (by omega)]
    rfl
  · rw [laws_FnCreates_l0, ilt (by omega), cnd_true]
theorem createsL_1 {s : TScene} (hs : SB s) (hok : impl_SceneOk s = some true) : loopI (laws_FnCreates_l1 s) 0 = some (.inl ()) := by
  have hn := hs.n
  obtain ⟨s8, sn, _⟩ := (sceneOk_par hs.rows).1 hok
  have key := loopI_n (f := laws_FnCreates_l1 s) (fun i => (i : Int)) s.nodes.length (r := .inl ()) (fun i hi => ?_) ?_
  · exact key
  · have ha : 0 ≤ nodeAt s s.nodes[i].id := by rw [nodup_at sn hi]; omega
    obtain ⟨k1, k2, k3, k4⟩ := drop_ok hs hok ha
    rw [laws_FnCreates_l1, ilf (by omega), cnd_false, idx_nat hi, bnd_some, m_spec_UnderOf hn, bnd_some, m_DropNode hs hok, if_pos ha, bnd_some]
    try dsimp only
    rw [iqt, cnd_true, k2, bnd_some, cnd_true, wr_in (by omega)]
    have e : ((kept s s.nodes[i].id).nodes.length : Int) + ((underOf s s.nodes[i].id).length : Int) = (s.nodes.length : Int) := by omega
    rw [e, iqt, cnd_true, m_impl_NodeAt k1.n, bnd_some, ilf k4, cnd_false, wr_in (by omega)]
    rfl
  · rw [laws_FnCreates_l1, ilt (by omega), cnd_true]
theorem create_zero {s : TScene} (hs : SB s) {x : TNode} (hx : x.id = 0) : impl_CreateNode s x = some (s, 1) := by
  have e : impl_NodeOk x = some false := by
    have t : tin 0 1 99 = false := by decide
    unfold impl_NodeOk
    rw [m_impl_inRange, hx, t, bnd_some, cnd_false]
  unfold impl_CreateNode
  rw [m_impl_copyScene hs, bnd_some, e, bnd_some, cnd_false]
theorem m_FnCreates {a : List Int} (_ : okL (okN .u8) a) : laws_FnCreates a = some true := by
  unfold laws_FnCreates laws_big
  rw [bnd_some]
  by_cases hbig : (a.length : Int) ≤ 1048576
  case neg => rw [ilf (by omega)]; rfl
  rw [ilt hbig]
  obtain ⟨s, e1, sr⟩ := drawSceneR (a := a) (by omega)
  obtain ⟨x, e2, xr, xi⟩ := drawNodeR (a := a) (by omega)
  have hs := sr.sb
  have hx := xr.ns.big
  have s5 := sr.n
  simp only [Bool.not_true, cnd_false]
  rw [e1, bnd_some, e2, bnd_some]
  obtain ⟨⟨t, no⟩, r1, r2, r3⟩ := s_CreateNode hs hx
  have h98 : nodeAt s 98 < 0 := (up_none fun y hy e => by
    have := (sr.x y hy).2.2
    omega).2
  have d98 : impl_DropNode s 98 = some (s, 2) := by rw [m_DropNode hs sr.ok, if_neg (by omega)]
  rw [r1, bnd_some]
  try dsimp only
  rw [r2, bnd_some]
  try dsimp only
  rw [iqt, cnd_true]
  rcases r3 with ⟨q1, q2⟩ | ⟨q1, q2, q3, q4, q5, q6, q7⟩
  · try dsimp only at q1 q2
    subst q2
    rw [sr.ok, bnd_some, cnd_true, iqf q1, cnd_false, m_sameScene hs, bnd_some, cnd_true, createsL_1 hs sr.ok, bnd_some]
    try dsimp only
    rw [d98, bnd_some]
    try dsimp only
    rw [create_zero hs rfl, bnd_some]
    try dsimp only
    rw [iqt, cnd_true]; rfl
  · cases q1
    have hok := app_ok hs hx sr.ok q3 q4 q5 q6 q7
    have hl : ((TScene.mk (s.nodes ++ [x])).nodes.length : Int) = (s.nodes.length : Int) + 1 := by simp
    have hx2 : idx (TScene.mk (s.nodes ++ [x])).nodes (s.nodes.length : Int) = some x := by
      have : s.nodes.length < (s.nodes ++ [x]).length := by simp
      have h := idx_nat (l := s.nodes ++ [x]) this
      rw [h]; simp
    have hm : (s.nodes.length : Int) + 1 - 1 = (s.nodes.length : Int) := by omega
    rw [hok, bnd_some, cnd_true, iqt, cnd_true, drop_app hs hx (by omega) sr.ok hok q5, bnd_some]
    try dsimp only
    rw [hl, hm, wr_in (by omega), hx2, bnd_some, m_sameNode hx, bnd_some, cnd_true, iqt, cnd_true, m_sameScene hs, bnd_some, cnd_true, createsL_0 hs sr.ok, bnd_some]
    try dsimp only
    rw [d98, bnd_some]
    try dsimp only
    rw [create_zero hs rfl, bnd_some]
    try dsimp only
    rw [iqt, cnd_true]; rfl

end Go.Proofs.Ytafljhadfoaceaa.Am
