import Derived.Test.YtoafihhhdnmliaaAmO1Mo
import Derived.Test.YtoafihhhdnmliaaAmRo
import Derived.Test.YtoafihhhdnmliaaAmLw
set_option linter.unusedVariables false
set_option linter.unusedSimpArgs false
set_option linter.unusedSectionVars false
namespace Go.Proofs.Ytoafihhhdnmliaa.Am
open Go Go.Proofs
end Go.Proofs.Ytoafihhhdnmliaa.Am
namespace Go.Proofs.Ytoafihhhdnmliaa.Am
open Go Go.Proofs
set_option linter.unusedVariables false
set_option linter.unusedSimpArgs false
end Go.Proofs.Ytoafihhhdnmliaa.Am
namespace Go.Proofs.Ytoafihhhdnmliaa.Am
open Go Go.Proofs
set_option linter.unusedSimpArgs false
set_option linter.unusedVariables false
set_option maxRecDepth 100000
/-! ## Small words -/
def tin (x a b : Int) : Bool := ile a x && ile x b
theorem tin_t {x a b : Int} : tin x a b = true ↔ a ≤ x ∧ x ≤ b := by simp [tin, ile_t]
@[simp] theorem m_spec_l01In (x a b : Int) : spec_l01In x a b = some (tin x a b) := by
  unfold spec_l01In tin; cases ile a x <;> simp
@[simp] theorem m_impl_inRange (x a b : Int) : impl_inRange x a b = some (tin x a b) := by
  unfold impl_inRange tin; cases ile a x <;> simp
@[simp] theorem m_impl_isSide (x : Int) : impl_isSide x = some (tin x 1 12) := by unfold impl_isSide; simp
def tileCount (w h : Int) : Int := if tin w 1 12 && tin h 1 12 then ((w + 3) / 4) * ((h + 3) / 4) else 0
theorem four {w : Int} (h : tin w 1 12 = true) : (w + 3) / 4 = 1 ∨ (w + 3) / 4 = 2 ∨ (w + 3) / 4 = 3 := by rw [tin_t] at h; omega
theorem wr9 {w h : Int} (hw : tin w 1 12 = true) (hh : tin h 1 12 = true) : IntKind.i64.wrap ((w + 3) / 4 * ((h + 3) / 4)) = (w + 3) / 4 * ((h + 3) / 4) := by
  refine wr_in ?_
  rcases four hw with e | e | e <;> rcases four hh with f | f | f <;> rw [e, f] <;> decide
theorem up4 {w : Int} (h : tin w 1 12 = true) : IntKind.i64.wrap ((IntKind.i64.wrap (w + 3)).tdiv 4) = (w + 3) / 4 := by
  rw [tin_t] at h
  rw [wr_in (n := w + 3) (by omega), Int.tdiv_eq_ediv_of_nonneg (by omega), wr_in (by omega)]
def TBox.empty (b : TBox) : Bool := ile b.x1 b.x0 || ile b.y1 b.y0
def TBox.zero : TBox := ⟨0, 0, 0, 0⟩
def meet (a b : TBox) : TBox :=
  let c : TBox := ⟨max a.x0 b.x0, max a.y0 b.y0, min a.x1 b.x1, min a.y1 b.y1⟩
  if c.empty then .zero else c
@[simp] theorem m_impl_Empty (b : TBox) : impl_Empty b = some b.empty := by
  unfold impl_Empty TBox.empty; cases ile b.x1 b.x0 <;> simp
@[simp] theorem m_spec_Empty (b : TBox) : spec_Empty b = some b.empty := by
  unfold spec_Empty TBox.empty; cases ile b.x1 b.x0 <;> simp
@[simp] theorem m_impl_MeetBox (a b : TBox) : impl_MeetBox a b = some (meet a b) := by
  unfold impl_MeetBox meet
  simp
  cases h : TBox.empty ⟨max a.x0 b.x0, max a.y0 b.y0, min a.x1 b.x1, min a.y1 b.y1⟩ <;> simp [TBox.zero]
def inBox (b : TBox) (p : TPoint) : Bool := decide (b.x0 ≤ p.x ∧ p.x < b.x1 ∧ b.y0 ≤ p.y ∧ p.y < b.y1)
@[simp] theorem m_spec_InBox (b : TBox) (p : TPoint) : spec_InBox b p = some (inBox b p) := by
  unfold spec_InBox inBox
  cases h0 : ile b.x0 p.x <;> simp only [ile_t, ile_f] at h0
  · simp; intro h; omega
  · cases h1 : ile b.x1 p.x <;> simp only [ile_t, ile_f] at h1
    · cases h2 : ile b.y0 p.y <;> simp only [ile_t, ile_f] at h2
      · simp; intro _ _ h; omega
      · cases h3 : ile b.y1 p.y <;> simp only [ile_t, ile_f] at h3
        · simp; omega
        · simp; omega
    · simp; intro _ h; omega

def tileBox (w h i : Int) : TBox :=
  if tin i 0 (tileCount w h - 1) then
    let x := i % ((w + 3) / 4) * 4
    let y := i / ((w + 3) / 4) * 4
    meet ⟨x, y, x + 4, y + 4⟩ ⟨0, 0, w, h⟩
  else .zero
theorem tc_bd (w h : Int) : 0 ≤ tileCount w h ∧ tileCount w h ≤ 9 := by
  unfold tileCount
  cases hw : tin w 1 12 <;> cases hh : tin h 1 12 <;> simp
  rcases four hw with e | e | e <;> rcases four hh with f | f | f <;> rw [e, f] <;> decide
@[simp] theorem tc_wrap (w h : Int) : IntKind.i64.wrap (tileCount w h - 1) = tileCount w h - 1 := by
  have := tc_bd w h
  exact wr_in (by omega)
theorem tb_facts {w h i : Int} (hi : tin i 0 (tileCount w h - 1) = true) : tin w 1 12 = true ∧ 0 ≤ i ∧ i ≤ 8 := by
  have := tc_bd w h
  rw [tin_t] at hi
  refine ⟨?_, by omega, by omega⟩
  cases hw : tin w 1 12 with
  | true => rfl
  | false =>
    have : tileCount w h = 0 := by simp [tileCount, hw]
    omega
theorem tb_x {r i : Int} (hr : r = 1 ∨ r = 2 ∨ r = 3) (h0 : 0 ≤ i) (h1 : i ≤ 8) : IntKind.i64.wrap (i.tmod r * 4) = i % r * 4 ∧ IntKind.i64.wrap (i % r * 4 + 4) = i % r * 4 + 4 ∧
    IntKind.i64.wrap (IntKind.i64.wrap (i.tdiv r) * 4) = i / r * 4 ∧ IntKind.i64.wrap (i / r * 4 + 4) = i / r * 4 + 4 := by
  rw [Int.tmod_eq_emod_of_nonneg h0, Int.tdiv_eq_ediv_of_nonneg h0]
  rcases hr with rfl | rfl | rfl
  · rw [wr_in (n := i / 1) (by omega)]; exact ⟨wr_in (by omega), wr_in (by omega), wr_in (by omega), wr_in (by omega)⟩
  · rw [wr_in (n := i / 2) (by omega)]; exact ⟨wr_in (by omega), wr_in (by omega), wr_in (by omega), wr_in (by omega)⟩
  · rw [wr_in (n := i / 3) (by omega)]; exact ⟨wr_in (by omega), wr_in (by omega), wr_in (by omega), wr_in (by omega)⟩
theorem four' {w : Int} (h : tin w 1 12 = true) : ¬ (w + 3) / 4 = 0 := by rcases four h with e | e | e <;> omega
/-! ## Draws -/
structure CurOk (c : TL01Cur) : Prop where
  lo : 0 ≤ c.i
  hi : c.i ≤ c.b.length
  big : c.b.length ≤ 1048576
theorem idx_of {α : Type} {l : List α} {i : Int} (h0 : 0 ≤ i) (h1 : i < l.length) : ∃ x, idx l i = some x ∧ x ∈ l := by
  have : i.toNat < l.length := by omega
  refine ⟨l[i.toNat], ?_, List.getElem_mem this⟩
  unfold idx; rw [if_pos h0]; exact List.getElem?_eq_getElem this
theorem and255 (x : Int) : 0 ≤ andI .i64 x 255 ∧ andI .i64 x 255 ≤ 255 := by
  have h : (BitVec.ofInt 64 x &&& BitVec.ofInt 64 255).toNat ≤ 255 := by
    rw [BitVec.toNat_and]
    exact Nat.le_trans Nat.and_le_right (by decide)
  have h2 : (((BitVec.ofInt 64 x &&& BitVec.ofInt 64 255).toNat : Nat) : Int) ≤ 255 := by exact_mod_cast h
  have e : andI .i64 x 255 = IntKind.i64.wrap (((BitVec.ofInt 64 x &&& BitVec.ofInt 64 255).toNat : Nat) : Int) := rfl
  rw [e, wr_in ⟨by omega, by omega⟩]
  exact ⟨by omega, h2⟩
theorem new_ok (a : List Int) (h : a.length ≤ 1048576) : ∃ c, spec_l01New a = some c ∧ CurOk c := by
  obtain ⟨s, h1, _⟩ := loopI_inv (f := spec_l01New_l0 a) (fun i (s : Int) => (s, (i : Int))) (min a.length 4000) (fun _ _ => True) (fun s => s) (s0 := IntKind.i64.wrap (28001 + (a.length : Int))) trivial
    (fun i s hi _ => by
      have e1 : ile (a.length : Int) (i : Int) = false := by rw [ile_f]; omega
      have e2 : ile 4000 (i : Int) = false := by rw [ile_f]; omega
      obtain ⟨x, hx, _⟩ := idx_of (l := a) (i := (i : Int)) (by omega) (by omega)
      have e3 : spec_l01New_l0 a (s, (i : Int)) = some (.inl (andI .i64 (IntKind.i64.wrap (IntKind.i64.wrap (IntKind.i64.wrap (s * 131) + IntKind.i64.wrap x) + 7)) 1073741823, ((i + 1 : Nat) : Int))) := by
        simp only [spec_l01New_l0, e1, e2, cnd_false, hx, bnd_some]
        rw [wr_in (n := (i : Int) + 1) (by omega)]
        rfl
      exact ⟨_, e3, trivial⟩)
    (fun s _ => by
      rcases Nat.le_total a.length 4000 with hl | hl
      · rw [Nat.min_eq_left hl]
        simp [spec_l01New_l0]
      · rw [Nat.min_eq_right hl]
        cases e1 : ile (a.length : Int) ((4000 : Nat) : Int)
        · have e2 : ile 4000 ((4000 : Nat) : Int) = true := by decide
          simp only [spec_l01New_l0, e1, e2, cnd_true, cnd_false]
        · simp only [spec_l01New_l0, e1, cnd_true])
  refine ⟨⟨a, 0, s⟩, ?_, by simp, by simp, h⟩
  unfold spec_l01New
  have : loopI (spec_l01New_l0 a) (IntKind.i64.wrap (28001 + (a.length : Int)), 0) = some s := h1
  rw [this]; rfl
theorem byte_ok {c : TL01Cur} (h : CurOk c) : ∃ r c', spec_l01Byte c = some (r, c') ∧ 0 ≤ r ∧ r ≤ 255 ∧ CurOk c' := by
  unfold spec_l01Byte
  cases e : ile (c.b.length : Int) c.i
  · rw [ile_f] at e
    obtain ⟨x, hx, _⟩ := idx_of (l := c.b) (i := c.i) h.lo e
    simp only [cnd_false, hx, bnd_some]
    have := h.big
    have := h.lo
    rw [wr_in (n := c.i + 1) (by omega)]
    exact ⟨_, _, rfl, (and255 _).1, (and255 _).2, by simp; omega, by simp; omega, h.big⟩
  · simp only [cnd_true]
    exact ⟨_, _, rfl, (and255 _).1, (and255 _).2, h.lo, h.hi, h.big⟩
theorem below_ok {c : TL01Cur} (h : CurOk c) {n : Int} (h0 : 0 < n) : ∃ r c', spec_l01Below n c = some (r, c') ∧ 0 ≤ r ∧ r < n ∧ CurOk c' := by
  unfold spec_l01Below
  have e0 : ile n 0 = false := by rw [ile_f]; exact h0
  have hn : ¬ n = 0 := by omega
  simp only [e0, cnd_false]
  obtain ⟨r1, c1, q1, a1, b1, k1⟩ := byte_ok h
  cases e1 : ile n 256
  · obtain ⟨r2, c2, q2, a2, b2, k2⟩ := byte_ok k1
    obtain ⟨r3, c3, q3, a3, b3, k3⟩ := byte_ok k2
    obtain ⟨r4, c4, q4, a4, b4, k4⟩ := byte_ok k3
    simp only [cnd_false, q1, q2, q3, q4, bnd_some, chkP_pos hn]
    rw [wr_in (n := r1 * 16777216) (by omega), wr_in (n := r2 * 65536) (by omega), wr_in (n := r3 * 256) (by omega)]
    rw [wr_in (n := r1 * 16777216 + r2 * 65536) (by omega)]
    rw [wr_in (n := r1 * 16777216 + r2 * 65536 + r3 * 256) (by omega)]
    rw [wr_in (by omega)]
    exact ⟨_, _, rfl, Int.tmod_nonneg _ (by omega), Int.tmod_lt_of_pos _ h0, k4⟩
  · simp only [cnd_true, q1, bnd_some, chkP_pos hn]
    exact ⟨_, _, rfl, Int.tmod_nonneg _ a1, Int.tmod_lt_of_pos _ h0, k1⟩
theorem places_ok {a : List Int} (h : a.length ≤ 1048576) : ∃ l, spec_DrawPlaces a = some l ∧ l.length = 12 ∧ ∀ x ∈ l, 0 ≤ x ∧ x < 10000 := by
  obtain ⟨c, h1, k⟩ := new_ok a h
  obtain ⟨r, c1, h2, _, _, k1⟩ := byte_ok k
  obtain ⟨s, h3, h4⟩ := loopI_inv (f := spec_DrawPlaces_l0) (fun i (s : TL01Cur × List Int) => ((i : Int), s.1.b, s.1.i, s.1.h, s.2)) 12
    (fun i s => CurOk s.1 ∧ s.2.length = i ∧ ∀ x ∈ s.2, 0 ≤ x ∧ x < 10000) (fun s => s.2) (s0 := (c1, [])) ⟨k1, rfl, by simp⟩
    (fun i s hi hI => by
      obtain ⟨⟨b, j, hh⟩, l⟩ := s
      obtain ⟨g1, g2, g3⟩ := hI
      obtain ⟨r, c', q1, q2, q3, q4⟩ := below_ok g1 (n := 10000) (by decide)
      have e1 : ile 12 (i : Int) = false := by rw [ile_f]; omega
      simp only at g2 q1
      have e2 : (l.length + 1) * 8 ≤ 17592186044416 := by omega
      refine ⟨(c', l ++ [r]), ?_, q4, by simp [g2], ?_⟩
      · simp only [spec_DrawPlaces_l0, e1, cnd_false, q1, bnd_some, chkP_pos e2, nam]
        rw [wr_in (n := (i : Int) + 1) (by omega)]
        rfl
      · intro x hx
        simp only [List.mem_append, List.mem_singleton] at hx
        rcases hx with hx | rfl
        · exact g3 x hx
        · exact ⟨q2, q3⟩)
    (fun s hI => by
      have e1 : ile 12 ((12 : Nat) : Int) = true := by decide
      simp only [spec_DrawPlaces_l0, e1, cnd_true])
  refine ⟨s.2, ?_, h4.2.1, h4.2.2⟩
  unfold spec_DrawPlaces
  have : loopI spec_DrawPlaces_l0 (0, c1.b, c1.i, c1.h, []) = some s.2 := h3
  simp only [h1, h2, bnd_some, this]
/-! ## Each square is in one tile -/
section
variable {a0 : List Int} {v3 v4 w h : Int}
end

/-! ## Loops that ask the same of all -/
theorem loopI_all {f : Int → Option (Int ⊕ (Unit ⊕ Unit))} (n : Nat) (p : Nat → Bool) (hn : n ≤ 9223372036854775807)
    (hs : ∀ i : Nat, i < n → f (i : Int) = cnd (p i) (some (.inl (IntKind.i64.wrap ((i : Int) + 1)))) (some (.inr (.inr ())))) (he : f (n : Int) = some (.inr (.inl ()))) :
    loopI f 0 = some (if (List.range n).all p then .inl () else .inr ()) := by
  have h := loopI_find (f := f) (fun i : Nat => (i : Int)) n (fun i => !(p i)) (fun _ => .inr ()) (r := .inl ()) (fun i hi => by
    rw [hs i hi, wr_in (by omega)]
    cases p i <;> simp) he
  have e : loopI f 0 = loopI f ((0 : Nat) : Int) := rfl
  rw [e, h]
  congr 1
  cases hq : (List.range n).find? (fun i => !(p i)) with
  | none =>
    rw [List.find?_eq_none] at hq
    have : (List.range n).all p = true := List.all_eq_true.2 fun x hx => by simpa using hq x hx
    rw [this]; rfl
  | some i =>
    have h1 := List.find?_some hq
    have h2 := List.mem_of_find?_eq_some hq
    have : (List.range n).all p = false := by
      rw [List.all_eq_false]; exact ⟨i, h2, by simpa using h1⟩
    rw [this]; rfl
theorem range_all {α : Type} {l : List α} {q : α → Bool} {p : Nat → Bool} (h : ∀ i (hi : i < l.length), p i = q l[i]) : (List.range l.length).all p = l.all q := by
  rw [Bool.eq_iff_iff, List.all_eq_true, List.all_eq_true]
  constructor
  · intro k x hx
    obtain ⟨i, hi, rfl⟩ := List.getElem_of_mem hx
    rw [← h i hi]; exact k i (List.mem_range.2 hi)
  · intro k i hi
    have hi := List.mem_range.1 hi
    rw [h i hi]; exact k _ (List.getElem_mem hi)
/-- Of a row, each element asked the same. -/
theorem loopI_row {α : Type} {l : List α} {f : Int → Option (Int ⊕ (Unit ⊕ Unit))} (q : α → Bool) (hn : l.length ≤ 9223372036854775807)
    (hs : ∀ (i : Nat) (h : i < l.length), f (i : Int) = cnd (q l[i]) (some (.inl (IntKind.i64.wrap ((i : Int) + 1)))) (some (.inr (.inr ())))) (he : f (l.length : Int) = some (.inr (.inl ()))) :
    loopI f 0 = some (if l.all q then .inl () else .inr ()) := by
  have h := loopI_all (f := f) l.length (fun i => if h : i < l.length then q l[i] else false) hn (fun i hi => by rw [hs i hi]; simp [hi]) he
  rw [h, range_all (q := q) (fun i hi => by simp [hi])]

/-! ## Masks -/
def TBox.isZero (b : TBox) : Bool := decide (b.x0 = 0) && (decide (b.y0 = 0) && (decide (b.x1 = 0) && (decide (b.y1 = 0))))
def maskBox (b : TBox) : Bool := !b.empty && tin b.x0 (-2000) 2000 && tin b.y0 (-2000) 2000 && tin b.x1 (-2000) 2000 && tin b.y1 (-2000) 2000 && ile (b.x1 - b.x0) 60 && ile (b.y1 - b.y0) 60
def maskOk (m : TMask) : Bool := if m.bits.length = 0 then m.box.isZero else maskBox m.box && decide ((m.bits.length : Int) = (m.box.x1 - m.box.x0) * (m.box.y1 - m.box.y0)) && m.bits.all fun x => tin x 0 15
theorem empty_f {b : TBox} : b.empty = false ↔ b.x0 < b.x1 ∧ b.y0 < b.y1 := by simp [TBox.empty, ile_f]
theorem mb_facts {b : TBox} (h : maskBox b = true) : b.x0 < b.x1 ∧ b.y0 < b.y1 ∧ -2000 ≤ b.x0 ∧ b.x1 ≤ 2000 ∧ -2000 ≤ b.y0 ∧ b.y1 ≤ 2000 ∧ b.x1 - b.x0 ≤ 60 ∧ b.y1 - b.y0 ≤ 60 := by
  simp only [maskBox, Bool.and_eq_true, Bool.not_eq_true', empty_f, tin_t, ile_t] at h
  omega
theorem m_spec_l11Box (b : TBox) : spec_l11Box b = some (maskBox b) := by
  unfold spec_l11Box maskBox
  simp only [m_spec_Empty, m_spec_l01In, bnd_some]
  cases h0 : b.empty <;> simp only [cnd_true, cnd_false, Bool.not_true, Bool.not_false, Bool.false_and, Bool.true_and]
  cases h1 : tin b.x0 (-2000) 2000 <;> simp only [cnd_true, cnd_false, Bool.false_and, Bool.true_and]
  cases h2 : tin b.y0 (-2000) 2000 <;> simp only [cnd_true, cnd_false, Bool.false_and, Bool.true_and]
  cases h3 : tin b.x1 (-2000) 2000 <;> simp only [cnd_true, cnd_false, Bool.false_and, Bool.true_and]
  cases h4 : tin b.y1 (-2000) 2000 <;> simp only [cnd_true, cnd_false, Bool.false_and, Bool.true_and]
  rw [tin_t] at h1 h2 h3 h4
  rw [wr_in (by omega), wr_in (by omega)]
  cases h5 : ile (b.x1 - b.x0) 60 <;> simp
theorem m_impl_isMaskBox (b : TBox) : impl_isMaskBox b = some (maskBox b) := by
  unfold impl_isMaskBox maskBox
  simp only [m_impl_Empty, bnd_some]
  cases h0 : b.empty <;> simp only [cnd_true, cnd_false, Bool.not_true, Bool.not_false, Bool.false_and, Bool.true_and]
  rw [empty_f] at h0
  cases h1 : ile (-2000) b.x0 <;> simp only [cnd_true, cnd_false]
  · rw [ile_f] at h1
    have : tin b.x0 (-2000) 2000 = false := by rw [← Bool.not_eq_true, tin_t]; omega
    simp [this]
  cases h2 : ile (-2000) b.y0 <;> simp only [cnd_true, cnd_false]
  · rw [ile_f] at h2
    have : tin b.y0 (-2000) 2000 = false := by rw [← Bool.not_eq_true, tin_t]; omega
    simp [this]
  cases h3 : ile b.x1 2000 <;> simp only [cnd_true, cnd_false]
  · rw [ile_f] at h3
    have : tin b.x1 (-2000) 2000 = false := by rw [← Bool.not_eq_true, tin_t]; omega
    simp [this]
  cases h4 : ile b.y1 2000 <;> simp only [cnd_true, cnd_false]
  · rw [ile_f] at h4
    have : tin b.y1 (-2000) 2000 = false := by rw [← Bool.not_eq_true, tin_t]; omega
    simp [this]
  rw [ile_t] at h1 h2 h3 h4
  have t1 : tin b.x0 (-2000) 2000 = true := by rw [tin_t]; omega
  have t2 : tin b.y0 (-2000) 2000 = true := by rw [tin_t]; omega
  have t3 : tin b.x1 (-2000) 2000 = true := by rw [tin_t]; omega
  have t4 : tin b.y1 (-2000) 2000 = true := by rw [tin_t]; omega
  rw [wr_in (by omega), wr_in (by omega)]
  cases h5 : ile (b.x1 - b.x0) 60 <;> simp [t1, t2, t3, t4]
theorem mb_prod {b : TBox} (h : maskBox b = true) : 0 < (b.x1 - b.x0) * (b.y1 - b.y0) ∧ (b.x1 - b.x0) * (b.y1 - b.y0) ≤ 3600 := by
  obtain ⟨h1, h2, _, _, _, _, h3, h4⟩ := mb_facts h
  refine ⟨Int.mul_pos (by omega) (by omega), ?_⟩
  calc (b.x1 - b.x0) * (b.y1 - b.y0) ≤ 60 * (b.y1 - b.y0) := Int.mul_le_mul_of_nonneg_right h3 (by omega)
    _ ≤ 60 * 60 := Int.mul_le_mul_of_nonneg_left h4 (by omega)
theorem mb_wrap {b : TBox} (h : maskBox b = true) : IntKind.i64.wrap (IntKind.i64.wrap (b.x1 - b.x0) * IntKind.i64.wrap (b.y1 - b.y0)) = (b.x1 - b.x0) * (b.y1 - b.y0) := by
  have := mb_facts h
  have := mb_prod h
  rw [wr_in (n := b.x1 - b.x0) (by omega), wr_in (n := b.y1 - b.y0) (by omega), wr_in (by omega)]
theorem zero_box {b : TBox} (h : b.isZero = true) : maskBox b = false := by
  simp only [TBox.isZero, Bool.and_eq_true, decide_eq_true_eq] at h
  have : b.empty = true := by rw [← Bool.not_eq_false, empty_f]; omega
  simp [maskBox, this]
theorem m_spec_MaskOk {m : TMask} (h : m.bits.length ≤ 9223372036854775807) : spec_MaskOk m = some (maskOk m) := by
  unfold spec_MaskOk maskOk
  by_cases h0 : m.bits.length = 0
  · rw [if_pos h0, h0]
    simp [ieq, andB, TBox.isZero]
  · rw [if_neg h0, iqf (by omega), cnd_false, m_spec_l11Box, bnd_some]
    cases h1 : maskBox m.box with
    | false => simp
    | true =>
      rw [cnd_true, mb_wrap h1]
      by_cases h2 : (m.bits.length : Int) = (m.box.x1 - m.box.x0) * (m.box.y1 - m.box.y0)
      · rw [h2, iqt, cnd_true, loopI_row (l := m.bits) (fun x => tin x 0 15) h (fun i hi => ?_) ?_]
        · cases m.bits.all (fun x => tin x 0 15) <;> simp
        · rw [spec_MaskOk_l0, ilt (by omega), cnd_true]
        · rw [spec_MaskOk_l0, ilf (by omega), cnd_false, idx_nat hi, bnd_some, m_spec_l01In, bnd_some]
      · rw [iqf h2, cnd_false]; simp [h2]
theorem m_impl_MaskOk {m : TMask} (h : m.bits.length ≤ 9223372036854775807) : impl_MaskOk m = some (maskOk m) := by
  unfold impl_MaskOk maskOk
  have e : andB (decide (m.box.x0 = 0)) (andB (decide (m.box.y0 = 0)) (andB (decide (m.box.x1 = 0)) (andB (decide (m.box.y1 = 0)) true))) = m.box.isZero := by simp [andB, TBox.isZero]
  rw [e]
  cases hz : m.box.isZero with
  | true =>
    rw [cnd_true]
    by_cases h0 : m.bits.length = 0
    · simp [h0, ieq]
    · simp [h0, zero_box hz, ieq]
  | false =>
    rw [cnd_false, m_impl_isMaskBox, bnd_some]
    cases h1 : maskBox m.box with
    | false => rw [cnd_false]; simp
    | true =>
      have := mb_prod h1
      rw [cnd_true, mb_wrap h1]
      by_cases h2 : (m.bits.length : Int) = (m.box.x1 - m.box.x0) * (m.box.y1 - m.box.y0)
      · rw [if_neg (by omega), h2, iqt, cnd_true, loopI_row (l := m.bits) (fun x => tin x 0 15) h (fun i hi => ?_) ?_]
        · cases m.bits.all (fun x => tin x 0 15) <;> simp
        · rw [impl_MaskOk_l0, ilt (by omega), cnd_true]
        · rw [impl_MaskOk_l0, ilf (by omega), cnd_false, idx_nat hi, bnd_some, m_impl_inRange, bnd_some]
      · rw [iqf h2, cnd_false]
        by_cases h0 : m.bits.length = 0
        · simp [h0]
        · simp [h0, h2]


/-! ## The first of a row that is asked for -/
/-! ## Caches -/
/-! ## Surfaces -/
def laidOk (c : TColor) : Bool := tin c.r 0 255 && tin c.g 0 255 && tin c.b 0 255 && tin c.a 0 255 && ile c.r c.a && ile c.g c.a && ile c.b c.a
def surfaceOk (s : TSurface) : Bool := tin s.w 1 12 && tin s.h 1 12 && decide ((s.pix.length : Int) = s.w * s.h) && s.pix.all laidOk
theorem m_spec_ColorOk (c : TColor) : spec_ColorOk c = some (tin c.r 0 255 && tin c.g 0 255 && tin c.b 0 255 && tin c.a 0 255) := by
  unfold spec_ColorOk
  simp only [m_spec_l01In, bnd_some]
  cases tin c.r 0 255 <;> cases tin c.g 0 255 <;> cases tin c.b 0 255 <;> simp
theorem m_impl_isByte (x : Int) : impl_isByte x = some (tin x 0 255) := by unfold impl_isByte; simp only [m_impl_inRange, bnd_some]
theorem m_impl_ColorOk (c : TColor) : impl_ColorOk c = some (tin c.r 0 255 && tin c.g 0 255 && tin c.b 0 255 && tin c.a 0 255) := by
  unfold impl_ColorOk
  simp only [m_impl_isByte, bnd_some]
  cases tin c.r 0 255 <;> cases tin c.g 0 255 <;> cases tin c.b 0 255 <;> simp
theorem m_spec_LaidOk (c : TColor) : spec_LaidOk c = some (laidOk c) := by
  unfold spec_LaidOk laidOk
  rw [m_spec_ColorOk, bnd_some]
  cases (tin c.r 0 255 && tin c.g 0 255 && tin c.b 0 255 && tin c.a 0 255) <;> simp
  cases ile c.r c.a <;> cases ile c.g c.a <;> simp
theorem m_impl_LaidOk (c : TColor) : impl_LaidOk c = some (laidOk c) := by
  unfold impl_LaidOk laidOk
  rw [m_impl_ColorOk, bnd_some]
  cases (tin c.r 0 255 && tin c.g 0 255 && tin c.b 0 255 && tin c.a 0 255) <;> simp
  cases ile c.r c.a <;> cases ile c.g c.a <;> simp
theorem wh_bd {w h : Int} (hw : tin w 1 12 = true) (hh : tin h 1 12 = true) : 1 ≤ w * h ∧ w * h ≤ 144 := by
  rw [tin_t] at hw hh
  refine ⟨?_, ?_⟩
  · calc (1 : Int) = 1 * 1 := rfl
      _ ≤ w * 1 := Int.mul_le_mul_of_nonneg_right hw.1 (by omega)
      _ ≤ w * h := Int.mul_le_mul_of_nonneg_left hh.1 (by omega)
  · calc w * h ≤ 12 * h := Int.mul_le_mul_of_nonneg_right hw.2 (by omega)
      _ ≤ 12 * 12 := Int.mul_le_mul_of_nonneg_left hh.2 (by omega)
theorem m_spec_SurfaceOk {s : TSurface} (h : s.pix.length ≤ 9223372036854775807) : spec_SurfaceOk s = some (surfaceOk s) := by
  unfold spec_SurfaceOk surfaceOk
  simp only [m_spec_l01In, bnd_some]
  cases h1 : tin s.w 1 12 <;> simp only [cnd_true, cnd_false, Bool.false_and, Bool.true_and]
  cases h2 : tin s.h 1 12 <;> simp only [cnd_true, cnd_false, Bool.false_and, Bool.true_and]
  have := wh_bd h1 h2
  rw [wr_in (by omega)]
  by_cases h3 : (s.pix.length : Int) = s.w * s.h
  · have key := loopI_row (l := s.pix) (f := spec_SurfaceOk_l0 s) laidOk h (fun i hi => by rw [spec_SurfaceOk_l0, ilf (by omega), cnd_false, idx_nat hi, bnd_some, m_spec_LaidOk, bnd_some]) (by rw [spec_SurfaceOk_l0, ilt (by omega), cnd_true])
    rw [key, h3, iqt, cnd_true]
    cases s.pix.all laidOk <;> simp
  · rw [iqf h3, cnd_false]; simp [h3]
theorem m_impl_SurfaceOk {s : TSurface} (h : s.pix.length ≤ 9223372036854775807) : impl_SurfaceOk s = some (surfaceOk s) := by
  unfold impl_SurfaceOk surfaceOk
  simp only [m_impl_isSide, bnd_some]
  cases h1 : tin s.w 1 12 <;> simp only [cnd_true, cnd_false, Bool.false_and, Bool.true_and]
  cases h2 : tin s.h 1 12 <;> simp only [cnd_true, cnd_false, Bool.false_and, Bool.true_and]
  have := wh_bd h1 h2
  rw [wr_in (by omega)]
  by_cases h3 : (s.pix.length : Int) = s.w * s.h
  · have key := loopI_row (l := s.pix) (f := impl_SurfaceOk_l0 s) laidOk h (fun i hi => by rw [impl_SurfaceOk_l0, ilf (by omega), cnd_false, idx_nat hi, bnd_some, m_impl_LaidOk, bnd_some]) (by rw [impl_SurfaceOk_l0, ilt (by omega), cnd_true])
    rw [key, h3, iqt, cnd_true]
    cases s.pix.all laidOk <;> simp
  · rw [iqf h3, cnd_false]; simp [h3]
theorem so_facts {s : TSurface} (h : surfaceOk s = true) : tin s.w 1 12 = true ∧ tin s.h 1 12 = true ∧ (s.pix.length : Int) = s.w * s.h ∧ ∀ c ∈ s.pix, laidOk c = true := by
  simp only [surfaceOk, Bool.and_eq_true, decide_eq_true_eq, List.all_eq_true] at h
  exact ⟨h.1.1.1, h.1.1.2, h.1.2, h.2⟩

/-! ## Loops from a number to another one -/
theorem in_wh {w h x y : Int} (hw : 0 ≤ w ∧ w ≤ 12) (hh : 0 ≤ h ∧ h ≤ 12) (hx : 0 ≤ x ∧ x < w) (hy : 0 ≤ y ∧ y < h) : 0 ≤ y * w ∧ y * w ≤ 144 ∧ y * w + x < w * h := by
  have h1 : y * w ≤ (h - 1) * w := Int.mul_le_mul_of_nonneg_right (by omega) (by omega)
  have h2 : 0 ≤ y * w := Int.mul_nonneg hy.1 hw.1
  have h3 : y * w ≤ 12 * w := Int.mul_le_mul_of_nonneg_right (by omega) hw.1
  have h4 : (h - 1) * w = w * h - w := by rw [Int.sub_mul, Int.one_mul, Int.mul_comm]
  omega

/-! ## Sparing -/
/-! ## Marks -/
/-! ## TilesOf -/
/-! ## Painting a part of a surface -/
section
variable {α : Type}
/-- Is a place in the rows that are done, or in the row at work, left of x? -/
def inPart (w x0 x1 y0 y x : Int) (k : Nat) : Bool := decide ((y0 ≤ (k : Int) / w ∧ (k : Int) / w < y ∧ x0 ≤ (k : Int) % w ∧ (k : Int) % w < x1) ∨ ((k : Int) / w = y ∧ x0 ≤ (k : Int) % w ∧ (k : Int) % w < x ∧ (k : Int) % w < x1))
def inRect (w x0 x1 y0 y1 : Int) (k : Nat) : Bool := decide (y0 ≤ (k : Int) / w ∧ (k : Int) / w < y1 ∧ x0 ≤ (k : Int) % w ∧ (k : Int) % w < x1)
def ptd (P : Nat → Bool) (H : Nat → α → α) (p : List α) : List α := p.mapIdx fun k c => if P k then H k c else c
theorem ptd_len {P : Nat → Bool} {H : Nat → α → α} {p : List α} : (ptd P H p).length = p.length := by simp [ptd]
theorem ptd_get {P : Nat → Bool} {H : Nat → α → α} {p : List α} {k : Nat} (hk : k < p.length) : (ptd P H p)[k]? = some (if P k then H k p[k] else p[k]) := by
  unfold ptd; rw [List.getElem?_mapIdx, List.getElem?_eq_getElem hk]; rfl
theorem ptd_set {P Q : Nat → Bool} {H : Nat → α → α} {p : List α} {j : Nat} (hj : j < p.length) (hP : P j = false) (hQ : ∀ k, k < p.length → Q k = (P k || decide (k = j))) : (ptd P H p).set j (H j p[j]) = ptd Q H p := by
  refine List.ext_getElem? fun k => ?_
  by_cases hk : k < p.length
  · rw [ptd_get hk, List.getElem?_set, ptd_len]
    by_cases hkj : j = k
    · subst hkj; rw [if_pos rfl, if_pos hj, hQ _ hk]; simp
    · rw [if_neg hkj, ptd_get hk, hQ _ hk]
      have : decide (k = j) = false := by simp; omega
      rw [this, Bool.or_false]
  · rw [List.getElem?_eq_none (by rw [List.length_set, ptd_len]; omega), List.getElem?_eq_none (by rw [ptd_len]; omega)]
theorem ptd_congr {P Q : Nat → Bool} {H G : Nat → α → α} {p : List α} (h : ∀ k (hk : k < p.length), P k = Q k) (hg : ∀ k (hk : k < p.length), Q k = true → H k p[k] = G k p[k]) : ptd P H p = ptd Q G p := by
  refine List.ext_getElem? fun k => ?_
  by_cases hk : k < p.length
  · rw [ptd_get hk, ptd_get hk, h k hk]
    cases hq : Q k with
    | true => rw [if_pos rfl, if_pos rfl, hg k hk hq]
    | false => rfl
  · rw [List.getElem?_eq_none (by rw [ptd_len]; omega), List.getElem?_eq_none (by rw [ptd_len]; omega)]
theorem div_at {w x y : Int} (hw : 0 < w) (hx : 0 ≤ x ∧ x < w) : (y * w + x) / w = y ∧ (y * w + x) % w = x := by
  constructor
  · rw [Int.add_comm, Int.add_mul_ediv_right _ _ (by omega), Int.ediv_eq_zero_of_lt hx.1 hx.2]; omega
  · rw [Int.add_comm, Int.add_mul_emod_self_right, Int.emod_eq_of_lt hx.1 hx.2]
theorem place_at {w x y : Int} {k : Nat} (hw : 0 < w) (h1 : (k : Int) / w = y) (h2 : (k : Int) % w = x) : (k : Int) = y * w + x := by
  have := Int.mul_ediv_add_emod (k : Int) w
  rw [h1, h2, Int.mul_comm] at this
  exact this.symm
theorem paint2 {w h x0 x1 y0 y1 : Int} {p : List α} {H : Nat → α → α} {f0 : Int → Int × List α → Option ((Int × List α) ⊕ List α)} {f1 : Int × List α → Option ((Int × List α) ⊕ List α)}
    (hw : 1 ≤ w ∧ w ≤ 12) (hh : 1 ≤ h ∧ h ≤ 12) (hx : 0 ≤ x0 ∧ x1 ≤ w) (hy : 0 ≤ y0 ∧ y1 ≤ h) (hp : (p.length : Int) = w * h)
    (h0 : ∀ y x l c, y0 ≤ y → y < y1 → x0 ≤ x → x < x1 → l.length = p.length → l[(y * w + x).toNat]? = some c → p[(y * w + x).toNat]? = some c → f0 y (x, l) = some (.inl (x + 1, l.set (y * w + x).toNat (H (y * w + x).toNat c))))
    (e0 : ∀ y x l, x1 ≤ x → f0 y (x, l) = some (.inr l))
    (h1 : ∀ y l, y0 ≤ y → y < y1 → f1 (y, l) = bnd (loopI (f0 y) (x0, l)) fun l => some (.inl (y + 1, l)))
    (e1 : ∀ y l, y1 ≤ y → f1 (y, l) = some (.inr l)) :
    loopI f1 (y0, p) = some (ptd (inRect w x0 x1 y0 y1) H p) := by
  have row : ∀ y, y0 ≤ y → y < y1 → loopI (f0 y) (x0, ptd (inPart w x0 x1 y0 y x0) H p) = some (ptd (inPart w x0 x1 y0 (y + 1) x0) H p) := by
    intro y hy0 hy1
    have key := loopI_n (f := f0 y) (fun i : Nat => (x0 + (i : Int), ptd (inPart w x0 x1 y0 y (x0 + (i : Int))) H p)) (x1 - x0).toNat (r := ptd (inPart w x0 x1 y0 (y + 1) x0) H p) (fun i hi => ?_) ?_
    · have e : (x0 + ((0 : Nat) : Int), ptd (inPart w x0 x1 y0 y (x0 + ((0 : Nat) : Int))) H p) = (x0, ptd (inPart w x0 x1 y0 y x0) H p) := by
        rw [show x0 + ((0 : Nat) : Int) = x0 by omega]
      rwa [e] at key
    · obtain ⟨b1, b2, b3⟩ := in_wh (w := w) (h := h) (x := x0 + (i : Int)) (y := y) ⟨by omega, hw.2⟩ ⟨by omega, hh.2⟩ ⟨by omega, by omega⟩ ⟨by omega, by omega⟩
      have hlt : (y * w + (x0 + (i : Int))).toNat < p.length := by omega
      have hcast : (((y * w + (x0 + (i : Int))).toNat : Nat) : Int) = y * w + (x0 + (i : Int)) := by omega
      obtain ⟨d1, d2⟩ := div_at (w := w) (x := x0 + (i : Int)) (y := y) (by omega) ⟨by omega, by omega⟩
      have hP : inPart w x0 x1 y0 y (x0 + (i : Int)) (y * w + (x0 + (i : Int))).toNat = false := by
        unfold inPart; rw [hcast, d1, d2]; simp; try omega
      have hg : (ptd (inPart w x0 x1 y0 y (x0 + (i : Int))) H p)[(y * w + (x0 + (i : Int))).toNat]? = some p[(y * w + (x0 + (i : Int))).toNat] := by rw [ptd_get hlt, hP]; rfl
      rw [h0 y _ _ _ hy0 hy1 (by omega) (by omega) ptd_len hg (List.getElem?_eq_getElem hlt)]
      rw [ptd_set (Q := inPart w x0 x1 y0 y (x0 + ((i + 1 : Nat) : Int))) hlt hP (fun k hk => ?_)]
      · congr 3; try omega
      · unfold inPart
        rw [← Bool.decide_or]
        refine decide_eq_decide.2 ?_
        constructor
        · rintro (h | ⟨h2, h3, h4, h5⟩)
          · exact .inl (.inl h)
          · by_cases h6 : (k : Int) % w < x0 + (i : Int)
            · exact .inl (.inr ⟨h2, h3, h6, h5⟩)
            · right
              have := place_at (k := k) (x := x0 + (i : Int)) (by omega) h2 (by omega)
              omega
        · rintro ((h | ⟨h2, h3, h4, h5⟩) | h)
          · exact .inl h
          · exact .inr ⟨h2, h3, by omega, h5⟩
          · right
            have hk2 : (k : Int) = y * w + (x0 + (i : Int)) := by omega
            rw [hk2, d1, d2]
            exact ⟨rfl, by omega, by omega, by omega⟩
    · rw [e0 _ _ _ (by omega)]
      congr 2
      refine ptd_congr (fun k hk => ?_) (fun _ _ _ => rfl)
      unfold inPart
      refine decide_eq_decide.2 ?_
      constructor
      · rintro (⟨h2, h3, h4, h5⟩ | ⟨h2, h3, h4, h5⟩)
        · exact .inl ⟨h2, by omega, h4, h5⟩
        · exact .inl ⟨by omega, by omega, h3, h5⟩
      · rintro (⟨h2, h3, h4, h5⟩ | ⟨h2, h3, h4, h5⟩)
        · by_cases h6 : (k : Int) / w < y
          · exact .inl ⟨h2, h6, h4, h5⟩
          · exact .inr ⟨by omega, h4, by omega, h5⟩
        · omega
  have key := loopI_n (f := f1) (fun j : Nat => (y0 + (j : Int), ptd (inPart w x0 x1 y0 (y0 + (j : Int)) x0) H p)) (y1 - y0).toNat (r := ptd (inRect w x0 x1 y0 y1) H p) (fun j hj => ?_) ?_
  · have e : (y0 + ((0 : Nat) : Int), ptd (inPart w x0 x1 y0 (y0 + ((0 : Nat) : Int)) x0) H p) = (y0, p) := by
      rw [show y0 + ((0 : Nat) : Int) = y0 by omega]
      congr 1
      refine List.ext_getElem? fun k => ?_
      by_cases hk : k < p.length
      · rw [ptd_get hk, List.getElem?_eq_getElem hk]
        have : inPart w x0 x1 y0 y0 x0 k = false := by unfold inPart; simp; omega
        rw [this]; rfl
      · rw [List.getElem?_eq_none (by rw [ptd_len]; omega), List.getElem?_eq_none (by omega)]
    rwa [e] at key
  · rw [h1 _ _ (by omega) (by omega), row _ (by omega) (by omega), bnd_some]
    congr 3
    · omega
    · rw [show y0 + ((j + 1 : Nat) : Int) = y0 + (j : Int) + 1 by omega]
  · rw [e1 _ _ (by omega)]
    congr 2
    refine ptd_congr (fun k hk => ?_) (fun _ _ _ => rfl)
    unfold inPart inRect
    refine decide_eq_decide.2 ?_
    constructor
    · rintro (⟨h2, h3, h4, h5⟩ | ⟨h2, h3, h4, h5⟩)
      · exact ⟨h2, by omega, h4, h5⟩
      · omega
    · rintro ⟨h2, h3, h4, h5⟩
      exact .inl ⟨h2, by omega, h4, h5⟩
end

/-! ## Colours: the program's words are the reference's -/
theorem s_Clamp (a b c : Int) : impl_Clamp a b c = spec_Clamp a b c := rfl
theorem s_RoundDiv (a b : Int) : impl_RoundDiv a b = spec_RoundDiv a b := rfl
theorem s_Times255 (a b : Int) : impl_Times255 a b = spec_Times255 a b := rfl
theorem t_Clamp (a b c : Int) : ∃ r, spec_Clamp a b c = some r := by
  unfold spec_Clamp; cases ile b a <;> cases ile a c <;> exact ⟨_, rfl⟩
theorem t_FloorDiv (a b : Int) : ∃ r, spec_FloorDiv a b = some r := by
  unfold spec_FloorDiv
  cases h : ile 1 b
  · exact ⟨_, rfl⟩
  · rw [ile_t] at h
    rw [cnd_true, chkP_pos (by omega)]
    cases ile 0 (a.tmod b) <;> exact ⟨_, rfl⟩
theorem t_RoundDiv (a b : Int) : ∃ r, spec_RoundDiv a b = some r := by
  unfold spec_RoundDiv
  cases ile 1 b
  · exact ⟨_, rfl⟩
  · obtain ⟨v, e⟩ := t_FloorDiv a b
    rw [cnd_true, e, bnd_some]
    cases ile (IntKind.i64.wrap (b - IntKind.i64.wrap (a - IntKind.i64.wrap (v * b)))) (IntKind.i64.wrap (a - IntKind.i64.wrap (v * b))) <;> exact ⟨_, rfl⟩
theorem t_Times255 (a b : Int) : ∃ r, spec_Times255 a b = some r := by
  unfold spec_Times255
  obtain ⟨v, e⟩ := t_Clamp a 0 255
  obtain ⟨w, f⟩ := t_Clamp b 0 255
  rw [e, bnd_some, f, bnd_some]
  obtain ⟨u, g⟩ := t_RoundDiv (IntKind.i64.wrap (v * w)) 255
  rw [g]; exact ⟨_, rfl⟩
theorem t_cut (x : Int) : cnd (ile x 255) (some x) (some 255) = some (min x 255) := by
  cases h : ile x 255
  · rw [ile_f] at h; rw [cnd_false]; congr 1; omega
  · rw [ile_t] at h; rw [cnd_true]; congr 1; omega
theorem t_l13Part (m s d sa da : Int) : ∃ r, spec_l13Part m s d sa da = some r := by
  unfold spec_l13Part
  simp only [t_cut]
  obtain ⟨a, ea⟩ := t_Times255 d (IntKind.i64.wrap (255 - sa))
  obtain ⟨b, eb⟩ := t_RoundDiv (IntKind.i64.wrap ((IntKind.i64.wrap ((IntKind.i64.wrap (s * d)) + (IntKind.i64.wrap (s * (IntKind.i64.wrap (255 - da)))))) + (IntKind.i64.wrap (d * (IntKind.i64.wrap (255 - sa)))))) 255
  obtain ⟨c, ec⟩ := t_RoundDiv (IntKind.i64.wrap (s * d)) 255
  rw [ea, eb, ec]
  simp only [bnd_some]
  cases ieq m 1 <;> cases ieq m 2 <;> cases ieq m 3 <;> cases ieq m 4 <;> cases ieq m 5 <;> exact ⟨_, rfl⟩
theorem s_part {m s d sa da : Int} (hm : tin m 1 5 = true) : impl_Blend_1 s d (IntKind.i64.wrap (255 - sa)) m (IntKind.i64.wrap (255 - da)) = spec_l13Part m s d sa da := by
  unfold impl_Blend_1 spec_l13Part
  simp only [t_cut]
  rw [s_Times255]
  obtain ⟨a, ea⟩ := t_Times255 d (IntKind.i64.wrap (255 - sa))
  rw [ea, bnd_some, bnd_some]
  rw [tin_t] at hm
  by_cases h1 : m = 1
  · subst h1; rw [iqt, cnd_true, cnd_true, Int.add_comm a s]
  rw [iqf h1, cnd_false, cnd_false]
  by_cases h2 : m = 2
  · subst h2; rw [iqt, cnd_true, cnd_true, s_RoundDiv]
  rw [iqf h2, cnd_false, cnd_false]
  by_cases h3 : m = 3
  · subst h3; rw [iqt, cnd_true, cnd_true, s_RoundDiv]
  rw [iqf h3, cnd_false, cnd_false]
  by_cases h4 : m = 4
  · subst h4; rw [iqt, cnd_true, cnd_true]
  rw [iqf h4, cnd_false, cnd_false]
  have h5 : m = 5 := by omega
  subst h5; rw [iqt, cnd_true, bnd_some]
theorem t_Blend (m : Int) (s d : TColor) : ∃ r, spec_Blend m s d = some r := by
  unfold spec_Blend
  rw [m_spec_LaidOk, m_spec_LaidOk, bnd_some, bnd_some]
  obtain ⟨a, ea⟩ := t_l13Part m s.r d.r s.a d.a
  obtain ⟨b, eb⟩ := t_l13Part m s.g d.g s.a d.a
  obtain ⟨c, ec⟩ := t_l13Part m s.b d.b s.a d.a
  obtain ⟨e, ee⟩ := t_l13Part m s.a d.a s.a d.a
  rw [ea, eb, ec, ee]
  cases laidOk s <;> cases laidOk d <;> exact ⟨_, rfl⟩
theorem laid_facts {c : TColor} (h : laidOk c = true) : (0 ≤ c.r ∧ c.r ≤ 255) ∧ (0 ≤ c.g ∧ c.g ≤ 255) ∧ (0 ≤ c.b ∧ c.b ≤ 255) ∧ (0 ≤ c.a ∧ c.a ≤ 255) ∧ c.r ≤ c.a ∧ c.g ≤ c.a ∧ c.b ≤ c.a := by
  simp only [laidOk, Bool.and_eq_true, tin_t, ile_t] at h
  omega
theorem part_no {m s d sa da : Int} (hm : tin m 1 5 = false) (hd : d ≤ 255) : spec_l13Part m s d sa da = some d := by
  have h : ¬ (1 ≤ m ∧ m ≤ 5) := by rw [← tin_t, hm]; simp
  unfold spec_l13Part
  rw [iqf (by omega), iqf (by omega), iqf (by omega), iqf (by omega), iqf (by omega)]
  simp only [cnd_false]
  rw [ilt hd, cnd_true]
theorem s_Blend (m : Int) (s d : TColor) : impl_Blend m s d = spec_Blend m s d := by
  unfold impl_Blend spec_Blend impl_isMode
  rw [m_impl_inRange, bnd_some, bnd_some, m_impl_LaidOk, m_impl_LaidOk, m_spec_LaidOk, m_spec_LaidOk]
  simp only [bnd_some]
  cases hs : laidOk s
  · simp only [cnd_false]; cases tin m 1 5 <;> rfl
  cases hd : laidOk d
  · simp only [cnd_false, cnd_true]; cases tin m 1 5 <;> rfl
  simp only [cnd_true]
  cases hm : tin m 1 5
  · obtain ⟨h1, h2, h3, h4, _⟩ := laid_facts hd
    rw [cnd_false, part_no hm h1.2, part_no hm h2.2, part_no hm h3.2, part_no hm h4.2]; rfl
  · rw [cnd_true]
    unfold impl_each_Blend_1
    rw [s_part hm, s_part hm, s_part hm, s_part hm]
    obtain ⟨a, ea⟩ := t_l13Part m s.r d.r s.a d.a
    obtain ⟨b, eb⟩ := t_l13Part m s.g d.g s.a d.a
    obtain ⟨c, ec⟩ := t_l13Part m s.b d.b s.a d.a
    obtain ⟨e, ee⟩ := t_l13Part m s.a d.a s.a d.a
    rw [ea, eb, ec, ee]; rfl
theorem t_Fade (c : TColor) (n : Int) : ∃ r, spec_Fade c n = some r := by
  unfold spec_Fade
  rw [m_spec_LaidOk, m_spec_l01In, bnd_some, bnd_some]
  obtain ⟨a, ea⟩ := t_Times255 c.r n
  obtain ⟨b, eb⟩ := t_Times255 c.g n
  obtain ⟨d, ed⟩ := t_Times255 c.b n
  obtain ⟨e, ee⟩ := t_Times255 c.a n
  rw [ea, eb, ed, ee]
  cases laidOk c <;> cases tin n 0 255 <;> exact ⟨_, rfl⟩
theorem s_Fade (c : TColor) (n : Int) : impl_Fade c n = spec_Fade c n := by
  unfold impl_Fade spec_Fade
  rw [m_impl_isByte, bnd_some, m_impl_LaidOk, m_spec_LaidOk, m_spec_l01In]
  simp only [bnd_some]
  cases laidOk c <;> cases tin n 0 255 <;> simp only [cnd_true, cnd_false]
  unfold impl_each_Fade_1 impl_Fade_1
  rw [s_Times255, s_Times255, s_Times255, s_Times255]
  obtain ⟨a, ea⟩ := t_Times255 c.r n
  obtain ⟨b, eb⟩ := t_Times255 c.g n
  obtain ⟨d, ed⟩ := t_Times255 c.b n
  obtain ⟨e, ee⟩ := t_Times255 c.a n
  rw [ea, eb, ed, ee]; rfl

/-! ## LayOver -/
noncomputable def lay1 (m fade : Int) (c old : TColor) : TColor := (bnd (spec_Fade c fade) fun v => spec_Blend m v old).getD old
theorem lay1_eq (m fade : Int) (c old : TColor) : (bnd (spec_Fade c fade) fun v => spec_Blend m v old) = some (lay1 m fade c old) := by
  unfold lay1
  obtain ⟨v, e⟩ := t_Fade c fade
  rw [e, bnd_some]
  obtain ⟨u, f⟩ := t_Blend m v old
  rw [f]; rfl
theorem full_rect {w h : Int} {n : Nat} (hw : 1 ≤ w ∧ w ≤ 12) (hh : 1 ≤ h ∧ h ≤ 12) (hn : (n : Int) = w * h) (k : Nat) (hk : k < n) : inRect w 0 w 0 h k = true := by
  unfold inRect
  have h1 : 0 ≤ (k : Int) / w := Int.ediv_nonneg (by omega) (by omega)
  have h2 : 0 ≤ (k : Int) % w := Int.emod_nonneg _ (by omega)
  have h3 : (k : Int) % w < w := Int.emod_lt_of_pos _ (by omega)
  have h4 : (k : Int) / w < h := by
    refine Int.ediv_lt_of_lt_mul (by omega) ?_
    rw [Int.mul_comm h w]; omega
  simp [h1, h2, h3, h4]
/-! ## Paints -/
instance decCol : DecidableEq TColor := fun a b => decidable_of_iff (a.r = b.r ∧ a.g = b.g ∧ a.b = b.b ∧ a.a = b.a) (by cases a; cases b; simp)
instance decPt : DecidableEq TPoint := fun a b => decidable_of_iff (a.x = b.x ∧ a.y = b.y) (by cases a; cases b; simp)
theorem s_PointOk (p : TPoint) : impl_PointOk p = spec_PointOk p := by
  unfold impl_PointOk spec_PointOk impl_isFar
  rw [m_impl_inRange, m_spec_l01In, m_impl_inRange, m_spec_l01In]; rfl
theorem t_PointOk (p : TPoint) : spec_PointOk p = some (tin p.x (-8388608) 8388608 && tin p.y (-8388608) 8388608) := by
  unfold spec_PointOk
  rw [m_spec_l01In, bnd_some, m_spec_l01In]
  cases tin p.x (-8388608) 8388608 <;> simp
def pointOk (p : TPoint) : Bool := tin p.x (-8388608) 8388608 && tin p.y (-8388608) 8388608
def colOk (c : TColor) : Bool := tin c.r 0 255 && tin c.g 0 255 && tin c.b 0 255 && tin c.a 0 255
def paintOk (p : TPaint) : Bool := colOk p.first && if p.kind = 1 then decide (p.last = ⟨0, 0, 0, 0⟩) && decide (p.from_ = ⟨0, 0⟩) && decide (p.to = ⟨0, 0⟩)
  else decide (p.kind = 2) && colOk p.last && pointOk p.from_ && pointOk p.to && !decide (p.from_ = p.to)
theorem col_eq {c d : TColor} : andB (decide (c.r = d.r)) (andB (decide (c.g = d.g)) (andB (decide (c.b = d.b)) (andB (decide (c.a = d.a)) true))) = decide (c = d) := by
  cases c; cases d; simp [andB, Bool.decide_and]
theorem pt_eq {c d : TPoint} : andB (decide (c.x = d.x)) (andB (decide (c.y = d.y)) true) = decide (c = d) := by
  cases c; cases d; simp [andB, Bool.decide_and]
theorem m_spec_PaintOk (p : TPaint) : spec_PaintOk p = some (paintOk p) := by
  unfold spec_PaintOk paintOk
  rw [m_spec_ColorOk, bnd_some]
  have e1 := col_eq (c := p.last) (d := ⟨0, 0, 0, 0⟩)
  have e2 := pt_eq (c := p.from_) (d := ⟨0, 0⟩)
  have e3 := pt_eq (c := p.to) (d := ⟨0, 0⟩)
  have e4 := pt_eq (c := p.from_) (d := p.to)
  dsimp only at e1 e2 e3
  rw [e1, e2, e3, e4, m_spec_ColorOk, t_PointOk, t_PointOk]
  show cnd (colOk p.first) _ _ = _
  cases colOk p.first
  · rfl
  rw [cnd_true, Bool.true_and]
  by_cases h1 : p.kind = 1
  · rw [h1, iqt, cnd_true, if_pos rfl]
    cases decide (p.last = ⟨0, 0, 0, 0⟩) <;> simp only [cnd_true, cnd_false, Bool.false_and, Bool.true_and]
    cases decide (p.from_ = ⟨0, 0⟩) <;> simp
  · rw [iqf h1, cnd_false, if_neg h1]
    by_cases h2 : p.kind = 2
    · rw [h2, iqt, cnd_true]
      simp only [bnd_some, decide_true, Bool.true_and]
      show cnd (colOk p.last) _ _ = _
      cases colOk p.last <;> simp only [cnd_true, cnd_false, Bool.false_and, Bool.true_and]
      show cnd (pointOk p.from_) _ _ = _
      cases pointOk p.from_ <;> simp only [cnd_true, cnd_false, Bool.false_and, Bool.true_and]
      show cnd (pointOk p.to) _ _ = _
      cases pointOk p.to <;> simp
    · rw [iqf h2, cnd_false]; simp [h2]
theorem m_impl_PaintOk (p : TPaint) : impl_PaintOk p = some (paintOk p) := by
  unfold impl_PaintOk paintOk
  have e1 := col_eq (c := p.last) (d := ⟨0, 0, 0, 0⟩)
  have e2 := pt_eq (c := p.from_) (d := ⟨0, 0⟩)
  have e3 := pt_eq (c := p.to) (d := ⟨0, 0⟩)
  have e4 := pt_eq (c := p.from_) (d := p.to)
  dsimp only at e1 e2 e3
  by_cases h1 : p.kind = 1
  · rw [h1, iqt, cnd_true, m_impl_ColorOk, bnd_some, if_pos rfl]
    show cnd (colOk p.first) _ _ = _
    cases colOk p.first
    · rfl
    rw [cnd_true, Bool.true_and]
    congr 1
    rw [← e1, ← e2, ← e3]
    simp only [andB, decide_true, Bool.true_and, Bool.and_true, Bool.and_assoc]
  · rw [iqf h1, cnd_false, if_neg h1]
    by_cases h2 : p.kind = 2
    · rw [h2, iqt, cnd_true, e4, m_impl_ColorOk, m_impl_ColorOk, s_PointOk, s_PointOk, t_PointOk, t_PointOk]
      simp only [bnd_some, decide_true, Bool.true_and]
      show cnd (colOk p.first) _ _ = _
      cases colOk p.first <;> simp only [cnd_true, cnd_false, Bool.false_and, Bool.true_and]
      show cnd (colOk p.last) _ _ = _
      cases colOk p.last <;> simp only [cnd_true, cnd_false, Bool.false_and, Bool.true_and]
      show cnd (pointOk p.from_) _ _ = _
      cases pointOk p.from_ <;> simp only [cnd_true, cnd_false, Bool.false_and, Bool.true_and]
      show cnd (pointOk p.to) _ _ = _
      cases pointOk p.to <;> simp
    · rw [iqf h2, cnd_false]; simp [h2]
theorem s_Laid (c : TColor) : impl_Laid c = spec_Laid c := by
  unfold impl_Laid spec_Laid
  rw [m_impl_ColorOk, m_spec_ColorOk, bnd_some, bnd_some, s_Times255, s_Times255, s_Times255]
theorem t_Laid (c : TColor) : ∃ r, spec_Laid c = some r := by
  unfold spec_Laid
  rw [m_spec_ColorOk, bnd_some]
  obtain ⟨a, ea⟩ := t_Times255 c.r c.a
  obtain ⟨b, eb⟩ := t_Times255 c.g c.a
  obtain ⟨d, ed⟩ := t_Times255 c.b c.a
  rw [ea, eb, ed]
  cases (tin c.r 0 255 && tin c.g 0 255 && tin c.b 0 255 && tin c.a 0 255) <;> exact ⟨_, rfl⟩
theorem t_PartOf {p : TPaint} (h : paintOk p = true) (hk : p.kind = 2) (x y : Int) : impl_partOf p x y = spec_PartOf p x y ∧ ∃ r, spec_PartOf p x y = some r := by
  unfold impl_partOf spec_PartOf impl_taken
  rw [hk, iqt, cnd_true, m_spec_PaintOk, bnd_some, h, cnd_true]
  have e : IntKind.i64.wrap (0 - 2000) = -2000 := by decide
  rw [e, s_Clamp, s_Clamp]
  obtain ⟨a, ea⟩ := t_Clamp x (-2000) 2000
  obtain ⟨b, eb⟩ := t_Clamp y (-2000) 2000
  rw [ea, eb]
  simp only [bnd_some]
  refine ⟨rfl, ?_⟩
  obtain ⟨c, ec⟩ := t_FloorDiv (IntKind.i64.wrap (256 * (IntKind.i64.wrap ((IntKind.i64.wrap ((IntKind.i64.wrap ((IntKind.i64.wrap ((IntKind.i64.wrap (256 * a)) + 128)) - p.from_.x)) * (IntKind.i64.wrap (p.to.x - p.from_.x)))) + (IntKind.i64.wrap ((IntKind.i64.wrap ((IntKind.i64.wrap ((IntKind.i64.wrap (256 * b)) + 128)) - p.from_.y)) * (IntKind.i64.wrap (p.to.y - p.from_.y)))))))) (IntKind.i64.wrap ((IntKind.i64.wrap ((IntKind.i64.wrap (p.to.x - p.from_.x)) * (IntKind.i64.wrap (p.to.x - p.from_.x)))) + (IntKind.i64.wrap ((IntKind.i64.wrap (p.to.y - p.from_.y)) * (IntKind.i64.wrap (p.to.y - p.from_.y))))))
  rw [ec, bnd_some]
  obtain ⟨d, ed⟩ := t_Clamp c 0 256
  rw [ed]; exact ⟨_, rfl⟩
theorem t_Mix (a b t : Int) : ∃ r, spec_l12Mix a b t = some r := by
  unfold spec_l12Mix
  obtain ⟨r, e⟩ := t_RoundDiv (IntKind.i64.wrap ((IntKind.i64.wrap ((IntKind.i64.wrap (256 - t)) * a)) + (IntKind.i64.wrap (t * b)))) 256
  rw [e]; exact ⟨_, rfl⟩
theorem s_Mix (a b t : Int) : impl_ColorAt_1 a b t = spec_l12Mix a b t := rfl
theorem t_ColorAt (p : TPaint) (x y : Int) : impl_ColorAt p x y = spec_ColorAt p x y ∧ ∃ r, spec_ColorAt p x y = some r := by
  unfold impl_ColorAt spec_ColorAt
  rw [m_impl_PaintOk, m_spec_PaintOk, bnd_some, bnd_some]
  cases h : paintOk p with
  | false => exact ⟨rfl, _, rfl⟩
  | true =>
    rw [cnd_true, cnd_true, s_Laid]
    by_cases h1 : p.kind = 1
    · rw [h1, iqt, cnd_true, cnd_true]
      obtain ⟨r, e⟩ := t_Laid p.first
      rw [e]; exact ⟨rfl, _, rfl⟩
    · have h2 : p.kind = 2 := by
        simp only [paintOk, if_neg h1, Bool.and_eq_true, decide_eq_true_eq] at h
        exact h.2.1.1.1.1
      rw [iqf h1, cnd_false, cnd_false]
      obtain ⟨e1, r, e2⟩ := t_PartOf h h2 x y
      rw [e1, e2, bnd_some, bnd_some]
      unfold impl_each_ColorAt_1
      rw [s_Mix, s_Mix, s_Mix, s_Mix]
      obtain ⟨a, ea⟩ := t_Mix p.first.r p.last.r r
      obtain ⟨b, eb⟩ := t_Mix p.first.g p.last.g r
      obtain ⟨c, ec⟩ := t_Mix p.first.b p.last.b r
      obtain ⟨d, ed⟩ := t_Mix p.first.a p.last.a r
      rw [ea, eb, ec, ed]
      simp only [bnd_some]
      rw [s_Laid]
      obtain ⟨q, e⟩ := t_Laid ⟨a, b, c, d⟩
      rw [e]; exact ⟨rfl, _, rfl⟩
theorem s_CountOf {n : Int} (h : tin n 0 15 = true) : impl_CountOf n = spec_CountOf n ∧ ∃ r, spec_CountOf n = some r := by
  unfold impl_CountOf spec_CountOf
  rw [m_impl_inRange, m_spec_l01In, bnd_some, bnd_some, h, cnd_true, cnd_true]
  refine ⟨?_, _, rfl⟩
  rw [tin_t] at h
  obtain ⟨k, hk, hk2⟩ : ∃ k : Nat, n = (k : Int) ∧ k < 16 := ⟨n.toNat, by omega, by omega⟩
  subst hk
  congr 1
  revert k
  decide
theorem s_Thin (c : TColor) (n : Int) : impl_Thin c n = spec_Thin c n := by
  unfold impl_Thin spec_Thin
  rw [m_impl_inRange, m_spec_l01In, m_impl_LaidOk, m_spec_LaidOk]
  simp only [bnd_some]
  cases laidOk c <;> cases tin n 0 4 <;> simp only [cnd_true, cnd_false]
  unfold impl_each_Thin_1 impl_Thin_1
  rw [s_RoundDiv, s_RoundDiv, s_RoundDiv, s_RoundDiv]
  obtain ⟨a, ea⟩ := t_RoundDiv (IntKind.i64.wrap (c.r * n)) 4
  obtain ⟨b, eb⟩ := t_RoundDiv (IntKind.i64.wrap (c.g * n)) 4
  obtain ⟨d, ed⟩ := t_RoundDiv (IntKind.i64.wrap (c.b * n)) 4
  obtain ⟨e, ee⟩ := t_RoundDiv (IntKind.i64.wrap (c.a * n)) 4
  rw [ea, eb, ed, ee]; rfl
theorem t_Thin (c : TColor) (n : Int) : ∃ r, spec_Thin c n = some r := by
  unfold spec_Thin
  rw [m_spec_LaidOk, m_spec_l01In]
  obtain ⟨a, ea⟩ := t_RoundDiv (IntKind.i64.wrap (c.r * n)) 4
  obtain ⟨b, eb⟩ := t_RoundDiv (IntKind.i64.wrap (c.g * n)) 4
  obtain ⟨d, ed⟩ := t_RoundDiv (IntKind.i64.wrap (c.b * n)) 4
  obtain ⟨e, ee⟩ := t_RoundDiv (IntKind.i64.wrap (c.a * n)) 4
  rw [ea, eb, ed, ee]
  simp only [bnd_some]
  cases laidOk c <;> cases tin n 0 4 <;> exact ⟨_, rfl⟩

/-! ## PaintMask -/
theorem s_bits (m : TMask) (x y : Int) : impl_Mask_bitsAt m x y = spec_l11Bits m x y := rfl
theorem t_bits {m : TMask} (h : maskOk m = true) (x y : Int) : ∃ v, spec_l11Bits m x y = some v ∧ tin v 0 15 = true ∧ (inBox m.box ⟨x, y⟩ = false → v = 0) := by
  unfold spec_l11Bits
  rw [m_spec_InBox, bnd_some]
  cases hb : inBox m.box ⟨x, y⟩ with
  | false => exact ⟨0, rfl, by decide, fun _ => rfl⟩
  | true =>
    rw [cnd_true]
    simp only [inBox, decide_eq_true_eq] at hb
    unfold maskOk at h
    have hne : ¬ m.bits.length = 0 := by
      intro h0
      rw [if_pos h0] at h
      simp only [TBox.isZero, Bool.and_eq_true, decide_eq_true_eq] at h
      omega
    rw [if_neg hne] at h
    simp only [Bool.and_eq_true, decide_eq_true_eq, List.all_eq_true] at h
    obtain ⟨⟨hm, hl⟩, ha⟩ := h
    have hf := mb_facts hm
    have hp := mb_prod hm
    have k1 : (y - m.box.y0) * (m.box.x1 - m.box.x0) ≤ (m.box.y1 - m.box.y0 - 1) * (m.box.x1 - m.box.x0) := Int.mul_le_mul_of_nonneg_right (by omega) (by omega)
    have k2 : 0 ≤ (y - m.box.y0) * (m.box.x1 - m.box.x0) := Int.mul_nonneg (by omega) (by omega)
    have k3 : (m.box.y1 - m.box.y0 - 1) * (m.box.x1 - m.box.x0) = (m.box.x1 - m.box.x0) * (m.box.y1 - m.box.y0) - (m.box.x1 - m.box.x0) := by rw [Int.sub_mul, Int.one_mul, Int.mul_comm]
    rw [wr_in (n := y - m.box.y0) (by omega), wr_in (n := m.box.x1 - m.box.x0) (by omega), wr_in (n := (y - m.box.y0) * (m.box.x1 - m.box.x0)) (by omega), wr_in (n := (y - m.box.y0) * (m.box.x1 - m.box.x0) + x) (by omega), wr_in (by omega)]
    obtain ⟨v, hv, hmem⟩ := idx_of (l := m.bits) (i := (y - m.box.y0) * (m.box.x1 - m.box.x0) + x - m.box.x0) (by omega) (by omega)
    rw [hv]
    exact ⟨v, rfl, ha v hmem, fun h => by cases h⟩
noncomputable def ink0 (p : TPaint) (m : TMask) (mode fade x y : Int) (old : TColor) : Option TColor := bnd (spec_l11Bits m x y) fun v => cnd (ieq v 0) (some old) (bnd (spec_ColorAt p x y) fun c => bnd (spec_CountOf v) fun n => bnd (spec_Thin c n) fun t => bnd (spec_Fade t fade) fun f => spec_Blend mode f old)
noncomputable def ink1 (p : TPaint) (m : TMask) (mode fade x y : Int) (old : TColor) : TColor := (ink0 p m mode fade x y old).getD old
theorem ink_eq {p : TPaint} {m : TMask} {mode fade x y : Int} {old : TColor} (h : maskOk m = true) : ink0 p m mode fade x y old = some (ink1 p m mode fade x y old) ∧ (inBox m.box ⟨x, y⟩ = false → ink1 p m mode fade x y old = old) ∧ impl_PaintMask_1 x y old m mode p fade = ink0 p m mode fade x y old := by
  obtain ⟨v, e, hv, hb⟩ := t_bits h x y
  unfold ink1 ink0 impl_PaintMask_1 impl_inked
  rw [s_bits, e]
  simp only [bnd_some]
  obtain ⟨e1, c, e2⟩ := t_ColorAt p x y
  obtain ⟨e3, n, e4⟩ := s_CountOf hv
  rw [e1, e2, e3, e4]
  simp only [bnd_some]
  rw [s_Thin]
  obtain ⟨t, e5⟩ := t_Thin c n
  rw [e5]
  simp only [bnd_some]
  rw [s_Fade]
  obtain ⟨f, e6⟩ := t_Fade t fade
  rw [e6]
  simp only [bnd_some]
  rw [s_Blend]
  obtain ⟨r, e7⟩ := t_Blend mode f old
  rw [e7]
  refine ⟨?_, fun hx => ?_, ?_⟩
  · cases ieq v 0 <;> rfl
  · rw [hb hx, iqt]; rfl
  · cases ieq v 0 <;> rfl
noncomputable def inkH (w : Int) (p : TPaint) (m : TMask) (mode fade : Int) (k : Nat) (old : TColor) : TColor := ink1 p m mode fade ((k : Int) % w) ((k : Int) / w) old
noncomputable def paintMask (s : TSurface) (m : TMask) (p : TPaint) (mode fade : Int) : TSurface := if surfaceOk s && maskOk m && paintOk p then ⟨s.w, s.h, ptd (fun _ => true) (inkH s.w p m mode fade) s.pix⟩ else s
theorem meet_in {w h : Int} (hw : 1 ≤ w ∧ w ≤ 12) (hh : 1 ≤ h ∧ h ≤ 12) (b : TBox) : 0 ≤ (meet b ⟨0, 0, w, h⟩).x0 ∧ (meet b ⟨0, 0, w, h⟩).x1 ≤ w ∧ 0 ≤ (meet b ⟨0, 0, w, h⟩).y0 ∧ (meet b ⟨0, 0, w, h⟩).y1 ≤ h ∧
    ∀ x y, 0 ≤ x → x < w → 0 ≤ y → y < h → ((meet b ⟨0, 0, w, h⟩).y0 ≤ y ∧ y < (meet b ⟨0, 0, w, h⟩).y1 ∧ (meet b ⟨0, 0, w, h⟩).x0 ≤ x ∧ x < (meet b ⟨0, 0, w, h⟩).x1 ↔ inBox b ⟨x, y⟩ = true) := by
  unfold meet
  dsimp only
  cases he : TBox.empty ⟨max b.x0 0, max b.y0 0, min b.x1 w, min b.y1 h⟩ with
  | true =>
    have hne : ¬ (max b.x0 0 < min b.x1 w ∧ max b.y0 0 < min b.y1 h) := by
      intro h'
      have : TBox.empty ⟨max b.x0 0, max b.y0 0, min b.x1 w, min b.y1 h⟩ = false := by rw [empty_f]; exact h'
      rw [he] at this; cases this
    simp only [if_true, TBox.zero, inBox, decide_eq_true_eq]
    refine ⟨by omega, by omega, by omega, by omega, fun x y _ _ _ _ => ?_⟩
    constructor
    · intro h'; omega
    · intro h'; exfalso; apply hne; omega
  | false =>
    rw [empty_f] at he
    simp only [Bool.false_eq_true, if_false, inBox, decide_eq_true_eq]
    refine ⟨by omega, by omega, by omega, by omega, fun x y _ _ _ _ => ?_⟩
    constructor <;> intro h' <;> omega
theorem k_in {w h : Int} {n k : Nat} (hw : 1 ≤ w ∧ w ≤ 12) (hn : (n : Int) = w * h) (hk : k < n) : 0 ≤ (k : Int) % w ∧ (k : Int) % w < w ∧ 0 ≤ (k : Int) / w ∧ (k : Int) / w < h := by
  refine ⟨Int.emod_nonneg _ (by omega), Int.emod_lt_of_pos _ (by omega), Int.ediv_nonneg (by omega) (by omega), ?_⟩
  refine Int.ediv_lt_of_lt_mul (by omega) ?_
  rw [Int.mul_comm h w]; omega
theorem m_impl_PaintMask {s : TSurface} {m : TMask} {p : TPaint} {mode fade : Int} (hs : s.pix.length ≤ 1048576) (hb : m.bits.length ≤ 1048576) : impl_PaintMask s m p mode fade = some ((paintMask s m p mode fade).w, (paintMask s m p mode fade).h, (paintMask s m p mode fade).pix) := by
  unfold impl_PaintMask impl_copySurface slices_Clone_Color paintMask
  rw [chkP_pos (by omega), bnd_some, bnd_some]
  dsimp only
  rw [m_impl_SurfaceOk (by omega), bnd_some]
  cases h1 : surfaceOk s
  · simp
  rw [cnd_true, m_impl_MaskOk (by omega), bnd_some]
  cases h2 : maskOk m
  · simp
  rw [cnd_true, m_impl_PaintOk, bnd_some]
  cases h3 : paintOk p
  · simp
  rw [cnd_true]
  simp only [Bool.and_self, if_true]
  obtain ⟨sw, sh, sp, _⟩ := so_facts h1
  rw [tin_t] at sw sh
  obtain ⟨r1, r2, r3, r4, r5⟩ := meet_in sw sh m.box
  unfold impl_Surface_paint_PaintMask_1 impl_Surface_box
  rw [bnd_some]
  try dsimp only
  rw [m_impl_MeetBox, bnd_some]
  try dsimp only
  have key := paint2 (w := s.w) (h := s.h) (x0 := (meet m.box ⟨0, 0, s.w, s.h⟩).x0) (x1 := (meet m.box ⟨0, 0, s.w, s.h⟩).x1) (y0 := (meet m.box ⟨0, 0, s.w, s.h⟩).y0) (y1 := (meet m.box ⟨0, 0, s.w, s.h⟩).y1) (p := s.pix) (H := inkH s.w p m mode fade)
    (f0 := fun y => impl_Surface_paint_PaintMask_1_l0 s.w s.h m mode p fade (meet m.box ⟨0, 0, s.w, s.h⟩) y) (f1 := impl_Surface_paint_PaintMask_1_l1 s.w s.h m mode p fade (meet m.box ⟨0, 0, s.w, s.h⟩))
    sw sh ⟨r1, r2⟩ ⟨r3, r4⟩ sp (fun y x l c y0 y1 x0 x1 hl hc _ => by
      obtain ⟨b1, b2, b3⟩ := in_wh (w := s.w) (h := s.h) (x := x) (y := y) ⟨by omega, sw.2⟩ ⟨by omega, sh.2⟩ ⟨by omega, by omega⟩ ⟨by omega, by omega⟩
      have hcast : (((y * s.w + x).toNat : Nat) : Int) = y * s.w + x := by omega
      obtain ⟨d1, d2⟩ := div_at (w := s.w) (x := x) (y := y) (by omega) ⟨by omega, by omega⟩
      have hi : idx l (y * s.w + x) = some c := by unfold idx; rw [if_pos (by omega)]; exact hc
      obtain ⟨i1, i2, i3⟩ := ink_eq (p := p) (mode := mode) (fade := fade) (x := x) (y := y) (old := c) h2
      try dsimp only
      rw [impl_Surface_paint_PaintMask_1_l0, ilf (by omega), cnd_false, wr_in (n := y * s.w) (by omega), wr_in (n := y * s.w + x) (by omega), hi, bnd_some, i3, i1, bnd_some, nam_eq, wr_in (n := x + 1) (by omega)]
      unfold inkH
      rw [hcast, d1, d2])
    (fun y x l hx => by (try dsimp only); rw [impl_Surface_paint_PaintMask_1_l0, ilt (by omega), cnd_true])
    (fun y l y0 y1 => by rw [impl_Surface_paint_PaintMask_1_l1, ilf (by omega), cnd_false, wr_in (n := y + 1) (by omega)])
    (fun y l hy => by rw [impl_Surface_paint_PaintMask_1_l1, ilt (by omega), cnd_true])
  rw [key, bnd_some, bnd_some]
  congr 3
  refine List.ext_getElem? fun k => ?_
  by_cases hk : k < s.pix.length
  · rw [ptd_get hk, ptd_get hk]
    obtain ⟨k1, k2, k3, k4⟩ := k_in sw sp hk
    cases hr : inRect s.w (meet m.box ⟨0, 0, s.w, s.h⟩).x0 (meet m.box ⟨0, 0, s.w, s.h⟩).x1 (meet m.box ⟨0, 0, s.w, s.h⟩).y0 (meet m.box ⟨0, 0, s.w, s.h⟩).y1 k with
    | true => rfl
    | false =>
      have hx : inBox m.box ⟨(k : Int) % s.w, (k : Int) / s.w⟩ = false := by
        rw [← Bool.not_eq_true, ← r5 _ _ k1 k2 k3 k4]
        simpa [inRect] using hr
      have := (ink_eq (p := p) (mode := mode) (fade := fade) (old := s.pix[k]) h2).2.1 hx
      unfold inkH
      rw [this]; rfl
  · rw [List.getElem?_eq_none (by rw [ptd_len]; omega), List.getElem?_eq_none (by rw [ptd_len]; omega)]
theorem m_spec_PaintMask {s : TSurface} {m : TMask} {p : TPaint} {mode fade : Int} (hs : s.pix.length ≤ 1048576) (hb : m.bits.length ≤ 1048576) : spec_PaintMask s m p mode fade = some (paintMask s m p mode fade) := by
  unfold spec_PaintMask spec_l14Copy paintMask
  rw [chkP_pos (by omega), nam_eq, bnd_some]
  dsimp only
  rw [m_spec_SurfaceOk (by omega), bnd_some]
  cases h1 : surfaceOk s
  · simp
  rw [cnd_true, m_spec_MaskOk (by omega), bnd_some]
  cases h2 : maskOk m
  · simp
  rw [cnd_true, m_spec_PaintOk, bnd_some]
  cases h3 : paintOk p
  · simp
  rw [cnd_true]
  simp only [Bool.and_self, if_true, List.nil_append]
  obtain ⟨sw, sh, sp, _⟩ := so_facts h1
  rw [tin_t] at sw sh
  have key := paint2 (w := s.w) (h := s.h) (x0 := 0) (x1 := s.w) (y0 := 0) (y1 := s.h) (p := s.pix) (H := inkH s.w p m mode fade)
    (f0 := fun y => spec_PaintMask_l0 s m p mode fade s.w s.h y) (f1 := spec_PaintMask_l1 s m p mode fade s.w s.h)
    sw sh (by omega) (by omega) sp (fun y x l c y0 y1 x0 x1 hl hc hc2 => by
      obtain ⟨b1, b2, b3⟩ := in_wh (w := s.w) (h := s.h) (x := x) (y := y) ⟨by omega, sw.2⟩ ⟨by omega, sh.2⟩ ⟨by omega, by omega⟩ ⟨by omega, by omega⟩
      have hcast : (((y * s.w + x).toNat : Nat) : Int) = y * s.w + x := by omega
      obtain ⟨d1, d2⟩ := div_at (w := s.w) (x := x) (y := y) (by omega) ⟨by omega, by omega⟩
      have hi : idx l (y * s.w + x) = some c := by unfold idx; rw [if_pos (by omega)]; exact hc
      have hj : idx s.pix (y * s.w + x) = some c := by unfold idx; rw [if_pos (by omega)]; exact hc2
      obtain ⟨i1, i2, i3⟩ := ink_eq (p := p) (mode := mode) (fade := fade) (x := x) (y := y) (old := c) h2
      have hH : inkH s.w p m mode fade (y * s.w + x).toNat c = ink1 p m mode fade x y c := by unfold inkH; rw [hcast, d1, d2]
      rw [hH]
      try dsimp only
      rw [spec_PaintMask_l0, ilf (by omega), cnd_false]
      unfold ink0 at i1
      obtain ⟨v, ev, _, _⟩ := t_bits h2 x y
      rw [ev, bnd_some] at i1 ⊢
      cases hv : ieq v 0 with
      | true =>
        rw [hv, cnd_true] at i1
        rw [cnd_true, wr_in (n := x + 1) (by omega)]
        simp only [Option.some.injEq] at i1
        rw [← i1]
        congr 3
        obtain ⟨hq, hq2⟩ := List.getElem?_eq_some_iff.1 hc
        rw [← hq2, List.set_getElem_self]
      | false =>
        rw [hv, cnd_false] at i1
        rw [cnd_false]
        obtain ⟨q, eq⟩ := (t_ColorAt p x y).2
        rw [eq, bnd_some] at i1 ⊢
        cases hn : spec_CountOf v with
        | none => rw [hn] at i1; cases i1
        | some n =>
          rw [hn, bnd_some] at i1
          rw [bnd_some]
          obtain ⟨t, et⟩ := t_Thin q n
          rw [et, bnd_some] at i1 ⊢
          obtain ⟨f, ef⟩ := t_Fade t fade
          rw [ef, bnd_some] at i1 ⊢
          rw [wr_in (n := y * s.w) (by omega), wr_in (n := y * s.w + x) (by omega), hj, bnd_some, i1, bnd_some, hi, bnd_some, nam_eq, wr_in (n := x + 1) (by omega)])
    (fun y x l hx => by (try dsimp only); rw [spec_PaintMask_l0, ilt (by omega), cnd_true])
    (fun y l y0 y1 => by rw [spec_PaintMask_l1, ilf (by omega), cnd_false, wr_in (n := y + 1) (by omega)])
    (fun y l hy => by rw [spec_PaintMask_l1, ilt (by omega), cnd_true])
  rw [key, bnd_some, ptd_congr (Q := fun _ => true) (fun k hk => full_rect sw sh sp k hk) (fun _ _ _ => rfl)]
theorem paintMask_len (s : TSurface) (m : TMask) (p : TPaint) (mode fade : Int) : (paintMask s m p mode fade).pix.length = s.pix.length := by
  unfold paintMask; split
  · exact ptd_len
  · rfl
/-! ## What blending yields -/
theorem rd255 {a : Int} (h : 0 ≤ a ∧ a ≤ 1073741824) : spec_RoundDiv a 255 = some ((2 * a + 255) / 510) := by
  have e1 : spec_FloorDiv a 255 = some (a / 255) := by
    unfold spec_FloorDiv
    rw [ilt (by omega), cnd_true, chkP_pos (by omega), Int.tmod_eq_emod_of_nonneg h.1, Int.tdiv_eq_ediv_of_nonneg h.1, ilt (by omega), cnd_true, wr_in (by omega)]
  unfold spec_RoundDiv
  rw [ilt (by omega), cnd_true, e1, bnd_some, wr_in (n := a / 255 * 255) (by omega), wr_in (n := a - a / 255 * 255) (by omega), wr_in (by omega), wr_in (by omega)]
  by_cases h2 : 255 - (a - a / 255 * 255) ≤ a - a / 255 * 255
  · rw [ilt h2, cnd_true]; congr 1; omega
  · rw [ilf (by omega), cnd_false]; congr 1; omega
def inB (x : Int) : Prop := 0 ≤ x ∧ x ≤ 255
theorem mulB {a b : Int} (ha : inB a) (hb : inB b) : 0 ≤ a * b ∧ a * b ≤ 65025 ∧ a * b ≤ 255 * a ∧ a * b ≤ 255 * b := by
  have h1 : a * b ≤ a * 255 := Int.mul_le_mul_of_nonneg_left hb.2 ha.1
  have h2 : a * b ≤ 255 * b := Int.mul_le_mul_of_nonneg_right ha.2 hb.1
  have h3 := Int.mul_nonneg ha.1 hb.1
  have := ha.2
  refine ⟨h3, by omega, by omega, h2⟩
theorem v_Times255 {a b : Int} (ha : inB a) (hb : inB b) : spec_Times255 a b = some ((2 * (a * b) + 255) / 510) := by
  obtain ⟨h1, h2, _, _⟩ := mulB ha hb
  unfold spec_Times255 spec_Clamp
  rw [ilt ha.1, ilt ha.2, ilt hb.1, ilt hb.2]
  simp only [cnd_true, bnd_some]
  rw [wr_in (by omega), rd255 (by omega), bnd_some]
def pv (m s d sa da : Int) : Int :=
  if m = 1 then min (s + (2 * (d * (255 - sa)) + 255) / 510) 255
  else if m = 2 then min ((2 * (s * d + s * (255 - da) + d * (255 - sa)) + 255) / 510) 255
  else if m = 3 then min (s + d - (2 * (s * d) + 255) / 510) 255
  else if m = 4 then min (s + d) 255
  else if m = 5 then min ((2 * (d * (255 - sa)) + 255) / 510) 255
  else min d 255
theorem v_part {m s d sa da : Int} (hs : inB s) (hd : inB d) (hsa : inB sa) (hda : inB da) : spec_l13Part m s d sa da = some (pv m s d sa da) := by
  have ns : inB (255 - sa) := ⟨by have := hsa.2; omega, by have := hsa.1; omega⟩
  have nd : inB (255 - da) := ⟨by have := hda.2; omega, by have := hda.1; omega⟩
  obtain ⟨p1, p2, p3, p4⟩ := mulB hs hd
  obtain ⟨q1, q2, q3, q4⟩ := mulB hs nd
  obtain ⟨r1, r2, r3, r4⟩ := mulB hd ns
  have hs' := hs; have hd' := hd
  obtain ⟨s0, s1⟩ := hs; obtain ⟨d0, d1⟩ := hd; obtain ⟨a0, a1⟩ := hsa; obtain ⟨b0, b1⟩ := hda
  unfold spec_l13Part pv
  simp only [t_cut]
  rw [wr_in (n := 255 - sa) (by omega), wr_in (n := 255 - da) (by omega), wr_in (n := s * d) (by omega), wr_in (n := s * (255 - da)) (by omega), wr_in (n := s * d + s * (255 - da)) (by omega), wr_in (n := d * (255 - sa)) (by omega),
    wr_in (n := s * d + s * (255 - da) + d * (255 - sa)) (by omega), v_Times255 hd' ns, rd255 (a := s * d + s * (255 - da) + d * (255 - sa)) (by omega), rd255 (a := s * d) (by omega)]
  simp only [bnd_some]
  rw [wr_in (n := s + (2 * (d * (255 - sa)) + 255) / 510) (by omega), wr_in (n := s + d) (by omega), wr_in (n := s + d - (2 * (s * d) + 255) / 510) (by omega)]
  by_cases h1 : m = 1
  · subst h1; simp [ieq]
  by_cases h2 : m = 2
  · subst h2; simp [ieq]
  by_cases h3 : m = 3
  · subst h3; simp [ieq]
  by_cases h4 : m = 4
  · subst h4; simp [ieq]
  by_cases h5 : m = 5
  · subst h5; simp [ieq]
  simp [ieq, h1, h2, h3, h4, h5]
theorem pv_mono {m s d s' d' sa da : Int} (hs : 0 ≤ s) (hd : 0 ≤ d) (h1 : s ≤ s') (h2 : d ≤ d') (h3 : s' ≤ 255) (h4 : d' ≤ 255) (hsa : inB sa) (hda : inB da) : 0 ≤ pv m s d sa da ∧ pv m s d sa da ≤ pv m s' d' sa da ∧ pv m s' d' sa da ≤ 255 := by
  have ns : inB (255 - sa) := ⟨by have := hsa.2; omega, by have := hsa.1; omega⟩
  have nd : inB (255 - da) := ⟨by have := hda.2; omega, by have := hda.1; omega⟩
  have k1 : d * (255 - sa) ≤ d' * (255 - sa) := Int.mul_le_mul_of_nonneg_right h2 ns.1
  have k2 : s * (255 - da) ≤ s' * (255 - da) := Int.mul_le_mul_of_nonneg_right h1 nd.1
  have k3 : s * d ≤ s' * d' := Int.le_trans (Int.mul_le_mul_of_nonneg_right h1 hd) (Int.mul_le_mul_of_nonneg_left h2 (by omega))
  obtain ⟨p1, p2, p3, p4⟩ := mulB (a := s) (b := d) ⟨hs, by omega⟩ ⟨hd, by omega⟩
  obtain ⟨q1, _, _, _⟩ := mulB (a := s) (b := 255 - da) ⟨hs, by omega⟩ nd
  obtain ⟨r1, _, _, _⟩ := mulB (a := d) (b := 255 - sa) ⟨hd, by omega⟩ ns
  obtain ⟨t1, t2, t3, t4⟩ := mulB (a := s') (b := d') ⟨by omega, h3⟩ ⟨by omega, h4⟩
  have k4 : s' * d' ≤ s * d + 255 * (d' - d) + 255 * (s' - s) := by
    have e : s' * d' = s * d + s' * (d' - d) + (s' - s) * d := by rw [Int.mul_sub, Int.sub_mul]; omega
    have f1 : s' * (d' - d) ≤ 255 * (d' - d) := Int.mul_le_mul_of_nonneg_right h3 (by omega)
    have f2 : (s' - s) * d ≤ (s' - s) * 255 := Int.mul_le_mul_of_nonneg_left (by omega) (by omega)
    omega
  unfold pv
  by_cases m1 : m = 1
  · rw [if_pos m1, if_pos m1]; omega
  rw [if_neg m1, if_neg m1]
  by_cases m2 : m = 2
  · rw [if_pos m2, if_pos m2]; omega
  rw [if_neg m2, if_neg m2]
  by_cases m3 : m = 3
  · rw [if_pos m3, if_pos m3]; omega
  rw [if_neg m3, if_neg m3]
  by_cases m4 : m = 4
  · rw [if_pos m4, if_pos m4]; omega
  rw [if_neg m4, if_neg m4]
  by_cases m5 : m = 5
  · rw [if_pos m5, if_pos m5]; omega
  rw [if_neg m5, if_neg m5]; omega
theorem v_Blend {m : Int} {s d : TColor} (hs : laidOk s = true) (hd : laidOk d = true) : spec_Blend m s d = some ⟨pv m s.r d.r s.a d.a, pv m s.g d.g s.a d.a, pv m s.b d.b s.a d.a, pv m s.a d.a s.a d.a⟩ := by
  obtain ⟨a1, a2, a3, a4, _⟩ := laid_facts hs
  obtain ⟨b1, b2, b3, b4, _⟩ := laid_facts hd
  unfold spec_Blend
  rw [m_spec_LaidOk, m_spec_LaidOk, hs, hd]
  simp only [bnd_some, cnd_true]
  rw [v_part a1 b1 a4 b4, v_part a2 b2 a4 b4, v_part a3 b3 a4 b4, v_part a4 b4 a4 b4]; rfl
theorem laid_Blend {m : Int} {s d r : TColor} (hd : laidOk d = true) (h : spec_Blend m s d = some r) : laidOk r = true := by
  cases hs : laidOk s with
  | false =>
    unfold spec_Blend at h
    rw [m_spec_LaidOk, hs, bnd_some, cnd_false] at h
    cases h; exact hd
  | true =>
    rw [v_Blend hs hd] at h
    cases h
    obtain ⟨a1, a2, a3, a4, a5, a6, a7⟩ := laid_facts hs
    obtain ⟨b1, b2, b3, b4, b5, b6, b7⟩ := laid_facts hd
    have p1 := pv_mono (m := m) a1.1 b1.1 a5 b5 a4.2 b4.2 a4 b4
    have p2 := pv_mono (m := m) a2.1 b2.1 a6 b6 a4.2 b4.2 a4 b4
    have p3 := pv_mono (m := m) a3.1 b3.1 a7 b7 a4.2 b4.2 a4 b4
    simp only [laidOk, Bool.and_eq_true, tin_t, ile_t]
    omega
theorem ok_ptd {s : TSurface} {P : Nat → Bool} {H : Nat → TColor → TColor} (h : surfaceOk s = true) (hH : ∀ k c, laidOk c = true → laidOk (H k c) = true) : surfaceOk ⟨s.w, s.h, ptd P H s.pix⟩ = true := by
  obtain ⟨sw, sh, sp, sc⟩ := so_facts h
  simp only [surfaceOk, Bool.and_eq_true, decide_eq_true_eq, List.all_eq_true]
  refine ⟨⟨⟨sw, sh⟩, by rw [ptd_len]; exact sp⟩, fun c hc => ?_⟩
  obtain ⟨k, hk, rfl⟩ := List.getElem_of_mem hc
  rw [ptd_len] at hk
  have := ptd_get (P := P) (H := H) hk
  rw [List.getElem?_eq_getElem (by rw [ptd_len]; exact hk)] at this
  simp only [Option.some.injEq] at this
  rw [this]
  split
  · exact hH k _ (sc _ (List.getElem_mem hk))
  · exact sc _ (List.getElem_mem hk)
theorem ok_paintMask {s : TSurface} {m : TMask} {p : TPaint} {mode fade : Int} (h : surfaceOk s = true) : surfaceOk (paintMask s m p mode fade) = true := by
  unfold paintMask; split
  · rename_i hc
    simp only [Bool.and_eq_true] at hc
    refine ok_ptd h fun k c hc' => ?_
    unfold inkH
    have e := (ink_eq (p := p) (m := m) (mode := mode) (fade := fade) (x := (k : Int) % s.w) (y := (k : Int) / s.w) (old := c) hc.1.2).1
    unfold ink0 at e
    obtain ⟨v, ev, _, _⟩ := t_bits hc.1.2 ((k : Int) % s.w) ((k : Int) / s.w)
    rw [ev, bnd_some] at e
    cases hv : ieq v 0 with
    | true => rw [hv, cnd_true] at e; simp only [Option.some.injEq] at e; rw [← e]; exact hc'
    | false =>
      rw [hv, cnd_false] at e
      obtain ⟨q, eq⟩ := (t_ColorAt p ((k : Int) % s.w) ((k : Int) / s.w)).2
      rw [eq, bnd_some] at e
      cases hn : spec_CountOf v with
      | none => rw [hn] at e; cases e
      | some n =>
        rw [hn, bnd_some] at e
        obtain ⟨t, et⟩ := t_Thin q n
        rw [et, bnd_some] at e
        obtain ⟨f, ef⟩ := t_Fade t fade
        rw [ef, bnd_some] at e
        exact laid_Blend hc' e
  · exact h

/-! ## Draws: each is told -/
theorem loopI_tot {σ ρ : Type} {f : σ → Option (σ ⊕ ρ)} (I : σ → Prop) (Q : ρ → Prop) (rk : σ → Nat) (hs : ∀ x, I x → (∃ y, f x = some (.inl y) ∧ I y ∧ rk y < rk x) ∨ (∃ r, f x = some (.inr r) ∧ Q r)) {x : σ} (hx : I x) : ∃ r, loopI f x = some r ∧ Q r := by
  have key : ∀ (n : Nat) (x : σ), rk x < n → I x → ∃ r, loopI f x = some r ∧ Q r := by
    intro n
    induction n with
    | zero => intro x h; omega
    | succ n ih =>
      intro x h hI
      rcases hs x hI with ⟨y, h1, h2, h3⟩ | ⟨r, h1, h2⟩
      · rw [loopI_go h1]; exact ih y (by omega) h2
      · exact ⟨r, loopI_end h1, h2⟩
  exact key (rk x + 1) x (by omega) hx
theorem pick_ok {c : TL01Cur} (h : CurOk c) {l : List Int} (h0 : 0 < l.length) : ∃ x c', spec_l01PickInt c l = some (x, c') ∧ x ∈ l ∧ CurOk c' := by
  obtain ⟨r, c', e, r0, r1, k⟩ := below_ok h (n := (l.length : Int)) (by omega)
  obtain ⟨x, hx, hm⟩ := idx_of (l := l) (i := r) r0 r1
  unfold spec_l01PickInt
  rw [e, bnd_some]
  try dsimp only
  rw [hx, bnd_some]
  exact ⟨x, c', rfl, hm, k⟩
theorem once_ok {c : TL01Cur} (h : CurOk c) {n : Int} (h0 : 0 < n) : ∃ b c', spec_l01Once n c = some (b, c') ∧ CurOk c' := by
  obtain ⟨r, c', e, r0, r1, k⟩ := below_ok h h0
  unfold spec_l01Once
  rw [e, bnd_some]
  exact ⟨_, c', rfl, k⟩
theorem point_ok {c : TL01Cur} (h : CurOk c) : ∃ p c', spec_l04Point c = some (p, c') ∧ CurOk c' := by
  obtain ⟨r, c1, e1, _, _, k1⟩ := below_ok h (n := 3600) (by omega)
  obtain ⟨s, c2, e2, _, _, k2⟩ := below_ok k1 (n := 3600) (by omega)
  unfold spec_l04Point
  rw [e1, bnd_some]
  try dsimp only
  rw [e2, bnd_some]
  exact ⟨_, c2, rfl, k2⟩
def need (v : Int) : Int := if v = 1 then 1 else if v = 2 then 1 else if v = 3 then 2 else if v = 4 then 3 else if v = 5 then 0 else -1
theorem m_NeedOf (v : Int) : spec_NeedOf v = some (need v) := by
  unfold spec_NeedOf
  rw [m_spec_l01In, bnd_some]
  cases h : tin v 1 5 with
  | false =>
    have h' : ¬ (1 ≤ v ∧ v ≤ 5) := by rw [← tin_t, h]; simp
    rw [cnd_false]; unfold need
    rw [if_neg (by omega), if_neg (by omega), if_neg (by omega), if_neg (by omega), if_neg (by omega)]
  | true =>
    rw [tin_t] at h
    have : v = 1 ∨ v = 2 ∨ v = 3 ∨ v = 4 ∨ v = 5 := by omega
    rcases this with rfl | rfl | rfl | rfl | rfl <;> decide
theorem need_bd (v : Int) : -1 ≤ need v ∧ need v ≤ 3 := by unfold need; repeat' split <;> omega
theorem need_in {v : Int} (h : 0 ≤ need v) : 1 ≤ v ∧ v ≤ 5 := by
  unfold need at h
  by_cases h1 : v = 1
  · omega
  by_cases h2 : v = 2
  · omega
  by_cases h3 : v = 3
  · omega
  by_cases h4 : v = 4
  · omega
  by_cases h5 : v = 5
  · omega
  rw [if_neg h1, if_neg h2, if_neg h3, if_neg h4, if_neg h5] at h; omega
/-- Points drawn, as many as a verb needs. -/
theorem pts_ok {f : Int × List Int × Int × Int × List TPoint → Option ((Int × List Int × Int × Int × List TPoint) ⊕ (List Int × Int × Int × List TPoint))} {n : Int} (hn : n ≤ 3)
    (hf : ∀ (k : Int) (b : List Int) (i h : Int) (ps : List TPoint), f (k, b, i, h, ps) = bnd (some n) fun v => cnd (ile v k) (some (.inr (b, i, h, ps))) (bnd (spec_l04Point ⟨b, i, h⟩) fun (w, c) => chkP ((List.length ps + 1) * 16 ≤ 17592186044416) (nam ((ps ++ [w]) : List TPoint) fun l => some (.inl (IntKind.i64.wrap (k + 1), c.b, c.i, c.h, l)))))
    {c : TL01Cur} (hc : CurOk c) {ps : List TPoint} (hl : ps.length ≤ 100) : ∃ b i h ps', loopI f (0, c.b, c.i, c.h, ps) = some (b, i, h, ps') ∧ CurOk ⟨b, i, h⟩ ∧ (ps'.length : Int) = (ps.length : Int) + max n 0 := by
  obtain ⟨r, h1, h2⟩ := loopI_tot (f := f) (fun s => 0 ≤ s.1 ∧ s.1 ≤ max n 0 ∧ CurOk ⟨s.2.1, s.2.2.1, s.2.2.2.1⟩ ∧ (s.2.2.2.2.length : Int) = (ps.length : Int) + s.1) (fun r => CurOk ⟨r.1, r.2.1, r.2.2.1⟩ ∧ (r.2.2.2.length : Int) = (ps.length : Int) + max n 0) (fun s => (max n 0 - s.1).toNat)
    (by
      rintro ⟨k, b, i, h, qs⟩ ⟨k0, k1, k2, k3⟩
      dsimp only at k0 k1 k2 k3
      rw [hf, bnd_some]
      by_cases hk : n ≤ k
      · right
        rw [ilt hk, cnd_true]
        exact ⟨_, rfl, k2, by (try dsimp only) <;> omega⟩
      · left
        obtain ⟨p, c', e, kc⟩ := point_ok k2
        rw [ilf (by omega), cnd_false, e, bnd_some]
        try dsimp only
        rw [chkP_pos (by omega), nam_eq, wr_in (by omega)]
        exact ⟨_, rfl, ⟨by (try dsimp only) <;> omega, by (try dsimp only) <;> omega, kc, by simp <;> omega⟩, by (try dsimp only) <;> omega⟩)
    (x := (0, c.b, c.i, c.h, ps)) ⟨by omega, by (try dsimp only) <;> omega, hc, by (try dsimp only) <;> omega⟩
  obtain ⟨b, i, h, ps'⟩ := r
  exact ⟨b, i, h, ps', h1, h2.1, h2.2⟩
theorem rect_ok (b : TBox) : ∃ p, spec_RectPath b = some p ∧ p.verbs.length ≤ 5 ∧ p.points.length ≤ 4 := by
  unfold spec_RectPath
  rw [m_spec_Empty, bnd_some, t_PointOk, t_PointOk]
  simp only [bnd_some]
  cases b.empty
  · rw [cnd_false]
    generalize (tin ({ x := ({ x := b.x0, y := b.y0 } : TPoint).x, y := ({ x := b.x0, y := b.y0 } : TPoint).y } : TPoint).x (-8388608) 8388608 && tin ({ x := ({ x := b.x0, y := b.y0 } : TPoint).x, y := ({ x := b.x0, y := b.y0 } : TPoint).y } : TPoint).y (-8388608) 8388608) = u
    generalize (tin ({ x := ({ x := b.x1, y := b.y1 } : TPoint).x, y := ({ x := b.x1, y := b.y1 } : TPoint).y } : TPoint).x (-8388608) 8388608 && tin ({ x := ({ x := b.x1, y := b.y1 } : TPoint).x, y := ({ x := b.x1, y := b.y1 } : TPoint).y } : TPoint).y (-8388608) 8388608) = v
    cases u <;> cases v <;> exact ⟨_, rfl, by simp, by simp⟩
  · exact ⟨_, rfl, by simp, by simp⟩
theorem verbs_mem {v : Int} (h : v ∈ [2, 2, 2, 3, 4, 5, 1]) : 0 ≤ need v := by
  simp only [List.mem_cons, List.mem_nil_iff, or_false] at h
  rcases h with rfl | rfl | rfl | rfl | rfl | rfl | rfl <;> decide
theorem path_ok {c : TL01Cur} (h : CurOk c) : ∃ p c', spec_l06Path c = some (p, c') ∧ CurOk c' ∧ p.verbs.length ≤ 24 ∧ p.points.length ≤ 24 := by
  obtain ⟨b, c1, e1, k1⟩ := once_ok h (n := 2) (by omega)
  unfold spec_l06Path
  rw [e1, bnd_some]
  try dsimp only
  cases b with
  | true =>
    rw [cnd_true]
    obtain ⟨x, c2, e2, _, _, k2⟩ := below_ok k1 (n := 2400) (by omega)
    obtain ⟨y, c3, e3, _, _, k3⟩ := below_ok k2 (n := 2400) (by omega)
    obtain ⟨u, c4, e4, _, _, k4⟩ := below_ok k3 (n := 1500) (by omega)
    obtain ⟨v, c5, e5, _, _, k5⟩ := below_ok k4 (n := 1500) (by omega)
    rw [e2, bnd_some]
    try dsimp only
    rw [e3, bnd_some]
    try dsimp only
    rw [e4, bnd_some]
    try dsimp only
    rw [e5, bnd_some]
    try dsimp only
    obtain ⟨p, ep, p1, p2⟩ := rect_ok ⟨x, y, IntKind.i64.wrap (IntKind.i64.wrap (x + 1) + u), IntKind.i64.wrap (IntKind.i64.wrap (y + 1) + v)⟩
    rw [ep, bnd_some]
    exact ⟨p, c5, rfl, k5, by omega, by omega⟩
  | false =>
    rw [cnd_false]
    obtain ⟨r, h1, h2⟩ := loopI_tot (f := spec_l06Path_l3) (fun s => 0 ≤ s.1 ∧ s.1 ≤ 6 ∧ CurOk ⟨s.2.1, s.2.2.1, s.2.2.2.1⟩ ∧ (s.2.2.2.2.1.length : Int) = s.1 ∧ s.2.2.2.2.2.length ≤ 24)
      (fun r => match r with
        | .inl (b, i, h, vs, ps) => CurOk ⟨b, i, h⟩ ∧ vs.length ≤ 24 ∧ ps.length ≤ 24
        | .inr (b, i, h, vs, ps) => CurOk ⟨b, i, h⟩ ∧ vs.length ≤ 24 ∧ ps.length ≤ 24) (fun s => (6 - s.1).toNat)
      (by
        rintro ⟨x, b, i, h, vs, ps⟩ ⟨x0, x1, kc, hv, hp⟩
        dsimp only at x0 x1 kc hv hp
        obtain ⟨w, d, e2, w0, w1, kd⟩ := below_ok kc (n := 6) (by omega)
        rw [spec_l06Path_l3, e2, bnd_some]
        try dsimp only
        rw [wr_in (n := 1 + w) (by omega)]
        by_cases hx : 1 + w ≤ x
        · right
          rw [ilt hx, cnd_true]
          exact ⟨_, rfl, kd, by omega, hp⟩
        · obtain ⟨v, d2, e3, hm, kd2⟩ := pick_ok kd (l := [2, 2, 2, 3, 4, 5, 1]) (by simp)
          rw [ilf (by omega), cnd_false, e3, bnd_some]
          try dsimp only
          by_cases hz : x = 0
          · rw [hz, iqt, cnd_true, m_NeedOf, bnd_some]
            have n1 : need 1 = 1 := by decide
            rw [n1, wr_in (n := (ps.length : Int) + 1) (by omega)]
            by_cases hq : (ps.length : Int) + 1 ≤ 24
            · left
              rw [ilt hq, cnd_true, chkP_pos (by omega), nam_eq]
              obtain ⟨b', i', h', ps', e4, k4, l4⟩ := pts_ok (f := spec_l06Path_l0 (vs ++ [1]) 0) (n := 1) (by omega) (fun k b i h ps => by rw [spec_l06Path_l0, m_NeedOf, n1]) kd2 (ps := ps) (by omega)
              rw [e4, bnd_some]
              try dsimp only
              rw [wr_in (by omega)]
              exact ⟨_, rfl, ⟨by (try dsimp only) <;> omega, by (try dsimp only) <;> omega, k4, by simp <;> omega, by (try dsimp only) <;> omega⟩, by (try dsimp only) <;> omega⟩
            · right
              rw [ilf (by omega), cnd_false]
              exact ⟨_, rfl, kd2, by omega, hp⟩
          · rw [iqf hz, cnd_false, wr_in (n := x - 1) (by omega)]
            obtain ⟨q, hq, _⟩ := idx_of (l := vs) (i := x - 1) (by omega) (by omega)
            rw [hq, bnd_some]
            by_cases h5 : q = 5
            · rw [h5, iqt, cnd_true, m_NeedOf, bnd_some]
              have n1 : need 1 = 1 := by decide
              rw [n1, wr_in (n := (ps.length : Int) + 1) (by omega)]
              by_cases hq : (ps.length : Int) + 1 ≤ 24
              · left
                rw [ilt hq, cnd_true, chkP_pos (by omega), nam_eq]
                obtain ⟨b', i', h', ps', e4, k4, l4⟩ := pts_ok (f := spec_l06Path_l1 (vs ++ [1]) x) (n := 1) (by omega) (fun k b i h ps => by rw [spec_l06Path_l1, m_NeedOf, n1]) kd2 (ps := ps) (by omega)
                rw [e4, bnd_some]
                try dsimp only
                rw [wr_in (by omega)]
                exact ⟨_, rfl, ⟨by (try dsimp only) <;> omega, by (try dsimp only) <;> omega, k4, by simp <;> omega, by (try dsimp only) <;> omega⟩, by (try dsimp only) <;> omega⟩
              · right
                rw [ilf (by omega), cnd_false]
                exact ⟨_, rfl, kd2, by omega, hp⟩
            · have nb := need_bd v
              have n0 := verbs_mem hm
              rw [iqf h5, cnd_false, m_NeedOf, bnd_some, wr_in (n := (ps.length : Int) + need v) (by omega)]
              by_cases hq : (ps.length : Int) + need v ≤ 24
              · left
                rw [ilt hq, cnd_true, chkP_pos (by omega), nam_eq]
                obtain ⟨b', i', h', ps', e4, k4, l4⟩ := pts_ok (f := spec_l06Path_l2 (vs ++ [v]) v x) (n := need v) (by omega) (fun k b i h ps => by rw [spec_l06Path_l2, m_NeedOf]) kd2 (ps := ps) (by omega)
                rw [e4, bnd_some]
                try dsimp only
                rw [wr_in (by omega)]
                exact ⟨_, rfl, ⟨by (try dsimp only) <;> omega, by (try dsimp only) <;> omega, k4, by simp <;> omega, by (try dsimp only) <;> omega⟩, by (try dsimp only) <;> omega⟩
              · right
                rw [ilf (by omega), cnd_false]
                exact ⟨_, rfl, kd2, by omega, hp⟩)
      (x := (0, c1.b, c1.i, c1.h, [], [])) ⟨by omega, by (try dsimp only) <;> omega, k1, by simp, by simp⟩
    rw [h1, bnd_some]
    rcases r with ⟨b, i, h, vs, ps⟩ | ⟨b, i, h, vs, ps⟩
    · exact ⟨_, _, rfl, h2.1, h2.2.1, h2.2.2⟩
    · exact ⟨_, _, rfl, h2.1, h2.2.1, h2.2.2⟩

/-! ## Lines and masks of drawn paths: each is told -/
def nsum (vs : List Int) (i : Nat) : Int := ((vs.take i).map need).sum
theorem nsum_succ {vs : List Int} {i : Nat} (h : i < vs.length) : nsum vs (i + 1) = nsum vs i + need vs[i] := by
  unfold nsum
  rw [List.take_add_one, List.getElem?_eq_getElem h, List.map_append, List.sum_append]
  simp
structure VOk (vs : List Int) (n : Int) : Prop where
  all : ∀ i (h : i < vs.length), 0 ≤ need vs[i]
  one : ∀ h : 0 < vs.length, vs[0] = 1
  sum : nsum vs vs.length = n
theorem nsum_le {vs : List Int} {n : Int} (h : VOk vs n) : ∀ d i, i + d = vs.length → nsum vs i ≤ n := by
  intro d
  induction d with
  | zero => intro i hi; have : i = vs.length := by omega
            subst this; rw [h.sum]; omega
  | succ d ih =>
    intro i hi
    have h1 := ih (i + 1) (by omega)
    rw [nsum_succ (by omega)] at h1
    have := h.all i (by omega)
    omega
theorem nsum_bd {vs : List Int} : ∀ i, i ≤ vs.length → (∀ j (h : j < vs.length), j < i → 0 ≤ need vs[j]) → 0 ≤ nsum vs i ∧ nsum vs i ≤ 3 * (i : Int) := by
  intro i
  induction i with
  | zero => intro _ _; simp [nsum]
  | succ i ih =>
    intro hi h
    have h1 := ih (by omega) (fun j hj hji => h j hj (by omega))
    have h2 := h i (by omega) (by omega)
    have h3 := need_bd vs[i]
    rw [nsum_succ (by omega)]
    omega
theorem pathOk_t (p : TPath) : ∃ b, spec_PathOk p = some b ∧ (b = true → p.verbs.length ≤ 24 ∧ p.points.length ≤ 24 ∧ VOk p.verbs (p.points.length : Int)) := by
  unfold spec_PathOk
  by_cases h1 : (p.points.length : Int) ≤ 24
  case neg => rw [ilf (by omega), cnd_false]; exact ⟨false, rfl, fun h => by cases h⟩
  by_cases h2 : (p.verbs.length : Int) ≤ 24
  case neg => rw [ilt h1, cnd_true, ilf (by omega), cnd_false]; exact ⟨false, rfl, fun h => by cases h⟩
  rw [ilt h1, ilt h2, cnd_true, cnd_true]
  obtain ⟨r, e1, e2⟩ := loopI_tot (f := spec_PathOk_l0 p) (fun s => ∃ i : Nat, s.2 = (i : Int) ∧ i ≤ p.verbs.length ∧ s.1 = nsum p.verbs i ∧ (∀ j (h : j < p.verbs.length), j < i → 0 ≤ need p.verbs[j]) ∧ (∀ h : 0 < p.verbs.length, 0 < i → p.verbs[0] = 1))
    (fun r => match r with | .inl y => y = nsum p.verbs p.verbs.length ∧ (∀ j (h : j < p.verbs.length), 0 ≤ need p.verbs[j]) ∧ (∀ h : 0 < p.verbs.length, p.verbs[0] = 1) | .inr _ => True) (fun s => (p.verbs.length - s.2).toNat)
    (by
      rintro ⟨x, y⟩ ⟨i, hy, hi, hx, ha, ho⟩
      dsimp only at hy hx
      subst hy; subst hx
      have hb := nsum_bd i hi ha
      rw [spec_PathOk_l0]
      by_cases hlt : i < p.verbs.length
      case neg =>
        right
        rw [ilt (by omega), cnd_true]
        have : i = p.verbs.length := by omega
        subst this
        exact ⟨_, rfl, rfl, fun j h => ha j h h, fun h => ho h h⟩
      have nb := need_bd p.verbs[i]
      rw [ilf (by omega), cnd_false, idx_nat hlt, bnd_some, m_NeedOf, bnd_some]
      by_cases hn : 0 ≤ need p.verbs[i]
      case neg => right; rw [ilf (by omega), cnd_false]; exact ⟨_, rfl, trivial⟩
      rw [ilt hn, cnd_true, wr_in (n := nsum p.verbs i + need p.verbs[i]) (by omega), wr_in (n := (i : Int) + 1) (by omega)]
      have step : ∀ ho' : (∀ h : 0 < p.verbs.length, p.verbs[0] = 1), ∃ k : Nat, (nsum p.verbs i + need p.verbs[i], (i : Int) + 1).2 = (k : Int) ∧ k ≤ p.verbs.length ∧ (nsum p.verbs i + need p.verbs[i], (i : Int) + 1).1 = nsum p.verbs k ∧ (∀ j (h : j < p.verbs.length), j < k → 0 ≤ need p.verbs[j]) ∧ (∀ h : 0 < p.verbs.length, 0 < k → p.verbs[0] = 1) := by
        intro ho'
        refine ⟨i + 1, by simp, by omega, (nsum_succ hlt).symm, fun j h hj => ?_, fun h _ => ho' h⟩
        by_cases hji : j = i
        · subst hji; exact hn
        · exact ha j h (by omega)
      by_cases h0 : i = 0
      · subst h0
        have z : ((0 : Nat) : Int) = 0 := rfl
        rw [z, iqt, cnd_true]
        by_cases hv : p.verbs[0] = 1
        · left
          rw [hv, iqt, cnd_true]
          rw [hv] at step
          exact ⟨_, rfl, step (fun _ => hv), by (try dsimp only) <;> omega⟩
        · right; rw [iqf hv, cnd_false]; exact ⟨_, rfl, trivial⟩
      · rw [iqf (by omega), cnd_false, wr_in (n := (i : Int) - 1) (by omega)]
        obtain ⟨q, hq, _⟩ := idx_of (l := p.verbs) (i := (i : Int) - 1) (by omega) (by omega)
        have ho' : ∀ h : 0 < p.verbs.length, p.verbs[0] = 1 := fun h => ho h (by omega)
        rw [hq, bnd_some]
        by_cases h5 : q = 5
        · rw [h5, iqt, cnd_true]
          by_cases hv : p.verbs[i] = 1
          · left
            rw [hv, iqt, cnd_true]
            rw [hv] at step
            exact ⟨_, rfl, step ho', by (try dsimp only) <;> omega⟩
          · right; rw [iqf hv, cnd_false]; exact ⟨_, rfl, trivial⟩
        · left
          rw [iqf h5, cnd_false]
          exact ⟨_, rfl, step ho', by (try dsimp only) <;> omega⟩)
    (x := (0, 0)) ⟨0, rfl, by omega, by simp [nsum], fun j _ h => by omega, fun _ h => by omega⟩
  rw [e1, bnd_some]
  rcases r with y | u
  · have key := loopI_row (l := p.points) (f := spec_PathOk_l1 p y) (fun q => tin q.x (-8388608) 8388608 && tin q.y (-8388608) 8388608) (by omega) (fun i hi => by rw [spec_PathOk_l1, ilf (by omega), cnd_false, idx_nat hi, bnd_some, t_PointOk, bnd_some]) (by rw [spec_PathOk_l1, ilt (by omega), cnd_true])
    try dsimp only
    rw [key, bnd_some]
    cases p.points.all (fun q => tin q.x (-8388608) 8388608 && tin q.y (-8388608) 8388608)
    · exact ⟨false, rfl, fun h => by cases h⟩
    · refine ⟨ieq y (p.points.length : Int), rfl, fun h => ⟨by omega, by omega, e2.2.1, e2.2.2, ?_⟩⟩
      have : y = (p.points.length : Int) := by simpa [ieq] using h
      rw [← e2.1]; exact this
  · exact ⟨false, rfl, fun h => by cases h⟩
theorem t_QuadAt (a b c : TPoint) (i : Int) : ∃ q, spec_QuadAt a b c i = some q := by
  unfold spec_QuadAt
  rw [t_PointOk, t_PointOk, t_PointOk]
  simp only [bnd_some]
  obtain ⟨v, e⟩ := t_Clamp i 0 4
  rw [e, bnd_some]
  generalize hX : spec_RoundDiv (IntKind.i64.wrap ((IntKind.i64.wrap ((IntKind.i64.wrap ((IntKind.i64.wrap ((IntKind.i64.wrap (4 - v)) * (IntKind.i64.wrap (4 - v)))) * a.x)) + (IntKind.i64.wrap ((IntKind.i64.wrap ((IntKind.i64.wrap (2 * v)) * (IntKind.i64.wrap (4 - v)))) * b.x)))) + (IntKind.i64.wrap ((IntKind.i64.wrap (v * v)) * c.x)))) 16 = X
  generalize hY : spec_RoundDiv (IntKind.i64.wrap ((IntKind.i64.wrap ((IntKind.i64.wrap ((IntKind.i64.wrap ((IntKind.i64.wrap (4 - v)) * (IntKind.i64.wrap (4 - v)))) * a.y)) + (IntKind.i64.wrap ((IntKind.i64.wrap ((IntKind.i64.wrap (2 * v)) * (IntKind.i64.wrap (4 - v)))) * b.y)))) + (IntKind.i64.wrap ((IntKind.i64.wrap (v * v)) * c.y)))) 16 = Y
  obtain ⟨x, ex⟩ := t_RoundDiv (IntKind.i64.wrap ((IntKind.i64.wrap ((IntKind.i64.wrap ((IntKind.i64.wrap ((IntKind.i64.wrap (4 - v)) * (IntKind.i64.wrap (4 - v)))) * a.x)) + (IntKind.i64.wrap ((IntKind.i64.wrap ((IntKind.i64.wrap (2 * v)) * (IntKind.i64.wrap (4 - v)))) * b.x)))) + (IntKind.i64.wrap ((IntKind.i64.wrap (v * v)) * c.x)))) 16
  obtain ⟨y, ey⟩ := t_RoundDiv (IntKind.i64.wrap ((IntKind.i64.wrap ((IntKind.i64.wrap ((IntKind.i64.wrap ((IntKind.i64.wrap (4 - v)) * (IntKind.i64.wrap (4 - v)))) * a.y)) + (IntKind.i64.wrap ((IntKind.i64.wrap ((IntKind.i64.wrap (2 * v)) * (IntKind.i64.wrap (4 - v)))) * b.y)))) + (IntKind.i64.wrap ((IntKind.i64.wrap (v * v)) * c.y)))) 16
  rw [hX] at ex; rw [hY] at ey; subst ex; subst ey
  cases (tin a.x (-8388608) 8388608 && tin a.y (-8388608) 8388608) <;> cases (tin b.x (-8388608) 8388608 && tin b.y (-8388608) 8388608) <;> cases (tin c.x (-8388608) 8388608 && tin c.y (-8388608) 8388608) <;> exact ⟨_, rfl⟩
theorem bnd2 {α β γ : Type} {A : Option α} {B : Option β} {F : α → β → γ} (ha : ∃ x, A = some x) (hb : ∃ y, B = some y) : ∃ z, (bnd A fun x => bnd B fun y => some (F x y)) = some z := by
  obtain ⟨x, rfl⟩ := ha; obtain ⟨y, rfl⟩ := hb; exact ⟨_, rfl⟩
theorem t_CubicAt (a b c d : TPoint) (i : Int) : ∃ q, spec_CubicAt a b c d i = some q := by
  unfold spec_CubicAt
  rw [t_PointOk, t_PointOk, t_PointOk, t_PointOk]
  simp only [bnd_some]
  obtain ⟨v, e⟩ := t_Clamp i 0 8
  rw [e, bnd_some]
  cases (tin a.x (-8388608) 8388608 && tin a.y (-8388608) 8388608) <;> cases (tin b.x (-8388608) 8388608 && tin b.y (-8388608) 8388608) <;> cases (tin c.x (-8388608) 8388608 && tin c.y (-8388608) 8388608) <;> cases (tin d.x (-8388608) 8388608 && tin d.y (-8388608) 8388608) <;> simp only [cnd_true, cnd_false]
  all_goals first | exact ⟨_, rfl⟩ | exact bnd2 (t_RoundDiv _ _) (t_RoundDiv _ _)
structure Rws (n : Nat) (ls : List (List TPoint)) : Prop where
  n : ls.length ≤ n
  each : ∀ l ∈ ls, l.length ≤ 300
theorem Rws.app {n : Nat} {ls : List (List TPoint)} {l : List TPoint} (h : Rws n ls) (hl : l.length ≤ 300) : Rws (n + 1) (ls ++ [l]) := by
  refine ⟨by have := h.n; simp; omega, fun x hx => ?_⟩
  rcases List.mem_append.1 hx with hx | hx
  · exact h.each x hx
  · simp only [List.mem_singleton] at hx; subst hx; exact hl
theorem flat_t (p : TPath) : ∃ ls, spec_FlatOf p = some ls ∧ Rws 30 ls := by
  obtain ⟨b, e, hb⟩ := pathOk_t p
  unfold spec_FlatOf
  rw [e, bnd_some]
  cases b with
  | false => rw [cnd_false]; exact ⟨[], rfl, by simp, by simp⟩
  | true =>
    obtain ⟨hv, hp, hV⟩ := hb rfl
    rw [cnd_true]
    obtain ⟨r, e1, e2⟩ := loopI_tot (f := spec_FlatOf_l2 p) (fun s => ∃ i : Nat, s.2.1 = (i : Int) ∧ i ≤ p.verbs.length ∧ s.1 = nsum p.verbs i ∧ s.2.2.1.length ≤ 1 + 8 * i ∧ (0 < i → 0 < s.2.2.1.length) ∧ Rws i s.2.2.2)
      (fun r => r.2.length ≤ 200 ∧ Rws 24 r.1) (fun s => (p.verbs.length - s.2.1).toNat)
      (by
        rintro ⟨x, y, now, out⟩ ⟨i, hy, hi, hx, hl, hne, hr⟩
        dsimp only at hy hx hl hne hr
        subst hy; subst hx
        have hb := nsum_bd i hi (fun j h _ => hV.all j h)
        rw [spec_FlatOf_l2]
        by_cases hlt : i < p.verbs.length
        case neg =>
          right
          rw [ilt (by omega), cnd_true]
          exact ⟨_, rfl, by (try dsimp only) <;> omega, by have := hr.n; exact ⟨by show out.length ≤ 24; omega, hr.each⟩⟩
        left
        have nb := need_bd p.verbs[i]
        have n0 := hV.all i hlt
        have hin := need_in n0
        have hle := nsum_le hV (p.verbs.length - (i + 1)) (i + 1) (by omega)
        rw [nsum_succ hlt] at hle
        have hrn := hr.n
        rw [ilf (by omega), cnd_false, idx_nat hlt, bnd_some]
        have fin : ∀ (now' : List TPoint) (out' : List (List TPoint)), now'.length ≤ 1 + 8 * (i + 1) → 0 < now'.length → Rws (i + 1) out' →
            ∃ z : Int × Int × List TPoint × List (List TPoint), (some (.inl (nsum p.verbs i + need p.verbs[i], (i : Int) + 1, now', out')) : Option ((Int × Int × List TPoint × List (List TPoint)) ⊕ (List (List TPoint) × List TPoint))) = some (.inl z) ∧
              (∃ i : Nat, z.2.1 = (i : Int) ∧ i ≤ p.verbs.length ∧ z.1 = nsum p.verbs i ∧ z.2.2.1.length ≤ 1 + 8 * i ∧ (0 < i → 0 < z.2.2.1.length) ∧ Rws i z.2.2.2) ∧ ((p.verbs.length : Int) - z.2.1).toNat < ((p.verbs.length : Int) - (i : Int)).toNat := by
          intro now' out' h1 h2 h3
          refine ⟨_, rfl, ⟨i + 1, by simp, by omega, (nsum_succ hlt).symm, h1, fun _ => h2, h3⟩, ?_⟩
          (try dsimp only) <;> omega
        have hr1 : Rws (i + 1) out := ⟨by omega, hr.each⟩
        rw [wr_in (n := (i : Int) + 1) (by omega)]
        simp only [m_NeedOf, bnd_some]
        rw [wr_in (n := nsum p.verbs i + need p.verbs[i]) (by omega)]
        by_cases v1 : p.verbs[i] = 1
        · have nd : need p.verbs[i] = 1 := by rw [v1]; decide
          obtain ⟨q, hq, _⟩ := idx_of (l := p.points) (i := nsum p.verbs i) (by omega) (by omega)
          rw [show ieq p.verbs[i] 1 = true by rw [v1]; exact iqt, cnd_true]
          by_cases h0 : i = 0
          · rw [ilt (by omega), cnd_true, hq, bnd_some]
            exact fin [q] out (by simp) (by simp) hr1
          · rw [ilf (by omega), cnd_false, chkP_pos (by omega), nam_eq, hq, bnd_some]
            exact fin [q] (out ++ [now]) (by simp) (by simp) (hr.app (by omega))
        rw [iqf v1, cnd_false]
        have ip : 0 < i := by
          rcases Nat.eq_zero_or_pos i with h | h
          · subst h; exact absurd (hV.one hlt) v1
          · exact h
        have np := hne ip
        by_cases v2 : p.verbs[i] = 2
        · have nd : need p.verbs[i] = 1 := by rw [v2]; decide
          obtain ⟨q, hq, _⟩ := idx_of (l := p.points) (i := nsum p.verbs i) (by omega) (by omega)
          rw [show ieq p.verbs[i] 2 = true by rw [v2]; exact iqt, cnd_true, hq, bnd_some, chkP_pos (by omega), nam_eq]
          exact fin (now ++ [q]) out (by simp; omega) (by simp) hr1
        rw [iqf v2, cnd_false, wr_in (n := (now.length : Int) - 1) (by omega)]
        obtain ⟨last, hlast, _⟩ := idx_of (l := now) (i := (now.length : Int) - 1) (by omega) (by omega)
        obtain ⟨first, hfirst, _⟩ := idx_of (l := now) (i := 0) (by omega) (by omega)
        rw [hlast, hfirst]
        simp only [bnd_some]
        by_cases v3 : p.verbs[i] = 3
        · have nd : need p.verbs[i] = 2 := by rw [v3]; decide
          obtain ⟨q, hq, _⟩ := idx_of (l := p.points) (i := nsum p.verbs i) (by omega) (by omega)
          obtain ⟨u, hu, _⟩ := idx_of (l := p.points) (i := nsum p.verbs i + 1) (by omega) (by omega)
          rw [show ieq p.verbs[i] 3 = true by rw [v3]; exact iqt, cnd_true]
          obtain ⟨w, f1, f2⟩ := loopI_tot (f := spec_FlatOf_l0 p last (nsum p.verbs i) (i : Int) out) (fun s => 1 ≤ s.1 ∧ s.1 ≤ 5 ∧ (s.2.length : Int) = (now.length : Int) + s.1 - 1) (fun r => r.length = now.length + 4) (fun s => (5 - s.1).toNat)
            (by
              rintro ⟨k, l⟩ ⟨k0, k1, k2⟩
              dsimp only at k0 k1 k2
              rw [spec_FlatOf_l0]
              by_cases hk : k ≤ 4
              · left
                rw [ilt hk, cnd_true, hq, bnd_some, wr_in (n := nsum p.verbs i + 1) (by omega), hu, bnd_some]
                obtain ⟨z, ez⟩ := t_QuadAt last q u k
                rw [ez, bnd_some, chkP_pos (by omega), nam_eq, wr_in (by omega)]
                exact ⟨_, rfl, ⟨by (try dsimp only) <;> omega, by (try dsimp only) <;> omega, by simp <;> omega⟩, by (try dsimp only) <;> omega⟩
              · right
                rw [ilf (by omega), cnd_false]
                exact ⟨_, rfl, by (try dsimp only) <;> omega⟩)
            (x := (1, now)) ⟨by omega, by (try dsimp only) <;> omega, by (try dsimp only) <;> omega⟩
          rw [f1, bnd_some]
          exact fin w out (by omega) (by omega) hr1
        rw [iqf v3, cnd_false]
        by_cases v4 : p.verbs[i] = 4
        · have nd : need p.verbs[i] = 3 := by rw [v4]; decide
          obtain ⟨q, hq, _⟩ := idx_of (l := p.points) (i := nsum p.verbs i) (by omega) (by omega)
          obtain ⟨u, hu, _⟩ := idx_of (l := p.points) (i := nsum p.verbs i + 1) (by omega) (by omega)
          obtain ⟨t, ht, _⟩ := idx_of (l := p.points) (i := nsum p.verbs i + 2) (by omega) (by omega)
          rw [show ieq p.verbs[i] 4 = true by rw [v4]; exact iqt, cnd_true]
          obtain ⟨w, f1, f2⟩ := loopI_tot (f := spec_FlatOf_l1 p last (nsum p.verbs i) (i : Int) out) (fun s => 1 ≤ s.1 ∧ s.1 ≤ 9 ∧ (s.2.length : Int) = (now.length : Int) + s.1 - 1) (fun r => r.length = now.length + 8) (fun s => (9 - s.1).toNat)
            (by
              rintro ⟨k, l⟩ ⟨k0, k1, k2⟩
              dsimp only at k0 k1 k2
              rw [spec_FlatOf_l1]
              by_cases hk : k ≤ 8
              · left
                rw [ilt hk, cnd_true, hq, bnd_some, wr_in (n := nsum p.verbs i + 1) (by omega), hu, bnd_some, wr_in (n := nsum p.verbs i + 2) (by omega), ht, bnd_some]
                obtain ⟨z, ez⟩ := t_CubicAt last q u t k
                rw [ez, bnd_some, chkP_pos (by omega), nam_eq, wr_in (by omega)]
                exact ⟨_, rfl, ⟨by (try dsimp only) <;> omega, by (try dsimp only) <;> omega, by simp <;> omega⟩, by (try dsimp only) <;> omega⟩
              · right
                rw [ilf (by omega), cnd_false]
                exact ⟨_, rfl, by (try dsimp only) <;> omega⟩)
            (x := (1, now)) ⟨by omega, by (try dsimp only) <;> omega, by (try dsimp only) <;> omega⟩
          rw [f1, bnd_some]
          exact fin w out (by omega) (by omega) hr1
        rw [iqf v4, cnd_false]
        have v5 : p.verbs[i] = 5 := by omega
        rw [show ieq p.verbs[i] 5 = true by rw [v5]; exact iqt, cnd_true]
        cases (andB (decide (first.x = last.x)) (andB (decide (first.y = last.y)) true))
        · rw [cnd_false, chkP_pos (by omega), nam_eq]
          exact fin (now ++ [first]) out (by simp; omega) (by simp) hr1
        · rw [cnd_true]
          exact fin now out (by omega) np hr1)
      (x := (0, 0, [], [])) ⟨0, rfl, by omega, by simp [nsum], by simp, fun h => by omega, by simp, by simp⟩
    rw [e1, bnd_some]
    obtain ⟨out, now⟩ := r
    try dsimp only at e2 ⊢
    have hn := e2.2.n
    by_cases h0 : (now.length : Int) ≤ 0
    · rw [ilt h0, cnd_true]; exact ⟨out, rfl, by omega, e2.2.each⟩
    · rw [ilf (by omega), cnd_false, chkP_pos (by omega), nam_eq]
      have := e2.2.app (l := now) (by have := e2.1; omega)
      exact ⟨_, rfl, by have := this.n; omega, this.each⟩

/-! ## Masks of lines -/
theorem near_t (p : TPoint) : ∃ b, spec_l10Near p = some b := by
  unfold spec_l10Near
  rw [m_spec_l01In, m_spec_l01In]
  simp only [bnd_some]
  cases tin p.x (-33554432) 33554432 <;> exact ⟨_, rfl⟩
theorem wind_t {l : List TPoint} (hl : l.length ≤ 300) (p : TPoint) : ∃ n, spec_WindOf l p = some n := by
  unfold spec_WindOf
  obtain ⟨b, e⟩ := near_t p
  rw [e, bnd_some]
  cases b
  · exact ⟨0, rfl⟩
  rw [cnd_true]
  obtain ⟨r, e1, _⟩ := loopI_tot (f := spec_WindOf_l0 l p) (fun s => 0 ≤ s.1 ∧ s.1 ≤ l.length) (fun _ => True) (fun s => ((l.length : Int) - s.1).toNat)
    (by
      rintro ⟨i, n⟩ ⟨i0, i1⟩
      dsimp only at i0 i1
      rw [spec_WindOf_l0]
      by_cases hi : (l.length : Int) ≤ i
      · right; rw [ilt hi, cnd_true]; exact ⟨_, rfl, trivial⟩
      obtain ⟨q, hq, _⟩ := idx_of (l := l) (i := i) i0 (by omega)
      obtain ⟨u, hu, _⟩ := idx_of (l := l) (i := (i + 1).tmod (l.length : Int)) (Int.tmod_nonneg _ (by omega)) (Int.tmod_lt_of_pos _ (by omega))
      rw [ilf (by omega), cnd_false, hq, bnd_some, chkP_pos (by omega), wr_in (n := i + 1) (by omega), hu, bnd_some]
      obtain ⟨b1, f1⟩ := near_t q
      obtain ⟨b2, f2⟩ := near_t u
      rw [f1, f2]
      simp only [bnd_some]
      have fin : ∀ n' : Int, ∃ y : Int × Int, (some (.inl (i + 1, n')) : Option ((Int × Int) ⊕ (Int ⊕ Unit))) = some (.inl y) ∧ (0 ≤ y.1 ∧ y.1 ≤ l.length) ∧ ((l.length : Int) - y.1).toNat < ((l.length : Int) - (i, n).1).toNat := by
        intro n'
        exact ⟨_, rfl, ⟨by (try dsimp only) <;> omega, by (try dsimp only) <;> omega⟩, by (try dsimp only) <;> omega⟩
      cases b1
      · right; exact ⟨_, rfl, trivial⟩
      cases b2
      · right; exact ⟨_, rfl, trivial⟩
      simp only [cnd_true]
      left
      cases ile q.y p.y <;> cases ile u.y p.y <;> simp only [cnd_true, cnd_false]
      · exact fin _
      · generalize ile 0 _ = z
        cases z <;> exact fin _
      · generalize ile _ 0 = z
        cases z <;> exact fin _
      · exact fin _)
    (x := (0, 0)) ⟨by omega, by (try dsimp only) <;> omega⟩
  rw [e1, bnd_some]
  cases r <;> exact ⟨_, rfl⟩
theorem covers_t {ls : List (List TPoint)} (h : Rws 30 ls) (b : Bool) (p : TPoint) : ∃ c, spec_Covers ls b p = some c := by
  unfold spec_Covers
  have hn := h.n
  obtain ⟨r, e1, _⟩ := loopI_tot (f := spec_Covers_l0 ls b p) (fun s => 0 ≤ s.2 ∧ s.2 ≤ ls.length) (fun _ => True) (fun s => ((ls.length : Int) - s.2).toNat)
    (by
      rintro ⟨n, i⟩ ⟨i0, i1⟩
      dsimp only at i0 i1
      rw [spec_Covers_l0]
      by_cases hi : (ls.length : Int) ≤ i
      · right; rw [ilt hi, cnd_true]; exact ⟨_, rfl, trivial⟩
      left
      obtain ⟨q, hq, hm⟩ := idx_of (l := ls) (i := i) i0 (by omega)
      obtain ⟨w, hw⟩ := wind_t (h.each q hm) p
      rw [ilf (by omega), cnd_false, hq, bnd_some, hw, bnd_some, wr_in (n := i + 1) (by omega)]
      exact ⟨_, rfl, ⟨by (try dsimp only) <;> omega, by (try dsimp only) <;> omega⟩, by (try dsimp only) <;> omega⟩)
    (x := (0, 0)) ⟨by omega, by (try dsimp only) <;> omega⟩
  rw [e1, bnd_some]
  cases b <;> exact ⟨_, rfl⟩
theorem maskAt_t {ls : List (List TPoint)} (h : Rws 30 ls) (b : Bool) (x y : Int) : ∃ v, spec_MaskAt ls b x y = some v := by
  unfold spec_MaskAt
  rw [m_spec_l01In, m_spec_l01In]
  simp only [bnd_some]
  cases tin x (-2000) 2000
  · exact ⟨_, rfl⟩
  cases tin y (-2000) 2000
  · exact ⟨_, rfl⟩
  simp only [cnd_true]
  obtain ⟨r, e1, _⟩ := loopI_tot (f := spec_MaskAt_l0 ls b x y) (fun s => 0 ≤ s.2 ∧ s.2 ≤ 4) (fun _ => True) (fun s => (4 - s.2).toNat)
    (by
      rintro ⟨n, i⟩ ⟨i0, i1⟩
      dsimp only at i0 i1
      rw [spec_MaskAt_l0]
      by_cases hi : 4 ≤ i
      · right; rw [ilt hi, cnd_true]; exact ⟨_, rfl, trivial⟩
      left
      obtain ⟨w, hw⟩ := covers_t h b ⟨IntKind.i64.wrap ((IntKind.i64.wrap ((IntKind.i64.wrap (256 * x)) + 64)) + (IntKind.i64.wrap (128 * (Int.tmod i 2)))), IntKind.i64.wrap ((IntKind.i64.wrap ((IntKind.i64.wrap (256 * y)) + 64)) + (IntKind.i64.wrap (128 * (IntKind.i64.wrap (Int.tdiv i 2)))))⟩
      obtain ⟨q, hq, hm⟩ := idx_of (l := ([1, 2, 4, 8] : List Int)) (i := i) i0 (by simp; omega)
      rw [ilf (by omega), cnd_false, hw, bnd_some, hq, wr_in (n := i + 1) (by omega)]
      cases w
      · exact ⟨_, rfl, ⟨by (try dsimp only) <;> omega, by (try dsimp only) <;> omega⟩, by (try dsimp only) <;> omega⟩
      · exact ⟨_, rfl, ⟨by (try dsimp only) <;> omega, by (try dsimp only) <;> omega⟩, by (try dsimp only) <;> omega⟩)
    (x := (0, 0)) ⟨by omega, by (try dsimp only) <;> omega⟩
  rw [e1, bnd_some]
  exact ⟨_, rfl⟩
theorem maskOf_t {ls : List (List TPoint)} (h : Rws 30 ls) (e : Bool) (b : TBox) : ∃ c bits, spec_MaskOf ls e b = some (c, bits) ∧ bits.length ≤ 3600 := by
  unfold spec_MaskOf
  rw [m_spec_l11Box, bnd_some]
  cases hb : maskBox b
  · exact ⟨_, _, rfl, by simp⟩
  rw [cnd_true]
  have hf := mb_facts hb
  have row : ∀ (y : Int) (acc : List Int), acc.length ≤ 3600 → ∃ l, loopI (spec_MaskOf_l0 ls e b y) (b.x0, acc) = some l ∧ l.length ≤ acc.length + 60 := by
    intro y acc ha
    obtain ⟨l, h1, h2⟩ := loopI_tot (f := spec_MaskOf_l0 ls e b y) (fun s => b.x0 ≤ s.1 ∧ s.1 ≤ b.x1 ∧ (s.2.length : Int) = (acc.length : Int) + (s.1 - b.x0)) (fun r => r.length ≤ acc.length + 60) (fun s => (b.x1 - s.1).toNat)
      (by
        rintro ⟨x, l⟩ ⟨x0, x1, x2⟩
        dsimp only at x0 x1 x2
        rw [spec_MaskOf_l0]
        by_cases hx : b.x1 ≤ x
        · right; rw [ilt hx, cnd_true]; exact ⟨_, rfl, by (try dsimp only) <;> omega⟩
        left
        obtain ⟨v, hv⟩ := maskAt_t h e x y
        rw [ilf (by omega), cnd_false, hv, bnd_some, chkP_pos (by omega), nam_eq, wr_in (by omega)]
        exact ⟨_, rfl, ⟨by (try dsimp only) <;> omega, by (try dsimp only) <;> omega, by simp <;> omega⟩, by (try dsimp only) <;> omega⟩)
      (x := (b.x0, acc)) ⟨by (try dsimp only) <;> omega, by (try dsimp only) <;> omega, by (try dsimp only) <;> omega⟩
    exact ⟨l, h1, h2⟩
  obtain ⟨l, h1, h2⟩ := loopI_tot (f := spec_MaskOf_l1 ls e b) (fun s => b.y0 ≤ s.1 ∧ s.1 ≤ b.y1 ∧ (s.2.length : Int) ≤ 60 * (s.1 - b.y0)) (fun r => r.length ≤ 3600) (fun s => (b.y1 - s.1).toNat)
    (by
      rintro ⟨y, l⟩ ⟨y0, y1, y2⟩
      dsimp only at y0 y1 y2
      rw [spec_MaskOf_l1]
      by_cases hy : b.y1 ≤ y
      · right; rw [ilt hy, cnd_true]; exact ⟨_, rfl, by (try dsimp only) <;> omega⟩
      left
      obtain ⟨q, hq, hql⟩ := row y l (by omega)
      rw [ilf (by omega), cnd_false, hq, bnd_some, wr_in (by omega)]
      exact ⟨_, rfl, ⟨by (try dsimp only) <;> omega, by (try dsimp only) <;> omega, by (try dsimp only) <;> omega⟩, by (try dsimp only) <;> omega⟩)
    (x := (b.y0, [])) ⟨by (try dsimp only) <;> omega, by (try dsimp only) <;> omega, by simp⟩
  rw [h1, bnd_some]
  exact ⟨_, _, rfl, h2⟩
theorem mask_ok {c : TL01Cur} (h : CurOk c) : ∃ m c', spec_l11Mask c = some (m, c') ∧ CurOk c' ∧ m.bits.length ≤ 3600 := by
  unfold spec_l11Mask
  obtain ⟨r1, c1, e1, _, _, k1⟩ := below_ok h (n := 8) (by omega)
  obtain ⟨r2, c2, e2, _, _, k2⟩ := below_ok k1 (n := 8) (by omega)
  obtain ⟨r3, c3, e3, _, _, k3⟩ := below_ok k2 (n := 6) (by omega)
  obtain ⟨r4, c4, e4, _, _, k4⟩ := below_ok k3 (n := 6) (by omega)
  obtain ⟨p, c5, e5, k5, _, _⟩ := path_ok k4
  obtain ⟨ls, e6, hls⟩ := flat_t p
  rw [e1, bnd_some]
  try dsimp only
  rw [e2, bnd_some]
  try dsimp only
  rw [e3, bnd_some]
  try dsimp only
  rw [e4, bnd_some]
  try dsimp only
  rw [e5, bnd_some]
  try dsimp only
  rw [e6, bnd_some]
  obtain ⟨bx, bits, e7, hbits⟩ := maskOf_t hls false (TBox.mk (IntKind.i64.wrap (r1 - 2)) (IntKind.i64.wrap (r2 - 2)) (IntKind.i64.wrap ((IntKind.i64.wrap ((IntKind.i64.wrap (r1 - 2)) + 1)) + r3)) (IntKind.i64.wrap ((IntKind.i64.wrap ((IntKind.i64.wrap (r2 - 2)) + 1)) + r4)))
  rw [e7, bnd_some]
  try dsimp only
  obtain ⟨b, c6, e8, k6⟩ := once_ok k5 (n := 3) (by omega)
  rw [e8, bnd_some]
  try dsimp only
  cases b
  · exact ⟨_, _, rfl, k6, hbits⟩
  rw [cnd_true]
  obtain ⟨r, f1, f2⟩ := loopI_tot (f := spec_l11Mask_l0 bx) (fun s => 0 ≤ s.1 ∧ s.1 ≤ s.2.2.2.2.length ∧ CurOk ⟨s.2.1, s.2.2.1, s.2.2.2.1⟩ ∧ s.2.2.2.2.length ≤ 3600) (fun r => CurOk ⟨r.1, r.2.1, r.2.2.1⟩ ∧ r.2.2.2.length ≤ 3600) (fun s => ((s.2.2.2.2.length : Int) - s.1).toNat)
    (by
      rintro ⟨i, b, j, hh, l⟩ ⟨i0, i1, kc, hl⟩
      dsimp only at i0 i1 kc hl
      rw [spec_l11Mask_l0]
      by_cases hi : (l.length : Int) ≤ i
      · right; rw [ilt hi, cnd_true]; exact ⟨_, rfl, kc, hl⟩
      left
      obtain ⟨v, c7, e9, _, k7⟩ := pick_ok kc (l := [0, 0, 15, 15, 3, 8]) (by simp)
      obtain ⟨q, hq, _⟩ := idx_of (l := l) (i := i) i0 (by omega)
      rw [ilf (by omega), cnd_false, e9, bnd_some]
      try dsimp only
      rw [hq, bnd_some, nam_eq, wr_in (by omega)]
      exact ⟨_, rfl, ⟨by (try dsimp only) <;> omega, by simp <;> omega, k7, by simpa using hl⟩, by simp <;> omega⟩)
    (x := (0, c6.b, c6.i, c6.h, bits)) ⟨by omega, by (try dsimp only) <;> omega, k6, hbits⟩
  rw [f1, bnd_some]
  exact ⟨_, _, rfl, f2.1, f2.2⟩
theorem color_ok {c : TL01Cur} (h : CurOk c) : ∃ x c', spec_l12Color c = some (x, c') ∧ CurOk c' := by
  unfold spec_l12Color
  obtain ⟨r1, c1, e1, _, _, k1⟩ := below_ok h (n := 256) (by omega)
  obtain ⟨r2, c2, e2, _, _, k2⟩ := below_ok k1 (n := 256) (by omega)
  obtain ⟨r3, c3, e3, _, _, k3⟩ := below_ok k2 (n := 256) (by omega)
  obtain ⟨v, c4, e4, _, k4⟩ := pick_ok k3 (l := [255, 255, 128, 0, 1, 200]) (by simp)
  rw [e1, bnd_some]
  try dsimp only
  rw [e2, bnd_some]
  try dsimp only
  rw [e3, bnd_some]
  try dsimp only
  rw [e4, bnd_some]
  exact ⟨_, _, rfl, k4⟩
theorem paint_ok {c : TL01Cur} (h : CurOk c) : ∃ x c', spec_l12Paint c = some (x, c') ∧ CurOk c' := by
  unfold spec_l12Paint
  obtain ⟨x, c1, e1, k1⟩ := color_ok h
  obtain ⟨b, c2, e2, k2⟩ := once_ok k1 (n := 3) (by omega)
  rw [e1, bnd_some]
  try dsimp only
  rw [e2, bnd_some]
  try dsimp only
  cases b
  · exact ⟨_, _, rfl, k2⟩
  obtain ⟨y, c3, e3, k3⟩ := color_ok k2
  obtain ⟨p, c4, e4, k4⟩ := point_ok k3
  obtain ⟨q, c5, e5, k5⟩ := point_ok k4
  rw [cnd_true, e3, bnd_some]
  try dsimp only
  rw [e4, bnd_some]
  try dsimp only
  rw [e5, bnd_some]
  try dsimp only
  cases andB (decide (p.x = q.x)) (andB (decide (p.y = q.y)) true) <;> exact ⟨_, _, rfl, k5⟩
theorem zero_ok {w h : Int} (hw : tin w 1 12 = true) (hh : tin h 1 12 = true) : surfaceOk ⟨w, h, List.replicate (Int.toNat (w * h)) ⟨0, 0, 0, 0⟩⟩ = true := by
  have := wh_bd hw hh
  simp only [surfaceOk, Bool.and_eq_true, decide_eq_true_eq, List.all_eq_true]
  refine ⟨⟨⟨hw, hh⟩, by rw [List.length_replicate]; omega⟩, fun c hc => ?_⟩
  rw [List.eq_of_mem_replicate hc]; decide
theorem m_spec_SurfaceNew {w h : Int} (hw : tin w 1 12 = true) (hh : tin h 1 12 = true) : spec_SurfaceNew w h = some (⟨w, h, List.replicate (Int.toNat (w * h)) ⟨0, 0, 0, 0⟩⟩, true) := by
  have := wh_bd hw hh
  unfold spec_SurfaceNew
  rw [m_spec_l01In, bnd_some, hw, cnd_true, m_spec_l01In, bnd_some, hh, cnd_true, wr_in (by omega), chkP_pos (by omega), nam_eq]
theorem so_len {s : TSurface} (h : surfaceOk s = true) : s.pix.length ≤ 144 := by
  obtain ⟨sw, sh, sp, _⟩ := so_facts h
  have := wh_bd sw sh
  omega
theorem surf_ok {c : TL01Cur} (h : CurOk c) : ∃ s c', spec_l14Surface c = some (s, c') ∧ CurOk c' ∧ surfaceOk s = true := by
  unfold spec_l14Surface
  obtain ⟨r1, c1, e1, a1, b1, k1⟩ := below_ok h (n := 7) (by omega)
  obtain ⟨r2, c2, e2, a2, b2, k2⟩ := below_ok k1 (n := 7) (by omega)
  rw [e1, bnd_some]
  try dsimp only
  rw [e2, bnd_some]
  try dsimp only
  rw [wr_in (n := 1 + r1) (by omega), wr_in (n := 1 + r2) (by omega), m_spec_SurfaceNew (by rw [tin_t]; omega) (by rw [tin_t]; omega), bnd_some]
  try dsimp only
  obtain ⟨r, f1, f2⟩ := loopI_tot (f := spec_l14Surface_l0) (fun s => 0 ≤ s.1 ∧ s.1 ≤ 3 ∧ CurOk ⟨s.2.1, s.2.2.1, s.2.2.2.1⟩ ∧ surfaceOk ⟨s.2.2.2.2.1, s.2.2.2.2.2.1, s.2.2.2.2.2.2⟩ = true) (fun r => CurOk ⟨r.1, r.2.1, r.2.2.1⟩ ∧ surfaceOk ⟨r.2.2.2.1, r.2.2.2.2.1, r.2.2.2.2.2⟩ = true) (fun s => (3 - s.1).toNat)
    (by
      rintro ⟨i, b, j, hh, w, hg, px⟩ ⟨i0, i1, kc, hs⟩
      dsimp only at i0 i1 kc hs
      obtain ⟨v, c3, e3, v0, v1, k3⟩ := below_ok kc (n := 3) (by omega)
      rw [spec_l14Surface_l0, e3, bnd_some]
      try dsimp only
      by_cases hv : v ≤ i
      · right; rw [ilt hv, cnd_true]; exact ⟨_, rfl, k3, hs⟩
      left
      obtain ⟨m, c4, e4, k4, hm⟩ := mask_ok k3
      obtain ⟨p, c5, e5, k5⟩ := paint_ok k4
      obtain ⟨u, c6, e6, u0, u1, k6⟩ := below_ok k5 (n := 5) (by omega)
      obtain ⟨t, c7, e7, _, k7⟩ := pick_ok k6 (l := [255, 255, 100, 0]) (by simp)
      rw [ilf (by omega), cnd_false, e4, bnd_some]
      try dsimp only
      rw [e5, bnd_some]
      try dsimp only
      rw [e6, bnd_some]
      try dsimp only
      rw [e7, bnd_some]
      try dsimp only
      have hl := so_len hs
      rw [m_spec_PaintMask (by omega) (by omega), bnd_some, wr_in (n := i + 1) (by omega)]
      exact ⟨_, rfl, ⟨by (try dsimp only) <;> omega, by (try dsimp only) <;> omega, k7, ok_paintMask hs⟩, by (try dsimp only) <;> omega⟩)
    (x := (0, c2.b, c2.i, c2.h, 1 + r1, 1 + r2, List.replicate (Int.toNat ((1 + r1) * (1 + r2))) ⟨0, 0, 0, 0⟩)) ⟨by omega, by (try dsimp only) <;> omega, k2, zero_ok (w := 1 + r1) (h := 1 + r2) (by rw [tin_t]; omega) (by rw [tin_t]; omega)⟩
  rw [f1, bnd_some]
  exact ⟨_, _, rfl, f2.1, f2.2⟩
theorem drawSurf_ok {a : List Int} (h : a.length ≤ 1048576) : ∃ s, spec_DrawRightSurface a = some s ∧ surfaceOk s = true := by
  obtain ⟨c, e1, k⟩ := new_ok a h
  obtain ⟨s, c', e2, _, hs⟩ := surf_ok k
  unfold spec_DrawRightSurface
  rw [e1, bnd_some, e2, bnd_some]
  exact ⟨s, rfl, hs⟩

/-! ## FnLayers -/
theorem eqColS {l : List TColor} (h : l.length ≤ 1048576) : slices_Equal_Color l l = some true := by
  unfold slices_Equal_Color
  rw [iqt, cnd_true, loopI_row (l := l) (fun _ => true) (by omega) (fun i hi => by
    rw [slices_Equal_Color_l0, ilf (by omega), cnd_false, idx_nat hi, bnd_some, bnd_some]; simp [andB]) (by rw [slices_Equal_Color_l0, ilt (by omega), cnd_true])]
  simp
theorem same_i {s : TSurface} (h : s.pix.length ≤ 1048576) : impl_SameSurface s s = some true := by
  unfold impl_SameSurface
  rw [iqt, iqt, cnd_true, cnd_true, eqColS h]; rfl
theorem v_Fade {c : TColor} {n : Int} (hc : laidOk c = true) (hn : inB n) : spec_Fade c n = some ⟨(2 * (c.r * n) + 255) / 510, (2 * (c.g * n) + 255) / 510, (2 * (c.b * n) + 255) / 510, (2 * (c.a * n) + 255) / 510⟩ := by
  obtain ⟨a1, a2, a3, a4, _⟩ := laid_facts hc
  unfold spec_Fade
  have ht : tin n 0 255 = true := by rw [tin_t]; exact hn
  rw [m_spec_LaidOk, bnd_some, hc, cnd_true, m_spec_l01In, bnd_some, ht, cnd_true, v_Times255 a1 hn, v_Times255 a2 hn, v_Times255 a3 hn, v_Times255 a4 hn]; rfl
theorem lay_zero_on {m n : Int} {c : TColor} (hm : 1 ≤ m ∧ m ≤ 5) (hn : inB n) (hc : laidOk c = true) : lay1 m n ⟨0, 0, 0, 0⟩ c = c := by
  have e := lay1_eq m n ⟨0, 0, 0, 0⟩ c
  rw [v_Fade (c := ⟨0, 0, 0, 0⟩) (by decide) hn, bnd_some] at e
  obtain ⟨a1, a2, a3, a4, a5, a6, a7⟩ := laid_facts hc
  dsimp only at e
  have z : (2 * (0 * n) + 255) / 510 = 0 := by omega
  rw [z, v_Blend (by decide) hc] at e
  simp only [Option.some.injEq] at e
  rw [← e]
  have f : ∀ d da : Int, 0 ≤ d ∧ d ≤ 255 → pv m 0 d 0 da = d := by
    intro d da hd
    unfold pv
    have h5 : m = 1 ∨ m = 2 ∨ m = 3 ∨ m = 4 ∨ m = 5 := by omega
    rcases h5 with rfl | rfl | rfl | rfl | rfl
    · simp; omega
    · simp; omega
    · simp; omega
    · simp; omega
    · simp; omega
  rw [f _ _ a1, f _ _ a2, f _ _ a3, f _ _ a4]
/-! ## FnPaintsOn -/
theorem drawMasks_ok {a : List Int} (h : a.length ≤ 1048576) : ∃ m m', spec_DrawMasks a = some (m, m') ∧ m.bits.length ≤ 3600 := by
  obtain ⟨c, e1, k⟩ := new_ok a h
  obtain ⟨m, c1, e2, k1, hm⟩ := mask_ok k
  obtain ⟨m', c2, e3, _, _⟩ := mask_ok k1
  unfold spec_DrawMasks
  rw [e1, bnd_some, e2, bnd_some]
  try dsimp only
  rw [e3, bnd_some]
  exact ⟨m, m', rfl, hm⟩
theorem drawSlope_ok {a : List Int} (h : a.length ≤ 1048576) : ∃ p, spec_DrawSlope a = some p := by
  obtain ⟨c, e1, k⟩ := new_ok a h
  obtain ⟨p, c1, e2, _⟩ := paint_ok k
  unfold spec_DrawSlope
  rw [e1, bnd_some, e2, bnd_some]
  exact ⟨p, rfl⟩
theorem pixelAt_in {s : TSurface} (hs : surfaceOk s = true) {x y : Int} (hx : 0 ≤ x ∧ x < s.w) (hy : 0 ≤ y ∧ y < s.h) (hk : (y * s.w + x).toNat < s.pix.length) : impl_PixelAt s x y = some s.pix[(y * s.w + x).toNat] := by
  obtain ⟨sw, sh, sp, _⟩ := so_facts hs
  have hl := so_len hs
  rw [tin_t] at sw sh
  obtain ⟨b1, b2, b3⟩ := in_wh (w := s.w) (h := s.h) (x := x) (y := y) ⟨by omega, sw.2⟩ ⟨by omega, sh.2⟩ hx hy
  unfold impl_PixelAt
  rw [wr_in (n := s.w - 1) (by omega), wr_in (n := s.h - 1) (by omega), m_impl_inRange, bnd_some, show tin x 0 (s.w - 1) = true by (rw [tin_t]; omega), cnd_true, m_impl_inRange, bnd_some, show tin y 0 (s.h - 1) = true by (rw [tin_t]; omega), cnd_true,
    m_impl_SurfaceOk (by omega), bnd_some, hs, cnd_true, wr_in (n := y * s.w) (by omega), wr_in (n := y * s.w + x) (by omega)]
  have hi : idx s.pix (y * s.w + x) = some s.pix[(y * s.w + x).toNat] := by unfold idx; rw [if_pos (by omega)]; exact List.getElem?_eq_getElem hk
  rw [hi, bnd_some]
theorem pixelAt_out {s : TSurface} (hs : surfaceOk s = true) {x y : Int} (hx : tin x 0 (s.w - 1) = false) : impl_PixelAt s x y = some ⟨0, 0, 0, 0⟩ := by
  obtain ⟨sw, sh, sp, _⟩ := so_facts hs
  rw [tin_t] at sw sh
  unfold impl_PixelAt
  rw [wr_in (n := s.w - 1) (by omega), m_impl_inRange, bnd_some, hx, cnd_false]
theorem paintMask_w (s : TSurface) (m : TMask) (p : TPaint) (mode fade : Int) : (paintMask s m p mode fade).w = s.w ∧ (paintMask s m p mode fade).h = s.h := by
  unfold paintMask; split <;> exact ⟨rfl, rfl⟩
theorem bitsAt_v {m : TMask} (h : m.bits.length ≤ 1048576) (x y : Int) : ∃ v, spec_BitsAt m x y = some v ∧ (maskOk m = true → spec_l11Bits m x y = some v ∧ tin v 0 15 = true) ∧ (maskOk m = false → v = 0) := by
  unfold spec_BitsAt
  rw [m_spec_MaskOk (by omega), bnd_some]
  cases hm : maskOk m with
  | false => exact ⟨0, rfl, (fun h => by cases h), fun _ => rfl⟩
  | true =>
    obtain ⟨v, e, hv, _⟩ := t_bits hm x y
    rw [cnd_true, e, bnd_some]
    exact ⟨v, rfl, (fun _ => ⟨rfl, hv⟩), (fun h => by cases h)⟩
theorem thin_zero (n : Int) : spec_Thin ⟨0, 0, 0, 0⟩ n = some ⟨0, 0, 0, 0⟩ := by
  unfold spec_Thin
  rw [m_spec_LaidOk, bnd_some, show laidOk ⟨0, 0, 0, 0⟩ = true by decide, cnd_true, m_spec_l01In, bnd_some]
  cases tin n 0 4
  · rfl
  · rw [cnd_true]
    dsimp only
    have e : spec_RoundDiv (IntKind.i64.wrap (0 * n)) 4 = some 0 := by rw [Int.zero_mul]; decide
    rw [e]; rfl
theorem sameCol_self (c : TColor) : andB (decide (c.r = c.r)) (andB (decide (c.g = c.g)) (andB (decide (c.b = c.b)) (andB (decide (c.a = c.a)) true))) = true := by simp [andB]
theorem m_FnPaintsOn {a : List Int} (ha : okL (okN .u8) a) : laws_FnPaintsOn a = some true := by
  unfold laws_FnPaintsOn laws_big
  rw [bnd_some]
  by_cases hbig : (a.length : Int) ≤ 1048576
  case neg => rw [ilf (by omega)]; rfl
  rw [ilt hbig]
  obtain ⟨s, e1, hs⟩ := drawSurf_ok (a := a) (by omega)
  obtain ⟨sw, sh, sp, sc⟩ := so_facts hs
  have hsl := so_len hs
  obtain ⟨m, m', e2, hm⟩ := drawMasks_ok (a := a) (by omega)
  obtain ⟨p, e3⟩ := drawSlope_ok (a := a) (by omega)
  obtain ⟨pl, e4, p1, p2⟩ := places_ok (a := a) (by omega)
  obtain ⟨q0, hq0, hm0⟩ := idx_of (l := pl) (i := 0) (by omega) (by omega)
  obtain ⟨q1, hq1, hm1⟩ := idx_of (l := pl) (i := 1) (by omega) (by omega)
  have b0 := p2 q0 hm0
  have b1 := p2 q1 hm1
  have c0 := Int.tmod_nonneg 5 b0.1
  have c1 := Int.tmod_lt_of_pos q0 (b := 5) (by omega)
  have c2 := Int.tmod_nonneg 256 b1.1
  have c3 := Int.tmod_lt_of_pos q1 (b := 256) (by omega)
  rw [Bool.not_true, cnd_false, e1, bnd_some, e2, bnd_some]
  dsimp only
  rw [e3, bnd_some, e4, bnd_some, hq0, bnd_some, hq1, bnd_some, wr_in (n := 1 + q0.tmod 5) (by omega)]
  generalize hmo : 1 + q0.tmod 5 = mode
  generalize hfa : q1.tmod 256 = fade
  have hmode : 1 ≤ mode ∧ mode ≤ 5 := by omega
  have hfade : inB fade := by unfold inB; omega
  rw [m_impl_PaintMask (by omega) (by omega), bnd_some]
  dsimp only
  have kn := ok_paintMask (s := s) (m := m) (p := p) (mode := mode) (fade := fade) hs
  have kl := paintMask_len s m p mode fade
  obtain ⟨kw, kh⟩ := paintMask_w s m p mode fade
  have kn' : surfaceOk ⟨(paintMask s m p mode fade).w, (paintMask s m p mode fade).h, (paintMask s m p mode fade).pix⟩ = true := kn
  rw [m_impl_SurfaceOk (by dsimp only; omega), bnd_some, kn', cnd_true, m_impl_SurfaceOk (by omega), bnd_some, hs, cnd_true, kw, kh, iqt, iqt, cnd_true, cnd_true]
  have sw' := sw; have sh' := sh
  rw [tin_t] at sw' sh'
  have pixel : ∀ x y, 0 ≤ x → x < s.w → 0 ≤ y → y < s.h → laws_FnPaintsOn_l0 s p q0 q1 m s.w s.h (paintMask s m p mode fade).pix y x = some (.inl (x + 1)) := by
    intro x y x0 x1 y0 y1
    obtain ⟨i1, i2, i3⟩ := in_wh (w := s.w) (h := s.h) (x := x) (y := y) ⟨by omega, sw'.2⟩ ⟨by omega, sh'.2⟩ ⟨x0, x1⟩ ⟨y0, y1⟩
    have hlt : (y * s.w + x).toNat < s.pix.length := by omega
    have hlt2 : (y * s.w + x).toNat < (paintMask s m p mode fade).pix.length := by omega
    have hcast : (((y * s.w + x).toNat : Nat) : Int) = y * s.w + x := by omega
    obtain ⟨d1, d2⟩ := div_at (w := s.w) (x := x) (y := y) (by omega) ⟨x0, x1⟩
    have hP := pixelAt_in hs ⟨x0, x1⟩ ⟨y0, y1⟩ hlt
    have kn2 : surfaceOk ⟨s.w, s.h, (paintMask s m p mode fade).pix⟩ = true := by rw [← kn']; congr 2 <;> simp [kw, kh]
    have hN := pixelAt_in (s := ⟨s.w, s.h, (paintMask s m p mode fade).pix⟩) kn2 ⟨x0, x1⟩ ⟨y0, y1⟩ hlt2
    dsimp only at hN
    obtain ⟨v, ev, v1, v2⟩ := bitsAt_v (m := m) (by omega) x y
    rw [laws_FnPaintsOn_l0, ilf (by omega), cnd_false, ev, bnd_some, hP, bnd_some, hN, wr_in (n := x + 1) (by omega), wr_in (n := 1 + q0.tmod 5) (by omega), hmo, hfa]
    -- the pixel behind
    have hpix : maskOk m = true → paintOk p = true → (paintMask s m p mode fade).pix[(y * s.w + x).toNat] = ink1 p m mode fade x y s.pix[(y * s.w + x).toNat] := by
      intro g1 g2
      have hh : (paintMask s m p mode fade).pix[(y * s.w + x).toNat]? = some (ink1 p m mode fade x y s.pix[(y * s.w + x).toNat]) := by
        unfold paintMask
        rw [hs, g1, g2]
        simp only [Bool.and_self, if_true]
        rw [ptd_get hlt]
        unfold inkH
        rw [hcast, d1, d2]; rfl
      rw [List.getElem?_eq_getElem hlt2] at hh
      simpa using hh
    have hsame : ¬ (maskOk m = true ∧ paintOk p = true) → (paintMask s m p mode fade).pix[(y * s.w + x).toNat] = s.pix[(y * s.w + x).toNat] := by
      intro g
      have hh : paintMask s m p mode fade = s := by
        unfold paintMask
        rw [if_neg (by rw [hs]; simpa using g)]
      have hh2 : (paintMask s m p mode fade).pix[(y * s.w + x).toNat]? = s.pix[(y * s.w + x).toNat]? := by rw [hh]
      rw [List.getElem?_eq_getElem hlt2, List.getElem?_eq_getElem hlt] at hh2
      simpa using hh2
    cases g1 : maskOk m with
    | false =>
      rw [v2 g1, iqt, cnd_true, bnd_some, hsame (by rw [g1]; simp), sameCol_self, cnd_true]
    | true =>
      obtain ⟨w1, w2⟩ := v1 g1
      obtain ⟨q, eq⟩ := (t_ColorAt p x y).2
      obtain ⟨n, en⟩ := (s_CountOf w2).2
      obtain ⟨t, et⟩ := t_Thin q n
      obtain ⟨f, ef⟩ := t_Fade t fade
      obtain ⟨r, er⟩ := t_Blend mode f s.pix[(y * s.w + x).toNat]
      have hk := (ink_eq (p := p) (m := m) (mode := mode) (fade := fade) (x := x) (y := y) (old := s.pix[(y * s.w + x).toNat]) g1).1
      unfold ink0 at hk
      rw [w1, bnd_some, eq, bnd_some, en, bnd_some, et, bnd_some, ef, bnd_some, er] at hk
      rw [eq, en]
      simp only [bnd_some]
      rw [et, bnd_some, ef, bnd_some, er, bnd_some]
      cases g2 : paintOk p with
      | true =>
        rw [hpix g1 g2]
        cases hv : ieq v 0 with
        | true =>
          rw [hv, cnd_true] at hk
          simp only [Option.some.injEq] at hk
          rw [cnd_true, ← hk, sameCol_self, cnd_true]
        | false =>
          rw [hv, cnd_false] at hk
          simp only [Option.some.injEq] at hk
          rw [cnd_false, ← hk, sameCol_self, cnd_true]
      | false =>
        rw [hsame (by rw [g2]; simp)]
        have eq0 : q = ⟨0, 0, 0, 0⟩ := by
          unfold spec_ColorAt at eq
          rw [m_spec_PaintOk, bnd_some, g2, cnd_false] at eq
          cases eq; rfl
        rw [eq0, thin_zero] at et
        simp only [Option.some.injEq] at et
        have hz := lay1_eq mode fade ⟨0, 0, 0, 0⟩ s.pix[(y * s.w + x).toNat]
        rw [et, ef, bnd_some, er] at hz
        have hz2 := lay_zero_on (m := mode) (n := fade) hmode hfade (sc _ (List.getElem_mem hlt))
        rw [et] at hz2
        rw [hz2] at hz
        simp only [Option.some.injEq] at hz
        rw [hz, sameCol_self]
        cases ieq v 0 <;> rfl
  have row : ∀ y, 0 ≤ y → y < s.h → laws_FnPaintsOn_l1 s p q0 q1 m s.w s.h (paintMask s m p mode fade).pix y = some (.inl (y + 1)) := by
    intro y y0 y1
    have key := loopI_n (f := laws_FnPaintsOn_l0 s p q0 q1 m s.w s.h (paintMask s m p mode fade).pix y) (fun i : Nat => (i : Int)) s.w.toNat (r := .inl ()) (fun i hi => by rw [pixel _ _ (by omega) (by omega) y0 y1]; rfl) (by rw [laws_FnPaintsOn_l0, ilt (by omega), cnd_true])
    have key' : loopI (laws_FnPaintsOn_l0 s p q0 q1 m s.w s.h (paintMask s m p mode fade).pix y) 0 = some (.inl ()) := key
    rw [laws_FnPaintsOn_l1, ilf (by omega), cnd_false, key', bnd_some, wr_in (by omega)]
  have key := loopI_n (f := laws_FnPaintsOn_l1 s p q0 q1 m s.w s.h (paintMask s m p mode fade).pix) (fun i : Nat => (i : Int)) s.h.toNat (r := .inl ()) (fun i hi => by rw [row _ (by omega) (by omega)]; rfl) (by rw [laws_FnPaintsOn_l1, ilt (by omega), cnd_true])
  have key' : loopI (laws_FnPaintsOn_l1 s p q0 q1 m s.w s.h (paintMask s m p mode fade).pix) 0 = some (.inl ()) := key
  rw [key', bnd_some]
  dsimp only
  rw [same_i (by omega), bnd_some, cnd_true, pixelAt_out hs (x := -1) (y := 0) (by rw [← Bool.not_eq_true, tin_t]; omega), bnd_some, pixelAt_out hs (x := s.w) (y := 0) (by rw [← Bool.not_eq_true, tin_t]; omega), bnd_some]
  rfl

/-! ## Scenes: the program's word is the reference's -/
/-! ## EngineOk -/
/-! ## EngineNew -/
end Go.Proofs.Ytoafihhhdnmliaa.Am
