import Derived.Test.YtafljhadfoaceaaAmCcMo
import Derived.Test.YtafljhadfoaceaaAmRo
import Derived.Test.YtafljhadfoaceaaAmLw
set_option linter.unusedVariables false
set_option linter.unusedSimpArgs false
set_option linter.unusedSectionVars false
namespace Go.Proofs.Ytafljhadfoaceaa.Am
open Go Go.Proofs
end Go.Proofs.Ytafljhadfoaceaa.Am
namespace Go.Proofs.Ytafljhadfoaceaa.Am
open Go Go.Proofs
set_option linter.unusedVariables false
set_option linter.unusedSimpArgs false
end Go.Proofs.Ytafljhadfoaceaa.Am
namespace Go.Proofs.Ytafljhadfoaceaa.Am
open Go Go.Proofs
set_option linter.unusedSimpArgs false
set_option linter.unusedVariables false
set_option maxRecDepth 100000
/-! ## Small words -/
def tin (x a b : Int) : Bool := ile a x && ile x b
theorem tin_t {x a b : Int} : tin x a b = true ↔ a ≤ x ∧ x ≤ b := by simp [tin, ile_t]
@[simp] theorem m_spec_l01In (x a b : Int) : spec_l01In x a b = some (tin x a b) := by
  unfold spec_l01In tin; cases ile a x <;> simp
@[simp] theorem m_impl_inRange (x a b : Int) : impl_inRange x a b = some (tin x a b) := by
  unfold impl_inRange tin; cases ile a x <;> simp
def tileCount (w h : Int) : Int := if tin w 1 12 && tin h 1 12 then ((w + 3) / 4) * ((h + 3) / 4) else 0
theorem four {w : Int} (h : tin w 1 12 = true) : (w + 3) / 4 = 1 ∨ (w + 3) / 4 = 2 ∨ (w + 3) / 4 = 3 := by rw [tin_t] at h; omega
theorem wr9 {w h : Int} (hw : tin w 1 12 = true) (hh : tin h 1 12 = true) : IntKind.i64.wrap ((w + 3) / 4 * ((h + 3) / 4)) = (w + 3) / 4 * ((h + 3) / 4) := by
  refine wr_in ?_
  rcases four hw with e | e | e <;> rcases four hh with f | f | f <;> rw [e, f] <;> decide
theorem up4 {w : Int} (h : tin w 1 12 = true) : IntKind.i64.wrap ((IntKind.i64.wrap (w + 3)).tdiv 4) = (w + 3) / 4 := by
  rw [tin_t] at h
  rw [wr_in (n := w + 3) (by omega), Int.tdiv_eq_ediv_of_nonneg (by omega), wr_in (by omega)]
def TBox.empty (b : TBox) : Bool := ile b.x1 b.x0 || ile b.y1 b.y0
def TBox.zero : TBox := ⟨0, 0, 0, 0⟩
def meet (a b : TBox) : TBox :=
  let c : TBox := ⟨max a.x0 b.x0, max a.y0 b.y0, min a.x1 b.x1, min a.y1 b.y1⟩
  if c.empty then .zero else c
@[simp] theorem m_impl_Empty (b : TBox) : impl_Empty b = some b.empty := by
  unfold impl_Empty TBox.empty; cases ile b.x1 b.x0 <;> simp
@[simp] theorem m_spec_Empty (b : TBox) : spec_Empty b = some b.empty := by
  unfold spec_Empty TBox.empty; cases ile b.x1 b.x0 <;> simp
def inBox (b : TBox) (p : TPoint) : Bool := decide (b.x0 ≤ p.x ∧ p.x < b.x1 ∧ b.y0 ≤ p.y ∧ p.y < b.y1)
def tileBox (w h i : Int) : TBox :=
  if tin i 0 (tileCount w h - 1) then
    let x := i % ((w + 3) / 4) * 4
    let y := i / ((w + 3) / 4) * 4
    meet ⟨x, y, x + 4, y + 4⟩ ⟨0, 0, w, h⟩
  else .zero
theorem tc_bd (w h : Int) : 0 ≤ tileCount w h ∧ tileCount w h ≤ 9 := by
  unfold tileCount
  cases hw : tin w 1 12 <;> cases hh : tin h 1 12 <;> simp
  rcases four hw with e | e | e <;> rcases four hh with f | f | f <;> rw [e, f] <;> decide
@[simp] theorem tc_wrap (w h : Int) : IntKind.i64.wrap (tileCount w h - 1) = tileCount w h - 1 := by
  have := tc_bd w h
  exact wr_in (by omega)
theorem tb_facts {w h i : Int} (hi : tin i 0 (tileCount w h - 1) = true) : tin w 1 12 = true ∧ 0 ≤ i ∧ i ≤ 8 := by
  have := tc_bd w h
  rw [tin_t] at hi
  refine ⟨?_, by omega, by omega⟩
  cases hw : tin w 1 12 with
  | true => rfl
  | false =>
    have : tileCount w h = 0 := by simp [tileCount, hw]
    omega
theorem tb_x {r i : Int} (hr : r = 1 ∨ r = 2 ∨ r = 3) (h0 : 0 ≤ i) (h1 : i ≤ 8) : IntKind.i64.wrap (i.tmod r * 4) = i % r * 4 ∧ IntKind.i64.wrap (i % r * 4 + 4) = i % r * 4 + 4 ∧
    IntKind.i64.wrap (IntKind.i64.wrap (i.tdiv r) * 4) = i / r * 4 ∧ IntKind.i64.wrap (i / r * 4 + 4) = i / r * 4 + 4 := by
  rw [Int.tmod_eq_emod_of_nonneg h0, Int.tdiv_eq_ediv_of_nonneg h0]
  rcases hr with rfl | rfl | rfl
  · rw [wr_in (n := i / 1) (by omega)]; exact ⟨wr_in (by omega), wr_in (by omega), wr_in (by omega), wr_in (by omega)⟩
  · rw [wr_in (n := i / 2) (by omega)]; exact ⟨wr_in (by omega), wr_in (by omega), wr_in (by omega), wr_in (by omega)⟩
  · rw [wr_in (n := i / 3) (by omega)]; exact ⟨wr_in (by omega), wr_in (by omega), wr_in (by omega), wr_in (by omega)⟩
theorem four' {w : Int} (h : tin w 1 12 = true) : ¬ (w + 3) / 4 = 0 := by rcases four h with e | e | e <;> omega
/-! ## Draws -/
structure CurOk (c : TL01Cur) : Prop where
  lo : 0 ≤ c.i
  hi : c.i ≤ c.b.length
  big : c.b.length ≤ 1048576
theorem idx_of {α : Type} {l : List α} {i : Int} (h0 : 0 ≤ i) (h1 : i < l.length) : ∃ x, idx l i = some x ∧ x ∈ l := by
  have : i.toNat < l.length := by omega
  refine ⟨l[i.toNat], ?_, List.getElem_mem this⟩
  unfold idx; rw [if_pos h0]; exact List.getElem?_eq_getElem this
theorem and255 (x : Int) : 0 ≤ andI .i64 x 255 ∧ andI .i64 x 255 ≤ 255 := by
  have h : (BitVec.ofInt 64 x &&& BitVec.ofInt 64 255).toNat ≤ 255 := by
    rw [BitVec.toNat_and]
    exact Nat.le_trans Nat.and_le_right (by decide)
  have h2 : (((BitVec.ofInt 64 x &&& BitVec.ofInt 64 255).toNat : Nat) : Int) ≤ 255 := by exact_mod_cast h
  have e : andI .i64 x 255 = IntKind.i64.wrap (((BitVec.ofInt 64 x &&& BitVec.ofInt 64 255).toNat : Nat) : Int) := rfl
  rw [e, wr_in ⟨by omega, by omega⟩]
  exact ⟨by omega, h2⟩
theorem new_ok (a : List Int) (h : a.length ≤ 1048576) : ∃ c, spec_l01New a = some c ∧ CurOk c := by
  obtain ⟨s, h1, _⟩ := loopI_inv (f := spec_l01New_l0 a) (fun i (s : Int) => (s, (i : Int))) (min a.length 4000) (fun _ _ => True) (fun s => s) (s0 := IntKind.i64.wrap (28001 + (a.length : Int))) trivial
    (fun i s hi _ => by
      have e1 : ile (a.length : Int) (i : Int) = false := by rw [ile_f]; omega
      have e2 : ile 4000 (i : Int) = false := by rw [ile_f]; omega
      obtain ⟨x, hx, _⟩ := idx_of (l := a) (i := (i : Int)) (by omega) (by omega)
      have e3 : spec_l01New_l0 a (s, (i : Int)) = some (.inl (andI .i64 (IntKind.i64.wrap (IntKind.i64.wrap (IntKind.i64.wrap (s * 131) + IntKind.i64.wrap x) + 7)) 1073741823, ((i + 1 : Nat) : Int))) := by
        simp only [spec_l01New_l0, e1, e2, cnd_false, hx, bnd_some]
        rw [wr_in (n := (i : Int) + 1) (by omega)]
        rfl
      exact ⟨_, e3, trivial⟩)
    (fun s _ => by
      rcases Nat.le_total a.length 4000 with hl | hl
      · rw [Nat.min_eq_left hl]
        simp [spec_l01New_l0]
      · rw [Nat.min_eq_right hl]
        cases e1 : ile (a.length : Int) ((4000 : Nat) : Int)
        · have e2 : ile 4000 ((4000 : Nat) : Int) = true := by decide
          simp only [spec_l01New_l0, e1, e2, cnd_true, cnd_false]
        · simp only [spec_l01New_l0, e1, cnd_true])
  refine ⟨⟨a, 0, s⟩, ?_, by simp, by simp, h⟩
  unfold spec_l01New
  have : loopI (spec_l01New_l0 a) (IntKind.i64.wrap (28001 + (a.length : Int)), 0) = some s := h1
  rw [this]; rfl
theorem byte_ok {c : TL01Cur} (h : CurOk c) : ∃ r c', spec_l01Byte c = some (r, c') ∧ 0 ≤ r ∧ r ≤ 255 ∧ CurOk c' := by
  unfold spec_l01Byte
  cases e : ile (c.b.length : Int) c.i
  · rw [ile_f] at e
    obtain ⟨x, hx, _⟩ := idx_of (l := c.b) (i := c.i) h.lo e
    simp only [cnd_false, hx, bnd_some]
    have := h.big
    have := h.lo
    rw [wr_in (n := c.i + 1) (by omega)]
    exact ⟨_, _, rfl, (and255 _).1, (and255 _).2, by simp; omega, by simp; omega, h.big⟩
  · simp only [cnd_true]
    exact ⟨_, _, rfl, (and255 _).1, (and255 _).2, h.lo, h.hi, h.big⟩
theorem below_ok {c : TL01Cur} (h : CurOk c) {n : Int} (h0 : 0 < n) : ∃ r c', spec_l01Below n c = some (r, c') ∧ 0 ≤ r ∧ r < n ∧ CurOk c' := by
  unfold spec_l01Below
  have e0 : ile n 0 = false := by rw [ile_f]; exact h0
  have hn : ¬ n = 0 := by omega
  simp only [e0, cnd_false]
  obtain ⟨r1, c1, q1, a1, b1, k1⟩ := byte_ok h
  cases e1 : ile n 256
  · obtain ⟨r2, c2, q2, a2, b2, k2⟩ := byte_ok k1
    obtain ⟨r3, c3, q3, a3, b3, k3⟩ := byte_ok k2
    obtain ⟨r4, c4, q4, a4, b4, k4⟩ := byte_ok k3
    simp only [cnd_false, q1, q2, q3, q4, bnd_some, chkP_pos hn]
    rw [wr_in (n := r1 * 16777216) (by omega), wr_in (n := r2 * 65536) (by omega), wr_in (n := r3 * 256) (by omega)]
    rw [wr_in (n := r1 * 16777216 + r2 * 65536) (by omega)]
    rw [wr_in (n := r1 * 16777216 + r2 * 65536 + r3 * 256) (by omega)]
    rw [wr_in (by omega)]
    exact ⟨_, _, rfl, Int.tmod_nonneg _ (by omega), Int.tmod_lt_of_pos _ h0, k4⟩
  · simp only [cnd_true, q1, bnd_some, chkP_pos hn]
    exact ⟨_, _, rfl, Int.tmod_nonneg _ a1, Int.tmod_lt_of_pos _ h0, k1⟩
theorem places_ok {a : List Int} (h : a.length ≤ 1048576) : ∃ l, spec_DrawPlaces a = some l ∧ l.length = 12 ∧ ∀ x ∈ l, 0 ≤ x ∧ x < 10000 := by
  obtain ⟨c, h1, k⟩ := new_ok a h
  obtain ⟨r, c1, h2, _, _, k1⟩ := byte_ok k
  obtain ⟨s, h3, h4⟩ := loopI_inv (f := spec_DrawPlaces_l0) (fun i (s : TL01Cur × List Int) => ((i : Int), s.1.b, s.1.i, s.1.h, s.2)) 12
    (fun i s => CurOk s.1 ∧ s.2.length = i ∧ ∀ x ∈ s.2, 0 ≤ x ∧ x < 10000) (fun s => s.2) (s0 := (c1, [])) ⟨k1, rfl, by simp⟩
    (fun i s hi hI => by
      obtain ⟨⟨b, j, hh⟩, l⟩ := s
      obtain ⟨g1, g2, g3⟩ := hI
      obtain ⟨r, c', q1, q2, q3, q4⟩ := below_ok g1 (n := 10000) (by decide)
      have e1 : ile 12 (i : Int) = false := by rw [ile_f]; omega
      simp only at g2 q1
      have e2 : (l.length + 1) * 8 ≤ 17592186044416 := by omega
      refine ⟨(c', l ++ [r]), ?_, q4, by simp [g2], ?_⟩
      · simp only [spec_DrawPlaces_l0, e1, cnd_false, q1, bnd_some, chkP_pos e2, nam]
        rw [wr_in (n := (i : Int) + 1) (by omega)]
        rfl
      · intro x hx
        simp only [List.mem_append, List.mem_singleton] at hx
        rcases hx with hx | rfl
        · exact g3 x hx
        · exact ⟨q2, q3⟩)
    (fun s hI => by
      have e1 : ile 12 ((12 : Nat) : Int) = true := by decide
      simp only [spec_DrawPlaces_l0, e1, cnd_true])
  refine ⟨s.2, ?_, h4.2.1, h4.2.2⟩
  unfold spec_DrawPlaces
  have : loopI spec_DrawPlaces_l0 (0, c1.b, c1.i, c1.h, []) = some s.2 := h3
  simp only [h1, h2, bnd_some, this]
/-! ## Each square is in one tile -/
section
variable {a0 : List Int} {v3 v4 w h : Int}
end

/-! ## Loops that ask the same of all -/
theorem loopI_all {f : Int → Option (Int ⊕ (Unit ⊕ Unit))} (n : Nat) (p : Nat → Bool) (hn : n ≤ 9223372036854775807)
    (hs : ∀ i : Nat, i < n → f (i : Int) = cnd (p i) (some (.inl (IntKind.i64.wrap ((i : Int) + 1)))) (some (.inr (.inr ())))) (he : f (n : Int) = some (.inr (.inl ()))) :
    loopI f 0 = some (if (List.range n).all p then .inl () else .inr ()) := by
  have h := loopI_find (f := f) (fun i : Nat => (i : Int)) n (fun i => !(p i)) (fun _ => .inr ()) (r := .inl ()) (fun i hi => by
    rw [hs i hi, wr_in (by omega)]
    cases p i <;> simp) he
  have e : loopI f 0 = loopI f ((0 : Nat) : Int) := rfl
  rw [e, h]
  congr 1
  cases hq : (List.range n).find? (fun i => !(p i)) with
  | none =>
    rw [List.find?_eq_none] at hq
    have : (List.range n).all p = true := List.all_eq_true.2 fun x hx => by simpa using hq x hx
    rw [this]; rfl
  | some i =>
    have h1 := List.find?_some hq
    have h2 := List.mem_of_find?_eq_some hq
    have : (List.range n).all p = false := by
      rw [List.all_eq_false]; exact ⟨i, h2, by simpa using h1⟩
    rw [this]; rfl
theorem range_all {α : Type} {l : List α} {q : α → Bool} {p : Nat → Bool} (h : ∀ i (hi : i < l.length), p i = q l[i]) : (List.range l.length).all p = l.all q := by
  rw [Bool.eq_iff_iff, List.all_eq_true, List.all_eq_true]
  constructor
  · intro k x hx
    obtain ⟨i, hi, rfl⟩ := List.getElem_of_mem hx
    rw [← h i hi]; exact k i (List.mem_range.2 hi)
  · intro k i hi
    have hi := List.mem_range.1 hi
    rw [h i hi]; exact k _ (List.getElem_mem hi)
/-- Of a row, each element asked the same. -/
theorem loopI_row {α : Type} {l : List α} {f : Int → Option (Int ⊕ (Unit ⊕ Unit))} (q : α → Bool) (hn : l.length ≤ 9223372036854775807)
    (hs : ∀ (i : Nat) (h : i < l.length), f (i : Int) = cnd (q l[i]) (some (.inl (IntKind.i64.wrap ((i : Int) + 1)))) (some (.inr (.inr ())))) (he : f (l.length : Int) = some (.inr (.inl ()))) :
    loopI f 0 = some (if l.all q then .inl () else .inr ()) := by
  have h := loopI_all (f := f) l.length (fun i => if h : i < l.length then q l[i] else false) hn (fun i hi => by rw [hs i hi]; simp [hi]) he
  rw [h, range_all (q := q) (fun i hi => by simp [hi])]

/-! ## Masks -/
def TBox.isZero (b : TBox) : Bool := decide (b.x0 = 0) && (decide (b.y0 = 0) && (decide (b.x1 = 0) && (decide (b.y1 = 0))))
def maskBox (b : TBox) : Bool := !b.empty && tin b.x0 (-2000) 2000 && tin b.y0 (-2000) 2000 && tin b.x1 (-2000) 2000 && tin b.y1 (-2000) 2000 && ile (b.x1 - b.x0) 60 && ile (b.y1 - b.y0) 60
def maskOk (m : TMask) : Bool := if m.bits.length = 0 then m.box.isZero else maskBox m.box && decide ((m.bits.length : Int) = (m.box.x1 - m.box.x0) * (m.box.y1 - m.box.y0)) && m.bits.all fun x => tin x 0 15
theorem empty_f {b : TBox} : b.empty = false ↔ b.x0 < b.x1 ∧ b.y0 < b.y1 := by simp [TBox.empty, ile_f]
theorem mb_facts {b : TBox} (h : maskBox b = true) : b.x0 < b.x1 ∧ b.y0 < b.y1 ∧ -2000 ≤ b.x0 ∧ b.x1 ≤ 2000 ∧ -2000 ≤ b.y0 ∧ b.y1 ≤ 2000 ∧ b.x1 - b.x0 ≤ 60 ∧ b.y1 - b.y0 ≤ 60 := by
  simp only [maskBox, Bool.and_eq_true, Bool.not_eq_true', empty_f, tin_t, ile_t] at h
  omega
theorem m_spec_l11Box (b : TBox) : spec_l11Box b = some (maskBox b) := by
  unfold spec_l11Box maskBox
  simp only [m_spec_Empty, m_spec_l01In, bnd_some]
  cases h0 : b.empty <;> simp only [cnd_true, cnd_false, Bool.not_true, Bool.not_false, Bool.false_and, Bool.true_and]
  cases h1 : tin b.x0 (-2000) 2000 <;> simp only [cnd_true, cnd_false, Bool.false_and, Bool.true_and]
  cases h2 : tin b.y0 (-2000) 2000 <;> simp only [cnd_true, cnd_false, Bool.false_and, Bool.true_and]
  cases h3 : tin b.x1 (-2000) 2000 <;> simp only [cnd_true, cnd_false, Bool.false_and, Bool.true_and]
  cases h4 : tin b.y1 (-2000) 2000 <;> simp only [cnd_true, cnd_false, Bool.false_and, Bool.true_and]
  rw [tin_t] at h1 h2 h3 h4
  rw [wr_in (by omega), wr_in (by omega)]
  cases h5 : ile (b.x1 - b.x0) 60 <;> simp
theorem m_impl_isMaskBox (b : TBox) : impl_isMaskBox b = some (maskBox b) := by
  unfold impl_isMaskBox maskBox
  simp only [m_impl_Empty, bnd_some]
  cases h0 : b.empty <;> simp only [cnd_true, cnd_false, Bool.not_true, Bool.not_false, Bool.false_and, Bool.true_and]
  rw [empty_f] at h0
  cases h1 : ile (-2000) b.x0 <;> simp only [cnd_true, cnd_false]
  · rw [ile_f] at h1
    have : tin b.x0 (-2000) 2000 = false := by rw [← Bool.not_eq_true, tin_t]; omega
    simp [this]
  cases h2 : ile (-2000) b.y0 <;> simp only [cnd_true, cnd_false]
  · rw [ile_f] at h2
    have : tin b.y0 (-2000) 2000 = false := by rw [← Bool.not_eq_true, tin_t]; omega
    simp [this]
  cases h3 : ile b.x1 2000 <;> simp only [cnd_true, cnd_false]
  · rw [ile_f] at h3
    have : tin b.x1 (-2000) 2000 = false := by rw [← Bool.not_eq_true, tin_t]; omega
    simp [this]
  cases h4 : ile b.y1 2000 <;> simp only [cnd_true, cnd_false]
  · rw [ile_f] at h4
    have : tin b.y1 (-2000) 2000 = false := by rw [← Bool.not_eq_true, tin_t]; omega
    simp [this]
  rw [ile_t] at h1 h2 h3 h4
  have t1 : tin b.x0 (-2000) 2000 = true := by rw [tin_t]; omega
  have t2 : tin b.y0 (-2000) 2000 = true := by rw [tin_t]; omega
  have t3 : tin b.x1 (-2000) 2000 = true := by rw [tin_t]; omega
  have t4 : tin b.y1 (-2000) 2000 = true := by rw [tin_t]; omega
  rw [wr_in (by omega), wr_in (by omega)]
  cases h5 : ile (b.x1 - b.x0) 60 <;> simp [t1, t2, t3, t4]
theorem mb_prod {b : TBox} (h : maskBox b = true) : 0 < (b.x1 - b.x0) * (b.y1 - b.y0) ∧ (b.x1 - b.x0) * (b.y1 - b.y0) ≤ 3600 := by
  obtain ⟨h1, h2, _, _, _, _, h3, h4⟩ := mb_facts h
  refine ⟨Int.mul_pos (by omega) (by omega), ?_⟩
  calc (b.x1 - b.x0) * (b.y1 - b.y0) ≤ 60 * (b.y1 - b.y0) := Int.mul_le_mul_of_nonneg_right h3 (by omega)
    _ ≤ 60 * 60 := Int.mul_le_mul_of_nonneg_left h4 (by omega)
theorem mb_wrap {b : TBox} (h : maskBox b = true) : IntKind.i64.wrap (IntKind.i64.wrap (b.x1 - b.x0) * IntKind.i64.wrap (b.y1 - b.y0)) = (b.x1 - b.x0) * (b.y1 - b.y0) := by
  have := mb_facts h
  have := mb_prod h
  rw [wr_in (n := b.x1 - b.x0) (by omega), wr_in (n := b.y1 - b.y0) (by omega), wr_in (by omega)]
theorem zero_box {b : TBox} (h : b.isZero = true) : maskBox b = false := by
  simp only [TBox.isZero, Bool.and_eq_true, decide_eq_true_eq] at h
  have : b.empty = true := by rw [← Bool.not_eq_false, empty_f]; omega
  simp [maskBox, this]
theorem m_spec_MaskOk {m : TMask} (h : m.bits.length ≤ 9223372036854775807) : spec_MaskOk m = some (maskOk m) := by
  unfold spec_MaskOk maskOk
  by_cases h0 : m.bits.length = 0
  · rw [if_pos h0, h0]
    simp [ieq, andB, TBox.isZero]
  · rw [if_neg h0, iqf (by omega), cnd_false, m_spec_l11Box, bnd_some]
    cases h1 : maskBox m.box with
    | false => simp
    | true =>
      rw [cnd_true, mb_wrap h1]
      by_cases h2 : (m.bits.length : Int) = (m.box.x1 - m.box.x0) * (m.box.y1 - m.box.y0)
      · rw [h2, iqt, cnd_true, loopI_row (l := m.bits) (fun x => tin x 0 15) h (fun i hi => ?_) ?_]
        · cases m.bits.all (fun x => tin x 0 15) <;> simp
        · rw [spec_MaskOk_l0, ilt (by omega), cnd_true]
        · rw [spec_MaskOk_l0, ilf (by omega), cnd_false, idx_nat hi, bnd_some, m_spec_l01In, bnd_some]
      · rw [iqf h2, cnd_false]; simp [h2]
theorem m_impl_MaskOk {m : TMask} (h : m.bits.length ≤ 9223372036854775807) : impl_MaskOk m = some (maskOk m) := by
  unfold impl_MaskOk maskOk
  have e : andB (decide (m.box.x0 = 0)) (andB (decide (m.box.y0 = 0)) (andB (decide (m.box.x1 = 0)) (andB (decide (m.box.y1 = 0)) true))) = m.box.isZero := by simp [andB, TBox.isZero]
  rw [e]
  cases hz : m.box.isZero with
  | true =>
    rw [cnd_true]
    by_cases h0 : m.bits.length = 0
    · simp [h0, ieq]
    · simp [h0, zero_box hz, ieq]
  | false =>
    rw [cnd_false, m_impl_isMaskBox, bnd_some]
    cases h1 : maskBox m.box with
    | false => rw [cnd_false]; simp
    | true =>
      have := mb_prod h1
      rw [cnd_true, mb_wrap h1]
      by_cases h2 : (m.bits.length : Int) = (m.box.x1 - m.box.x0) * (m.box.y1 - m.box.y0)
      · rw [if_neg (by omega), h2, iqt, cnd_true, loopI_row (l := m.bits) (fun x => tin x 0 15) h (fun i hi => ?_) ?_]
        · cases m.bits.all (fun x => tin x 0 15) <;> simp
        · rw [impl_MaskOk_l0, ilt (by omega), cnd_true]
        · rw [impl_MaskOk_l0, ilf (by omega), cnd_false, idx_nat hi, bnd_some, m_impl_inRange, bnd_some]
      · rw [iqf h2, cnd_false]
        by_cases h0 : m.bits.length = 0
        · simp [h0]
        · simp [h0, h2]


/-! ## The first of a row that is asked for -/
def fst {α : Type} (q : α → Bool) (l : List α) : Int := match l.findIdx? q with | some i => (i : Int) | none => -1
theorem loopI_index {α ρ : Type} {l : List α} {f : Int → Option (Int ⊕ ρ)} (q : α → Bool) (a : ρ) (b : Int → ρ) (hn : l.length ≤ 9223372036854775807)
    (hs : ∀ (i : Nat) (h : i < l.length), f (i : Int) = cnd (q l[i]) (some (.inr (b (i : Int)))) (some (.inl (IntKind.i64.wrap ((i : Int) + 1))))) (he : f (l.length : Int) = some (.inr a)) :
    loopI f 0 = some (match l.findIdx? q with | some i => b (i : Int) | none => a) := by
  have h := loopI_find (f := f) (fun i : Nat => (i : Int)) l.length (fun i => match l[i]? with | some x => q x | none => false) (fun i => b (i : Int)) (r := a) (fun i hi => by
    rw [hs i hi, wr_in (by omega), List.getElem?_eq_getElem hi]
    cases h : q l[i] <;> simp [h]) he
  have e : loopI f 0 = loopI f ((0 : Nat) : Int) := rfl
  rw [e, h]
  have : (List.range l.length).find? (fun i => match l[i]? with | some x => q x | none => false) = l.findIdx? q := by
    cases hq : l.findIdx? q with
    | none =>
      rw [List.findIdx?_eq_none_iff] at hq
      rw [List.find?_eq_none]
      intro i hi
      have hi := List.mem_range.1 hi
      rw [List.getElem?_eq_getElem hi]
      simp [hq _ (List.getElem_mem hi)]
    | some i =>
      rw [List.findIdx?_eq_some_iff_getElem] at hq
      obtain ⟨h1, h2, h3⟩ := hq
      rw [List.find?_range_eq_some]
      refine ⟨by rw [List.getElem?_eq_getElem h1]; exact h2, by simpa using h1, fun j hj => ?_⟩
      have := h3 j hj
      rw [List.getElem?_eq_getElem (by omega)]
      simpa using this
  rw [this]
  cases l.findIdx? q <;> rfl
theorem fst_eq {α : Type} {q : α → Bool} {l : List α} {i : Nat} (hi : i < l.length) (hq : q l[i] = true) : fst q l = (i : Int) ↔ ∀ k (hk : k < i), q l[k] = false := by
  unfold fst
  cases h : l.findIdx? q with
  | none =>
    rw [List.findIdx?_eq_none_iff] at h
    have := h _ (List.getElem_mem hi)
    rw [hq] at this; cases this
  | some j =>
    rw [List.findIdx?_eq_some_iff_getElem] at h
    obtain ⟨h1, h2, h3⟩ := h
    show (j : Int) = (i : Int) ↔ _
    constructor
    · intro e k hk
      have : j = i := by omega
      have := h3 k (by omega)
      simpa using this
    · intro e
      have : ¬ j < i := fun hj => by have := e j hj; rw [h2] at this; cases this
      have : ¬ i < j := fun hj => h3 i hj hq
      show (j : Int) = i
      omega

/-! ## Caches -/
def firstId (l : List TKept) (id : Int) : Int := fst (fun k => ieq k.id id) l
theorem m_keptAt {c : TCache} {id : Int} (h : c.list.length ≤ 9223372036854775807) : impl_Cache_keptAt c id = some (firstId c.list id) := by
  unfold impl_Cache_keptAt slices_IndexFunc_Kept_Cache_keptAt_1
  rw [loopI_index (l := c.list) (fun k => ieq k.id id) (.inl ()) .inr h (fun i hi => ?_) ?_]
  · unfold firstId fst
    cases List.findIdx? (fun k : TKept => ieq k.id id) c.list <;> rfl
  · rw [slices_IndexFunc_Kept_Cache_keptAt_1_l0, ilt (by omega), cnd_true]
  · rw [slices_IndexFunc_Kept_Cache_keptAt_1_l0, ilf (by omega), cnd_false, idx_nat hi, bnd_some, impl_Cache_keptAt_1, bnd_some]
def keptOk (k : TKept) : Bool := tin k.id 1 99 && maskOk k.mask
def keptP (l : List TKept) (i : Nat) : Bool := match l[i]? with
  | some x => keptOk x && decide (firstId l x.id = (i : Int))
  | none => false
def cacheOk (c : TCache) : Bool := tin c.most 1 8 && ile (c.list.length : Int) c.most && (List.range c.list.length).all (keptP c.list)
def okRows (l : List TKept) : Prop := l.length ≤ 9223372036854775807 ∧ ∀ x ∈ l, x.mask.bits.length ≤ 9223372036854775807
theorem m_impl_CacheOk {c : TCache} (h : okRows c.list) : impl_CacheOk c = some (cacheOk c) := by
  unfold impl_CacheOk cacheOk
  rw [loopI_all c.list.length (keptP c.list) h.1 (fun i hi => ?_) ?_]
  · cases (List.range c.list.length).all (keptP c.list) <;> simp
    cases h1 : tin c.most 1 8 <;> simp
  · rw [impl_CacheOk_l0, ilt (by omega), cnd_true]
  · rw [impl_CacheOk_l0, ilf (by omega), cnd_false, idx_nat hi, bnd_some, m_impl_inRange, bnd_some]
    unfold keptP keptOk
    rw [List.getElem?_eq_getElem hi]
    dsimp only
    cases h1 : tin (c.list[i]).id 1 99 <;> simp only [cnd_true, cnd_false, Bool.false_and, Bool.true_and]
    rw [m_keptAt h.1, bnd_some]
    by_cases h2 : firstId c.list (c.list[i]).id = (i : Int)
    · rw [h2, iqt, cnd_true, m_impl_MaskOk (h.2 _ (List.getElem_mem hi)), bnd_some]; simp
    · rw [iqf h2, cnd_false]; simp [h2]
theorem kept_l0 {c : TCache} {i : Nat} (hi : i < c.list.length) (hn : c.list.length ≤ 9223372036854775807) :
    loopI (spec_CacheOk_l0 c (i : Int)) 0 = some (if decide (firstId c.list (c.list[i]).id = (i : Int)) then .inl () else .inr ()) := by
  have key := loopI_all (f := spec_CacheOk_l0 c (i : Int)) i (fun k => match c.list[k]? with | some y => !(ieq y.id (c.list[i]).id) | none => true) (by omega) (fun k hk => by
      rw [spec_CacheOk_l0, ilf (by omega), cnd_false, idx_nat (by omega), bnd_some, idx_nat hi, bnd_some, List.getElem?_eq_getElem (by omega)]
      dsimp only
      cases ieq (c.list[k]).id (c.list[i]).id <;> rfl) (by rw [spec_CacheOk_l0, ilt (by omega), cnd_true])
  have e : ((List.range i).all fun k => match c.list[k]? with | some y => !(ieq y.id (c.list[i]).id) | none => true) = decide (firstId c.list (c.list[i]).id = (i : Int)) := ?_
  · rw [key, e]
  rw [Bool.eq_iff_iff, List.all_eq_true, decide_eq_true_eq]
  unfold firstId
  rw [fst_eq hi (by simp [ieq])]
  constructor
  · intro h k hk
    have := h k (List.mem_range.2 hk)
    rw [List.getElem?_eq_getElem (by omega)] at this
    simpa using this
  · intro h k hk
    have hk := List.mem_range.1 hk
    rw [List.getElem?_eq_getElem (by omega)]
    simpa using h k hk
theorem m_spec_CacheOk {c : TCache} (h : okRows c.list) : spec_CacheOk c = some (cacheOk c) := by
  unfold spec_CacheOk cacheOk
  rw [m_spec_l01In, bnd_some]
  cases h1 : tin c.most 1 8 <;> simp only [cnd_true, cnd_false, Bool.false_and, Bool.true_and]
  cases h2 : ile (c.list.length : Int) c.most <;> simp only [cnd_true, cnd_false, Bool.false_and, Bool.true_and]
  rw [loopI_all c.list.length (keptP c.list) h.1 (fun i hi => ?_) ?_]
  · cases (List.range c.list.length).all (keptP c.list) <;> simp
  · rw [spec_CacheOk_l1, ilt (by omega), cnd_true]
  · rw [spec_CacheOk_l1, ilf (by omega), cnd_false, idx_nat hi, bnd_some, m_spec_l01In, bnd_some]
    unfold keptP keptOk
    rw [List.getElem?_eq_getElem hi]
    dsimp only
    cases h1 : tin (c.list[i]).id 1 99 <;> simp only [cnd_true, cnd_false, Bool.false_and, Bool.true_and]
    rw [m_spec_MaskOk (h.2 _ (List.getElem_mem hi)), bnd_some]
    cases h3 : maskOk (c.list[i]).mask <;> simp only [cnd_true, cnd_false, Bool.false_and, Bool.true_and]
    rw [kept_l0 hi h.1]
    cases decide (firstId c.list (c.list[i]).id = (i : Int)) <;> rfl
/-! ## Surfaces -/
/-! ## Loops from a number to another one -/
/-! ## Sparing -/
/-! ## Marks -/
/-! ## TilesOf -/
/-! ## Painting a part of a surface -/
section
variable {α : Type}
end

/-! ## Colours: the program's words are the reference's -/
theorem t_Clamp (a b c : Int) : ∃ r, spec_Clamp a b c = some r := by
  unfold spec_Clamp; cases ile b a <;> cases ile a c <;> exact ⟨_, rfl⟩
theorem t_FloorDiv (a b : Int) : ∃ r, spec_FloorDiv a b = some r := by
  unfold spec_FloorDiv
  cases h : ile 1 b
  · exact ⟨_, rfl⟩
  · rw [ile_t] at h
    rw [cnd_true, chkP_pos (by omega)]
    cases ile 0 (a.tmod b) <;> exact ⟨_, rfl⟩
theorem t_RoundDiv (a b : Int) : ∃ r, spec_RoundDiv a b = some r := by
  unfold spec_RoundDiv
  cases ile 1 b
  · exact ⟨_, rfl⟩
  · obtain ⟨v, e⟩ := t_FloorDiv a b
    rw [cnd_true, e, bnd_some]
    cases ile (IntKind.i64.wrap (b - IntKind.i64.wrap (a - IntKind.i64.wrap (v * b)))) (IntKind.i64.wrap (a - IntKind.i64.wrap (v * b))) <;> exact ⟨_, rfl⟩
/-! ## LayOver -/
/-! ## Paints -/
instance decPt : DecidableEq TPoint := fun a b => decidable_of_iff (a.x = b.x ∧ a.y = b.y) (by cases a; cases b; simp)
theorem t_PointOk (p : TPoint) : spec_PointOk p = some (tin p.x (-8388608) 8388608 && tin p.y (-8388608) 8388608) := by
  unfold spec_PointOk
  rw [m_spec_l01In, bnd_some, m_spec_l01In]
  cases tin p.x (-8388608) 8388608 <;> simp
/-! ## PaintMask -/
/-! ## What blending yields -/
/-! ## Draws: each is told -/
theorem loopI_tot {σ ρ : Type} {f : σ → Option (σ ⊕ ρ)} (I : σ → Prop) (Q : ρ → Prop) (rk : σ → Nat) (hs : ∀ x, I x → (∃ y, f x = some (.inl y) ∧ I y ∧ rk y < rk x) ∨ (∃ r, f x = some (.inr r) ∧ Q r)) {x : σ} (hx : I x) : ∃ r, loopI f x = some r ∧ Q r := by
  have key : ∀ (n : Nat) (x : σ), rk x < n → I x → ∃ r, loopI f x = some r ∧ Q r := by
    intro n
    induction n with
    | zero => intro x h; omega
    | succ n ih =>
      intro x h hI
      rcases hs x hI with ⟨y, h1, h2, h3⟩ | ⟨r, h1, h2⟩
      · rw [loopI_go h1]; exact ih y (by omega) h2
      · exact ⟨r, loopI_end h1, h2⟩
  exact key (rk x + 1) x (by omega) hx
theorem pick_ok {c : TL01Cur} (h : CurOk c) {l : List Int} (h0 : 0 < l.length) : ∃ x c', spec_l01PickInt c l = some (x, c') ∧ x ∈ l ∧ CurOk c' := by
  obtain ⟨r, c', e, r0, r1, k⟩ := below_ok h (n := (l.length : Int)) (by omega)
  obtain ⟨x, hx, hm⟩ := idx_of (l := l) (i := r) r0 r1
  unfold spec_l01PickInt
  rw [e, bnd_some]
  try dsimp only
  rw [hx, bnd_some]
  exact ⟨x, c', rfl, hm, k⟩
theorem once_ok {c : TL01Cur} (h : CurOk c) {n : Int} (h0 : 0 < n) : ∃ b c', spec_l01Once n c = some (b, c') ∧ CurOk c' := by
  obtain ⟨r, c', e, r0, r1, k⟩ := below_ok h h0
  unfold spec_l01Once
  rw [e, bnd_some]
  exact ⟨_, c', rfl, k⟩
theorem point_ok {c : TL01Cur} (h : CurOk c) : ∃ p c', spec_l04Point c = some (p, c') ∧ CurOk c' := by
  obtain ⟨r, c1, e1, _, _, k1⟩ := below_ok h (n := 3600) (by omega)
  obtain ⟨s, c2, e2, _, _, k2⟩ := below_ok k1 (n := 3600) (by omega)
  unfold spec_l04Point
  rw [e1, bnd_some]
  try dsimp only
  rw [e2, bnd_some]
  exact ⟨_, c2, rfl, k2⟩
def need (v : Int) : Int := if v = 1 then 1 else if v = 2 then 1 else if v = 3 then 2 else if v = 4 then 3 else if v = 5 then 0 else -1
theorem m_NeedOf (v : Int) : spec_NeedOf v = some (need v) := by
  unfold spec_NeedOf
  rw [m_spec_l01In, bnd_some]
  cases h : tin v 1 5 with
  | false =>
    have h' : ¬ (1 ≤ v ∧ v ≤ 5) := by rw [← tin_t, h]; simp
    rw [cnd_false]; unfold need
    rw [if_neg (by omega), if_neg (by omega), if_neg (by omega), if_neg (by omega), if_neg (by omega)]
  | true =>
    rw [tin_t] at h
    have : v = 1 ∨ v = 2 ∨ v = 3 ∨ v = 4 ∨ v = 5 := by omega
    rcases this with rfl | rfl | rfl | rfl | rfl <;> decide
theorem need_bd (v : Int) : -1 ≤ need v ∧ need v ≤ 3 := by unfold need; repeat' split <;> omega
theorem need_in {v : Int} (h : 0 ≤ need v) : 1 ≤ v ∧ v ≤ 5 := by
  unfold need at h
  by_cases h1 : v = 1
  · omega
  by_cases h2 : v = 2
  · omega
  by_cases h3 : v = 3
  · omega
  by_cases h4 : v = 4
  · omega
  by_cases h5 : v = 5
  · omega
  rw [if_neg h1, if_neg h2, if_neg h3, if_neg h4, if_neg h5] at h; omega
/-- Points drawn, as many as a verb needs. -/
theorem pts_ok {f : Int × List Int × Int × Int × List TPoint → Option ((Int × List Int × Int × Int × List TPoint) ⊕ (List Int × Int × Int × List TPoint))} {n : Int} (hn : n ≤ 3)
    (hf : ∀ (k : Int) (b : List Int) (i h : Int) (ps : List TPoint), f (k, b, i, h, ps) = bnd (some n) fun v => cnd (ile v k) (some (.inr (b, i, h, ps))) (bnd (spec_l04Point ⟨b, i, h⟩) fun (w, c) => chkP ((List.length ps + 1) * 16 ≤ 17592186044416) (nam ((ps ++ [w]) : List TPoint) fun l => some (.inl (IntKind.i64.wrap (k + 1), c.b, c.i, c.h, l)))))
    {c : TL01Cur} (hc : CurOk c) {ps : List TPoint} (hl : ps.length ≤ 100) : ∃ b i h ps', loopI f (0, c.b, c.i, c.h, ps) = some (b, i, h, ps') ∧ CurOk ⟨b, i, h⟩ ∧ (ps'.length : Int) = (ps.length : Int) + max n 0 := by
  obtain ⟨r, h1, h2⟩ := loopI_tot (f := f) (fun s => 0 ≤ s.1 ∧ s.1 ≤ max n 0 ∧ CurOk ⟨s.2.1, s.2.2.1, s.2.2.2.1⟩ ∧ (s.2.2.2.2.length : Int) = (ps.length : Int) + s.1) (fun r => CurOk ⟨r.1, r.2.1, r.2.2.1⟩ ∧ (r.2.2.2.length : Int) = (ps.length : Int) + max n 0) (fun s => (max n 0 - s.1).toNat)
    (by
      rintro ⟨k, b, i, h, qs⟩ ⟨k0, k1, k2, k3⟩
      dsimp only at k0 k1 k2 k3
      rw [hf, bnd_some]
      by_cases hk : n ≤ k
      · right
        rw [ilt hk, cnd_true]
        exact ⟨_, rfl, k2, by (try dsimp only) <;> omega⟩
      · left
        obtain ⟨p, c', e, kc⟩ := point_ok k2
        rw [ilf (by omega), cnd_false, e, bnd_some]
        try dsimp only
        rw [chkP_pos (by omega), nam_eq, wr_in (by omega)]
        exact ⟨_, rfl, ⟨by (try dsimp only) <;> omega, by (try dsimp only) <;> omega, kc, by simp <;> omega⟩, by (try dsimp only) <;> omega⟩)
    (x := (0, c.b, c.i, c.h, ps)) ⟨by omega, by (try dsimp only) <;> omega, hc, by (try dsimp only) <;> omega⟩
  obtain ⟨b, i, h, ps'⟩ := r
  exact ⟨b, i, h, ps', h1, h2.1, h2.2⟩
theorem rect_ok (b : TBox) : ∃ p, spec_RectPath b = some p ∧ p.verbs.length ≤ 5 ∧ p.points.length ≤ 4 := by
  unfold spec_RectPath
  rw [m_spec_Empty, bnd_some, t_PointOk, t_PointOk]
  simp only [bnd_some]
  cases b.empty
  · rw [cnd_false]
    generalize (tin ({ x := ({ x := b.x0, y := b.y0 } : TPoint).x, y := ({ x := b.x0, y := b.y0 } : TPoint).y } : TPoint).x (-8388608) 8388608 && tin ({ x := ({ x := b.x0, y := b.y0 } : TPoint).x, y := ({ x := b.x0, y := b.y0 } : TPoint).y } : TPoint).y (-8388608) 8388608) = u
    generalize (tin ({ x := ({ x := b.x1, y := b.y1 } : TPoint).x, y := ({ x := b.x1, y := b.y1 } : TPoint).y } : TPoint).x (-8388608) 8388608 && tin ({ x := ({ x := b.x1, y := b.y1 } : TPoint).x, y := ({ x := b.x1, y := b.y1 } : TPoint).y } : TPoint).y (-8388608) 8388608) = v
    cases u <;> cases v <;> exact ⟨_, rfl, by simp, by simp⟩
  · exact ⟨_, rfl, by simp, by simp⟩
theorem verbs_mem {v : Int} (h : v ∈ [2, 2, 2, 3, 4, 5, 1]) : 0 ≤ need v := by
  simp only [List.mem_cons, List.mem_nil_iff, or_false] at h
  rcases h with rfl | rfl | rfl | rfl | rfl | rfl | rfl <;> decide
theorem path_ok {c : TL01Cur} (h : CurOk c) : ∃ p c', spec_l06Path c = some (p, c') ∧ CurOk c' ∧ p.verbs.length ≤ 24 ∧ p.points.length ≤ 24 := by
  obtain ⟨b, c1, e1, k1⟩ := once_ok h (n := 2) (by omega)
  unfold spec_l06Path
  rw [e1, bnd_some]
  try dsimp only
  cases b with
  | true =>
    rw [cnd_true]
    obtain ⟨x, c2, e2, _, _, k2⟩ := below_ok k1 (n := 2400) (by omega)
    obtain ⟨y, c3, e3, _, _, k3⟩ := below_ok k2 (n := 2400) (by omega)
    obtain ⟨u, c4, e4, _, _, k4⟩ := below_ok k3 (n := 1500) (by omega)
    obtain ⟨v, c5, e5, _, _, k5⟩ := below_ok k4 (n := 1500) (by omega)
    rw [e2, bnd_some]
    try dsimp only
    rw [e3, bnd_some]
    try dsimp only
    rw [e4, bnd_some]
    try dsimp only
    rw [e5, bnd_some]
    try dsimp only
    obtain ⟨p, ep, p1, p2⟩ := rect_ok ⟨x, y, IntKind.i64.wrap (IntKind.i64.wrap (x + 1) + u), IntKind.i64.wrap (IntKind.i64.wrap (y + 1) + v)⟩
    rw [ep, bnd_some]
    exact ⟨p, c5, rfl, k5, by omega, by omega⟩
  | false =>
    rw [cnd_false]
    obtain ⟨r, h1, h2⟩ := loopI_tot (f := spec_l06Path_l3) (fun s => 0 ≤ s.1 ∧ s.1 ≤ 6 ∧ CurOk ⟨s.2.1, s.2.2.1, s.2.2.2.1⟩ ∧ (s.2.2.2.2.1.length : Int) = s.1 ∧ s.2.2.2.2.2.length ≤ 24)
      (fun r => match r with
        | .inl (b, i, h, vs, ps) => CurOk ⟨b, i, h⟩ ∧ vs.length ≤ 24 ∧ ps.length ≤ 24
        | .inr (b, i, h, vs, ps) => CurOk ⟨b, i, h⟩ ∧ vs.length ≤ 24 ∧ ps.length ≤ 24) (fun s => (6 - s.1).toNat)
      (by
        rintro ⟨x, b, i, h, vs, ps⟩ ⟨x0, x1, kc, hv, hp⟩
        dsimp only at x0 x1 kc hv hp
        obtain ⟨w, d, e2, w0, w1, kd⟩ := below_ok kc (n := 6) (by omega)
        rw [spec_l06Path_l3, e2, bnd_some]
        try dsimp only
        rw [wr_in (n := 1 + w) (by omega)]
        by_cases hx : 1 + w ≤ x
        · right
          rw [ilt hx, cnd_true]
          exact ⟨_, rfl, kd, by omega, hp⟩
        · obtain ⟨v, d2, e3, hm, kd2⟩ := pick_ok kd (l := [2, 2, 2, 3, 4, 5, 1]) (by simp)
          rw [ilf (by omega), cnd_false, e3, bnd_some]
          try dsimp only
          by_cases hz : x = 0
          · rw [hz, iqt, cnd_true, m_NeedOf, bnd_some]
            have n1 : need 1 = 1 := by decide
            rw [n1, wr_in (n := (ps.length : Int) + 1) (by omega)]
            by_cases hq : (ps.length : Int) + 1 ≤ 24
            · left
              rw [ilt hq, cnd_true, chkP_pos (by omega), nam_eq]
              obtain ⟨b', i', h', ps', e4, k4, l4⟩ := pts_ok (f := spec_l06Path_l0 (vs ++ [1]) 0) (n := 1) (by omega) (fun k b i h ps => by rw [spec_l06Path_l0, m_NeedOf, n1]) kd2 (ps := ps) (by omega)
              rw [e4, bnd_some]
              try dsimp only
              rw [wr_in (by omega)]
              exact ⟨_, rfl, ⟨by (try dsimp only) <;> omega, by (try dsimp only) <;> omega, k4, by simp <;> omega, by (try dsimp only) <;> omega⟩, by (try dsimp only) <;> omega⟩
            · right
              rw [ilf (by omega), cnd_false]
              exact ⟨_, rfl, kd2, by omega, hp⟩
          · rw [iqf hz, cnd_false, wr_in (n := x - 1) (by omega)]
            obtain ⟨q, hq, _⟩ := idx_of (l := vs) (i := x - 1) (by omega) (by omega)
            rw [hq, bnd_some]
            by_cases h5 : q = 5
            · rw [h5, iqt, cnd_true, m_NeedOf, bnd_some]
              have n1 : need 1 = 1 := by decide
              rw [n1, wr_in (n := (ps.length : Int) + 1) (by omega)]
              by_cases hq : (ps.length : Int) + 1 ≤ 24
              · left
                rw [ilt hq, cnd_true, chkP_pos (by omega), nam_eq]
                obtain ⟨b', i', h', ps', e4, k4, l4⟩ := pts_ok (f := spec_l06Path_l1 (vs ++ [1]) x) (n := 1) (by omega) (fun k b i h ps => by rw [spec_l06Path_l1, m_NeedOf, n1]) kd2 (ps := ps) (by omega)
                rw [e4, bnd_some]
                try dsimp only
                rw [wr_in (by omega)]
                exact ⟨_, rfl, ⟨by (try dsimp only) <;> omega, by (try dsimp only) <;> omega, k4, by simp <;> omega, by (try dsimp only) <;> omega⟩, by (try dsimp only) <;> omega⟩
              · right
                rw [ilf (by omega), cnd_false]
                exact ⟨_, rfl, kd2, by omega, hp⟩
            · have nb := need_bd v
              have n0 := verbs_mem hm
              rw [iqf h5, cnd_false, m_NeedOf, bnd_some, wr_in (n := (ps.length : Int) + need v) (by omega)]
              by_cases hq : (ps.length : Int) + need v ≤ 24
              · left
                rw [ilt hq, cnd_true, chkP_pos (by omega), nam_eq]
                obtain ⟨b', i', h', ps', e4, k4, l4⟩ := pts_ok (f := spec_l06Path_l2 (vs ++ [v]) v x) (n := need v) (by omega) (fun k b i h ps => by rw [spec_l06Path_l2, m_NeedOf]) kd2 (ps := ps) (by omega)
                rw [e4, bnd_some]
                try dsimp only
                rw [wr_in (by omega)]
                exact ⟨_, rfl, ⟨by (try dsimp only) <;> omega, by (try dsimp only) <;> omega, k4, by simp <;> omega, by (try dsimp only) <;> omega⟩, by (try dsimp only) <;> omega⟩
              · right
                rw [ilf (by omega), cnd_false]
                exact ⟨_, rfl, kd2, by omega, hp⟩)
      (x := (0, c1.b, c1.i, c1.h, [], [])) ⟨by omega, by (try dsimp only) <;> omega, k1, by simp, by simp⟩
    rw [h1, bnd_some]
    rcases r with ⟨b, i, h, vs, ps⟩ | ⟨b, i, h, vs, ps⟩
    · exact ⟨_, _, rfl, h2.1, h2.2.1, h2.2.2⟩
    · exact ⟨_, _, rfl, h2.1, h2.2.1, h2.2.2⟩

/-! ## Lines and masks of drawn paths: each is told -/
def nsum (vs : List Int) (i : Nat) : Int := ((vs.take i).map need).sum
theorem nsum_succ {vs : List Int} {i : Nat} (h : i < vs.length) : nsum vs (i + 1) = nsum vs i + need vs[i] := by
  unfold nsum
  rw [List.take_add_one, List.getElem?_eq_getElem h, List.map_append, List.sum_append]
  simp
structure VOk (vs : List Int) (n : Int) : Prop where
  all : ∀ i (h : i < vs.length), 0 ≤ need vs[i]
  one : ∀ h : 0 < vs.length, vs[0] = 1
  sum : nsum vs vs.length = n
theorem nsum_le {vs : List Int} {n : Int} (h : VOk vs n) : ∀ d i, i + d = vs.length → nsum vs i ≤ n := by
  intro d
  induction d with
  | zero => intro i hi; have : i = vs.length := by omega
            subst this; rw [h.sum]; omega
  | succ d ih =>
    intro i hi
    have h1 := ih (i + 1) (by omega)
    rw [nsum_succ (by omega)] at h1
    have := h.all i (by omega)
    omega
theorem nsum_bd {vs : List Int} : ∀ i, i ≤ vs.length → (∀ j (h : j < vs.length), j < i → 0 ≤ need vs[j]) → 0 ≤ nsum vs i ∧ nsum vs i ≤ 3 * (i : Int) := by
  intro i
  induction i with
  | zero => intro _ _; simp [nsum]
  | succ i ih =>
    intro hi h
    have h1 := ih (by omega) (fun j hj hji => h j hj (by omega))
    have h2 := h i (by omega) (by omega)
    have h3 := need_bd vs[i]
    rw [nsum_succ (by omega)]
    omega
theorem pathOk_t (p : TPath) : ∃ b, spec_PathOk p = some b ∧ (b = true → p.verbs.length ≤ 24 ∧ p.points.length ≤ 24 ∧ VOk p.verbs (p.points.length : Int)) := by
  unfold spec_PathOk
  by_cases h1 : (p.points.length : Int) ≤ 24
  case neg => rw [ilf (by omega), cnd_false]; exact ⟨false, rfl, fun h => by cases h⟩
  by_cases h2 : (p.verbs.length : Int) ≤ 24
  case neg => rw [ilt h1, cnd_true, ilf (by omega), cnd_false]; exact ⟨false, rfl, fun h => by cases h⟩
  rw [ilt h1, ilt h2, cnd_true, cnd_true]
  obtain ⟨r, e1, e2⟩ := loopI_tot (f := spec_PathOk_l0 p) (fun s => ∃ i : Nat, s.2 = (i : Int) ∧ i ≤ p.verbs.length ∧ s.1 = nsum p.verbs i ∧ (∀ j (h : j < p.verbs.length), j < i → 0 ≤ need p.verbs[j]) ∧ (∀ h : 0 < p.verbs.length, 0 < i → p.verbs[0] = 1))
    (fun r => match r with | .inl y => y = nsum p.verbs p.verbs.length ∧ (∀ j (h : j < p.verbs.length), 0 ≤ need p.verbs[j]) ∧ (∀ h : 0 < p.verbs.length, p.verbs[0] = 1) | .inr _ => True) (fun s => (p.verbs.length - s.2).toNat)
    (by
      rintro ⟨x, y⟩ ⟨i, hy, hi, hx, ha, ho⟩
      dsimp only at hy hx
      subst hy; subst hx
      have hb := nsum_bd i hi ha
      rw [spec_PathOk_l0]
      by_cases hlt : i < p.verbs.length
      case neg =>
        right
        rw [ilt (by omega), cnd_true]
        have : i = p.verbs.length := by omega
        subst this
        exact ⟨_, rfl, rfl, fun j h => ha j h h, fun h => ho h h⟩
      have nb := need_bd p.verbs[i]
      rw [ilf (by omega), cnd_false, idx_nat hlt, bnd_some, m_NeedOf, bnd_some]
      by_cases hn : 0 ≤ need p.verbs[i]
      case neg => right; rw [ilf (by omega), cnd_false]; exact ⟨_, rfl, trivial⟩
      rw [ilt hn, cnd_true, wr_in (n := nsum p.verbs i + need p.verbs[i]) (by omega), wr_in (n := (i : Int) + 1) (by omega)]
      have step : ∀ ho' : (∀ h : 0 < p.verbs.length, p.verbs[0] = 1), ∃ k : Nat, (nsum p.verbs i + need p.verbs[i], (i : Int) + 1).2 = (k : Int) ∧ k ≤ p.verbs.length ∧ (nsum p.verbs i + need p.verbs[i], (i : Int) + 1).1 = nsum p.verbs k ∧ (∀ j (h : j < p.verbs.length), j < k → 0 ≤ need p.verbs[j]) ∧ (∀ h : 0 < p.verbs.length, 0 < k → p.verbs[0] = 1) := by
        intro ho'
        refine ⟨i + 1, by simp, by omega, (nsum_succ hlt).symm, fun j h hj => ?_, fun h _ => ho' h⟩
        by_cases hji : j = i
        · subst hji; exact hn
        · exact ha j h (by omega)
      by_cases h0 : i = 0
      · subst h0
        have z : ((0 : Nat) : Int) = 0 := rfl
        rw [z, iqt, cnd_true]
        by_cases hv : p.verbs[0] = 1
        · left
          rw [hv, iqt, cnd_true]
          rw [hv] at step
          exact ⟨_, rfl, step (fun _ => hv), by (try dsimp only) <;> omega⟩
        · right; rw [iqf hv, cnd_false]; exact ⟨_, rfl, trivial⟩
      · rw [iqf (by omega), cnd_false, wr_in (n := (i : Int) - 1) (by omega)]
        obtain ⟨q, hq, _⟩ := idx_of (l := p.verbs) (i := (i : Int) - 1) (by omega) (by omega)
        have ho' : ∀ h : 0 < p.verbs.length, p.verbs[0] = 1 := fun h => ho h (by omega)
        rw [hq, bnd_some]
        by_cases h5 : q = 5
        · rw [h5, iqt, cnd_true]
          by_cases hv : p.verbs[i] = 1
          · left
            rw [hv, iqt, cnd_true]
            rw [hv] at step
            exact ⟨_, rfl, step ho', by (try dsimp only) <;> omega⟩
          · right; rw [iqf hv, cnd_false]; exact ⟨_, rfl, trivial⟩
        · left
          rw [iqf h5, cnd_false]
          exact ⟨_, rfl, step ho', by (try dsimp only) <;> omega⟩)
    (x := (0, 0)) ⟨0, rfl, by omega, by simp [nsum], fun j _ h => by omega, fun _ h => by omega⟩
  rw [e1, bnd_some]
  rcases r with y | u
  · have key := loopI_row (l := p.points) (f := spec_PathOk_l1 p y) (fun q => tin q.x (-8388608) 8388608 && tin q.y (-8388608) 8388608) (by omega) (fun i hi => by rw [spec_PathOk_l1, ilf (by omega), cnd_false, idx_nat hi, bnd_some, t_PointOk, bnd_some]) (by rw [spec_PathOk_l1, ilt (by omega), cnd_true])
    try dsimp only
    rw [key, bnd_some]
    cases p.points.all (fun q => tin q.x (-8388608) 8388608 && tin q.y (-8388608) 8388608)
    · exact ⟨false, rfl, fun h => by cases h⟩
    · refine ⟨ieq y (p.points.length : Int), rfl, fun h => ⟨by omega, by omega, e2.2.1, e2.2.2, ?_⟩⟩
      have : y = (p.points.length : Int) := by simpa [ieq] using h
      rw [← e2.1]; exact this
  · exact ⟨false, rfl, fun h => by cases h⟩
theorem t_QuadAt (a b c : TPoint) (i : Int) : ∃ q, spec_QuadAt a b c i = some q := by
  unfold spec_QuadAt
  rw [t_PointOk, t_PointOk, t_PointOk]
  simp only [bnd_some]
  obtain ⟨v, e⟩ := t_Clamp i 0 4
  rw [e, bnd_some]
  generalize hX : spec_RoundDiv (IntKind.i64.wrap ((IntKind.i64.wrap ((IntKind.i64.wrap ((IntKind.i64.wrap ((IntKind.i64.wrap (4 - v)) * (IntKind.i64.wrap (4 - v)))) * a.x)) + (IntKind.i64.wrap ((IntKind.i64.wrap ((IntKind.i64.wrap (2 * v)) * (IntKind.i64.wrap (4 - v)))) * b.x)))) + (IntKind.i64.wrap ((IntKind.i64.wrap (v * v)) * c.x)))) 16 = X
  generalize hY : spec_RoundDiv (IntKind.i64.wrap ((IntKind.i64.wrap ((IntKind.i64.wrap ((IntKind.i64.wrap ((IntKind.i64.wrap (4 - v)) * (IntKind.i64.wrap (4 - v)))) * a.y)) + (IntKind.i64.wrap ((IntKind.i64.wrap ((IntKind.i64.wrap (2 * v)) * (IntKind.i64.wrap (4 - v)))) * b.y)))) + (IntKind.i64.wrap ((IntKind.i64.wrap (v * v)) * c.y)))) 16 = Y
  obtain ⟨x, ex⟩ := t_RoundDiv (IntKind.i64.wrap ((IntKind.i64.wrap ((IntKind.i64.wrap ((IntKind.i64.wrap ((IntKind.i64.wrap (4 - v)) * (IntKind.i64.wrap (4 - v)))) * a.x)) + (IntKind.i64.wrap ((IntKind.i64.wrap ((IntKind.i64.wrap (2 * v)) * (IntKind.i64.wrap (4 - v)))) * b.x)))) + (IntKind.i64.wrap ((IntKind.i64.wrap (v * v)) * c.x)))) 16
  obtain ⟨y, ey⟩ := t_RoundDiv (IntKind.i64.wrap ((IntKind.i64.wrap ((IntKind.i64.wrap ((IntKind.i64.wrap ((IntKind.i64.wrap (4 - v)) * (IntKind.i64.wrap (4 - v)))) * a.y)) + (IntKind.i64.wrap ((IntKind.i64.wrap ((IntKind.i64.wrap (2 * v)) * (IntKind.i64.wrap (4 - v)))) * b.y)))) + (IntKind.i64.wrap ((IntKind.i64.wrap (v * v)) * c.y)))) 16
  rw [hX] at ex; rw [hY] at ey; subst ex; subst ey
  cases (tin a.x (-8388608) 8388608 && tin a.y (-8388608) 8388608) <;> cases (tin b.x (-8388608) 8388608 && tin b.y (-8388608) 8388608) <;> cases (tin c.x (-8388608) 8388608 && tin c.y (-8388608) 8388608) <;> exact ⟨_, rfl⟩
theorem bnd2 {α β γ : Type} {A : Option α} {B : Option β} {F : α → β → γ} (ha : ∃ x, A = some x) (hb : ∃ y, B = some y) : ∃ z, (bnd A fun x => bnd B fun y => some (F x y)) = some z := by
  obtain ⟨x, rfl⟩ := ha; obtain ⟨y, rfl⟩ := hb; exact ⟨_, rfl⟩
theorem t_CubicAt (a b c d : TPoint) (i : Int) : ∃ q, spec_CubicAt a b c d i = some q := by
  unfold spec_CubicAt
  rw [t_PointOk, t_PointOk, t_PointOk, t_PointOk]
  simp only [bnd_some]
  obtain ⟨v, e⟩ := t_Clamp i 0 8
  rw [e, bnd_some]
  cases (tin a.x (-8388608) 8388608 && tin a.y (-8388608) 8388608) <;> cases (tin b.x (-8388608) 8388608 && tin b.y (-8388608) 8388608) <;> cases (tin c.x (-8388608) 8388608 && tin c.y (-8388608) 8388608) <;> cases (tin d.x (-8388608) 8388608 && tin d.y (-8388608) 8388608) <;> simp only [cnd_true, cnd_false]
  all_goals first | exact ⟨_, rfl⟩ | exact bnd2 (t_RoundDiv _ _) (t_RoundDiv _ _)
structure Rws (n : Nat) (ls : List (List TPoint)) : Prop where
  n : ls.length ≤ n
  each : ∀ l ∈ ls, l.length ≤ 300
theorem Rws.app {n : Nat} {ls : List (List TPoint)} {l : List TPoint} (h : Rws n ls) (hl : l.length ≤ 300) : Rws (n + 1) (ls ++ [l]) := by
  refine ⟨by have := h.n; simp; omega, fun x hx => ?_⟩
  rcases List.mem_append.1 hx with hx | hx
  · exact h.each x hx
  · simp only [List.mem_singleton] at hx; subst hx; exact hl
theorem flat_t (p : TPath) : ∃ ls, spec_FlatOf p = some ls ∧ Rws 30 ls := by
  obtain ⟨b, e, hb⟩ := pathOk_t p
  unfold spec_FlatOf
  rw [e, bnd_some]
  cases b with
  | false => rw [cnd_false]; exact ⟨[], rfl, by simp, by simp⟩
  | true =>
    obtain ⟨hv, hp, hV⟩ := hb rfl
    rw [cnd_true]
    obtain ⟨r, e1, e2⟩ := loopI_tot (f := spec_FlatOf_l2 p) (fun s => ∃ i : Nat, s.2.1 = (i : Int) ∧ i ≤ p.verbs.length ∧ s.1 = nsum p.verbs i ∧ s.2.2.1.length ≤ 1 + 8 * i ∧ (0 < i → 0 < s.2.2.1.length) ∧ Rws i s.2.2.2)
      (fun r => r.2.length ≤ 200 ∧ Rws 24 r.1) (fun s => (p.verbs.length - s.2.1).toNat)
      (by
        rintro ⟨x, y, now, out⟩ ⟨i, hy, hi, hx, hl, hne, hr⟩
        dsimp only at hy hx hl hne hr
        subst hy; subst hx
        have hb := nsum_bd i hi (fun j h _ => hV.all j h)
        rw [spec_FlatOf_l2]
        by_cases hlt : i < p.verbs.length
        case neg =>
          right
          rw [ilt (by omega), cnd_true]
          exact ⟨_, rfl, by (try dsimp only) <;> omega, by have := hr.n; exact ⟨by show out.length ≤ 24; omega, hr.each⟩⟩
        left
        have nb := need_bd p.verbs[i]
        have n0 := hV.all i hlt
        have hin := need_in n0
        have hle := nsum_le hV (p.verbs.length - (i + 1)) (i + 1) (by omega)
        rw [nsum_succ hlt] at hle
        have hrn := hr.n
        rw [ilf (by omega), cnd_false, idx_nat hlt, bnd_some]
        have fin : ∀ (now' : List TPoint) (out' : List (List TPoint)), now'.length ≤ 1 + 8 * (i + 1) → 0 < now'.length → Rws (i + 1) out' →
            ∃ z : Int × Int × List TPoint × List (List TPoint), (some (.inl (nsum p.verbs i + need p.verbs[i], (i : Int) + 1, now', out')) : Option ((Int × Int × List TPoint × List (List TPoint)) ⊕ (List (List TPoint) × List TPoint))) = some (.inl z) ∧
              (∃ i : Nat, z.2.1 = (i : Int) ∧ i ≤ p.verbs.length ∧ z.1 = nsum p.verbs i ∧ z.2.2.1.length ≤ 1 + 8 * i ∧ (0 < i → 0 < z.2.2.1.length) ∧ Rws i z.2.2.2) ∧ ((p.verbs.length : Int) - z.2.1).toNat < ((p.verbs.length : Int) - (i : Int)).toNat := by
          intro now' out' h1 h2 h3
          refine ⟨_, rfl, ⟨i + 1, by simp, by omega, (nsum_succ hlt).symm, h1, fun _ => h2, h3⟩, ?_⟩
          (try dsimp only) <;> omega
        have hr1 : Rws (i + 1) out := ⟨by omega, hr.each⟩
        rw [wr_in (n := (i : Int) + 1) (by omega)]
        simp only [m_NeedOf, bnd_some]
        rw [wr_in (n := nsum p.verbs i + need p.verbs[i]) (by omega)]
        by_cases v1 : p.verbs[i] = 1
        · have nd : need p.verbs[i] = 1 := by rw [v1]; decide
          obtain ⟨q, hq, _⟩ := idx_of (l := p.points) (i := nsum p.verbs i) (by omega) (by omega)
          rw [show ieq p.verbs[i] 1 = true by rw [v1]; exact iqt, cnd_true]
          by_cases h0 : i = 0
          · rw [ilt (by omega), cnd_true, hq, bnd_some]
            exact fin [q] out (by simp) (by simp) hr1
          · rw [ilf (by omega), cnd_false, chkP_pos (by omega), nam_eq, hq, bnd_some]
            exact fin [q] (out ++ [now]) (by simp) (by simp) (hr.app (by omega))
        rw [iqf v1, cnd_false]
        have ip : 0 < i := by
          rcases Nat.eq_zero_or_pos i with h | h
          · subst h; exact absurd (hV.one hlt) v1
          · exact h
        have np := hne ip
        by_cases v2 : p.verbs[i] = 2
        · have nd : need p.verbs[i] = 1 := by rw [v2]; decide
          obtain ⟨q, hq, _⟩ := idx_of (l := p.points) (i := nsum p.verbs i) (by omega) (by omega)
          rw [show ieq p.verbs[i] 2 = true by rw [v2]; exact iqt, cnd_true, hq, bnd_some, chkP_pos (by omega), nam_eq]
          exact fin (now ++ [q]) out (by simp; omega) (by simp) hr1
        rw [iqf v2, cnd_false, wr_in (n := (now.length : Int) - 1) (by omega)]
        obtain ⟨last, hlast, _⟩ := idx_of (l := now) (i := (now.length : Int) - 1) (by omega) (by omega)
        obtain ⟨first, hfirst, _⟩ := idx_of (l := now) (i := 0) (by omega) (by omega)
        rw [hlast, hfirst]
        simp only [bnd_some]
        by_cases v3 : p.verbs[i] = 3
        · have nd : need p.verbs[i] = 2 := by rw [v3]; decide
          obtain ⟨q, hq, _⟩ := idx_of (l := p.points) (i := nsum p.verbs i) (by omega) (by omega)
          obtain ⟨u, hu, _⟩ := idx_of (l := p.points) (i := nsum p.verbs i + 1) (by omega) (by omega)
          rw [show ieq p.verbs[i] 3 = true by rw [v3]; exact iqt, cnd_true]
          obtain ⟨w, f1, f2⟩ := loopI_tot (f := spec_FlatOf_l0 p last (nsum p.verbs i) (i : Int) out) (fun s => 1 ≤ s.1 ∧ s.1 ≤ 5 ∧ (s.2.length : Int) = (now.length : Int) + s.1 - 1) (fun r => r.length = now.length + 4) (fun s => (5 - s.1).toNat)
            (by
              rintro ⟨k, l⟩ ⟨k0, k1, k2⟩
              dsimp only at k0 k1 k2
              rw [spec_FlatOf_l0]
              by_cases hk : k ≤ 4
              · left
                rw [ilt hk, cnd_true, hq, bnd_some, wr_in (n := nsum p.verbs i + 1) (by omega), hu, bnd_some]
                obtain ⟨z, ez⟩ := t_QuadAt last q u k
                rw [ez, bnd_some, chkP_pos (by omega), nam_eq, wr_in (by omega)]
                exact ⟨_, rfl, ⟨by (try dsimp only) <;> omega, by (try dsimp only) <;> omega, by simp <;> omega⟩, by (try dsimp only) <;> omega⟩
              · right
                rw [ilf (by omega), cnd_false]
                exact ⟨_, rfl, by (try dsimp only) <;> omega⟩)
            (x := (1, now)) ⟨by omega, by (try dsimp only) <;> omega, by (try dsimp only) <;> omega⟩
          rw [f1, bnd_some]
          exact fin w out (by omega) (by omega) hr1
        rw [iqf v3, cnd_false]
        by_cases v4 : p.verbs[i] = 4
        · have nd : need p.verbs[i] = 3 := by rw [v4]; decide
          obtain ⟨q, hq, _⟩ := idx_of (l := p.points) (i := nsum p.verbs i) (by omega) (by omega)
          obtain ⟨u, hu, _⟩ := idx_of (l := p.points) (i := nsum p.verbs i + 1) (by omega) (by omega)
          obtain ⟨t, ht, _⟩ := idx_of (l := p.points) (i := nsum p.verbs i + 2) (by omega) (by omega)
          rw [show ieq p.verbs[i] 4 = true by rw [v4]; exact iqt, cnd_true]
          obtain ⟨w, f1, f2⟩ := loopI_tot (f := spec_FlatOf_l1 p last (nsum p.verbs i) (i : Int) out) (fun s => 1 ≤ s.1 ∧ s.1 ≤ 9 ∧ (s.2.length : Int) = (now.length : Int) + s.1 - 1) (fun r => r.length = now.length + 8) (fun s => (9 - s.1).toNat)
            (by
              rintro ⟨k, l⟩ ⟨k0, k1, k2⟩
              dsimp only at k0 k1 k2
              rw [spec_FlatOf_l1]
              by_cases hk : k ≤ 8
              · left
                rw [ilt hk, cnd_true, hq, bnd_some, wr_in (n := nsum p.verbs i + 1) (by omega), hu, bnd_some, wr_in (n := nsum p.verbs i + 2) (by omega), ht, bnd_some]
                obtain ⟨z, ez⟩ := t_CubicAt last q u t k
                rw [ez, bnd_some, chkP_pos (by omega), nam_eq, wr_in (by omega)]
                exact ⟨_, rfl, ⟨by (try dsimp only) <;> omega, by (try dsimp only) <;> omega, by simp <;> omega⟩, by (try dsimp only) <;> omega⟩
              · right
                rw [ilf (by omega), cnd_false]
                exact ⟨_, rfl, by (try dsimp only) <;> omega⟩)
            (x := (1, now)) ⟨by omega, by (try dsimp only) <;> omega, by (try dsimp only) <;> omega⟩
          rw [f1, bnd_some]
          exact fin w out (by omega) (by omega) hr1
        rw [iqf v4, cnd_false]
        have v5 : p.verbs[i] = 5 := by omega
        rw [show ieq p.verbs[i] 5 = true by rw [v5]; exact iqt, cnd_true]
        cases (andB (decide (first.x = last.x)) (andB (decide (first.y = last.y)) true))
        · rw [cnd_false, chkP_pos (by omega), nam_eq]
          exact fin (now ++ [first]) out (by simp; omega) (by simp) hr1
        · rw [cnd_true]
          exact fin now out (by omega) np hr1)
      (x := (0, 0, [], [])) ⟨0, rfl, by omega, by simp [nsum], by simp, fun h => by omega, by simp, by simp⟩
    rw [e1, bnd_some]
    obtain ⟨out, now⟩ := r
    try dsimp only at e2 ⊢
    have hn := e2.2.n
    by_cases h0 : (now.length : Int) ≤ 0
    · rw [ilt h0, cnd_true]; exact ⟨out, rfl, by omega, e2.2.each⟩
    · rw [ilf (by omega), cnd_false, chkP_pos (by omega), nam_eq]
      have := e2.2.app (l := now) (by have := e2.1; omega)
      exact ⟨_, rfl, by have := this.n; omega, this.each⟩

/-! ## Masks of lines -/
theorem near_t (p : TPoint) : ∃ b, spec_l10Near p = some b := by
  unfold spec_l10Near
  rw [m_spec_l01In, m_spec_l01In]
  simp only [bnd_some]
  cases tin p.x (-33554432) 33554432 <;> exact ⟨_, rfl⟩
theorem wind_t {l : List TPoint} (hl : l.length ≤ 300) (p : TPoint) : ∃ n, spec_WindOf l p = some n := by
  unfold spec_WindOf
  obtain ⟨b, e⟩ := near_t p
  rw [e, bnd_some]
  cases b
  · exact ⟨0, rfl⟩
  rw [cnd_true]
  obtain ⟨r, e1, _⟩ := loopI_tot (f := spec_WindOf_l0 l p) (fun s => 0 ≤ s.1 ∧ s.1 ≤ l.length) (fun _ => True) (fun s => ((l.length : Int) - s.1).toNat)
    (by
      rintro ⟨i, n⟩ ⟨i0, i1⟩
      dsimp only at i0 i1
      rw [spec_WindOf_l0]
      by_cases hi : (l.length : Int) ≤ i
      · right; rw [ilt hi, cnd_true]; exact ⟨_, rfl, trivial⟩
      obtain ⟨q, hq, _⟩ := idx_of (l := l) (i := i) i0 (by omega)
      obtain ⟨u, hu, _⟩ := idx_of (l := l) (i := (i + 1).tmod (l.length : Int)) (Int.tmod_nonneg _ (by omega)) (Int.tmod_lt_of_pos _ (by omega))
      rw [ilf (by omega), cnd_false, hq, bnd_some, chkP_pos (by omega), wr_in (n := i + 1) (by omega), hu, bnd_some]
      obtain ⟨b1, f1⟩ := near_t q
      obtain ⟨b2, f2⟩ := near_t u
      rw [f1, f2]
      simp only [bnd_some]
      have fin : ∀ n' : Int, ∃ y : Int × Int, (some (.inl (i + 1, n')) : Option ((Int × Int) ⊕ (Int ⊕ Unit))) = some (.inl y) ∧ (0 ≤ y.1 ∧ y.1 ≤ l.length) ∧ ((l.length : Int) - y.1).toNat < ((l.length : Int) - (i, n).1).toNat := by
        intro n'
        exact ⟨_, rfl, ⟨by (try dsimp only) <;> omega, by (try dsimp only) <;> omega⟩, by (try dsimp only) <;> omega⟩
      cases b1
      · right; exact ⟨_, rfl, trivial⟩
      cases b2
      · right; exact ⟨_, rfl, trivial⟩
      simp only [cnd_true]
      left
      cases ile q.y p.y <;> cases ile u.y p.y <;> simp only [cnd_true, cnd_false]
      · exact fin _
      · generalize ile 0 _ = z
        cases z <;> exact fin _
      · generalize ile _ 0 = z
        cases z <;> exact fin _
      · exact fin _)
    (x := (0, 0)) ⟨by omega, by (try dsimp only) <;> omega⟩
  rw [e1, bnd_some]
  cases r <;> exact ⟨_, rfl⟩
theorem covers_t {ls : List (List TPoint)} (h : Rws 30 ls) (b : Bool) (p : TPoint) : ∃ c, spec_Covers ls b p = some c := by
  unfold spec_Covers
  have hn := h.n
  obtain ⟨r, e1, _⟩ := loopI_tot (f := spec_Covers_l0 ls b p) (fun s => 0 ≤ s.2 ∧ s.2 ≤ ls.length) (fun _ => True) (fun s => ((ls.length : Int) - s.2).toNat)
    (by
      rintro ⟨n, i⟩ ⟨i0, i1⟩
      dsimp only at i0 i1
      rw [spec_Covers_l0]
      by_cases hi : (ls.length : Int) ≤ i
      · right; rw [ilt hi, cnd_true]; exact ⟨_, rfl, trivial⟩
      left
      obtain ⟨q, hq, hm⟩ := idx_of (l := ls) (i := i) i0 (by omega)
      obtain ⟨w, hw⟩ := wind_t (h.each q hm) p
      rw [ilf (by omega), cnd_false, hq, bnd_some, hw, bnd_some, wr_in (n := i + 1) (by omega)]
      exact ⟨_, rfl, ⟨by (try dsimp only) <;> omega, by (try dsimp only) <;> omega⟩, by (try dsimp only) <;> omega⟩)
    (x := (0, 0)) ⟨by omega, by (try dsimp only) <;> omega⟩
  rw [e1, bnd_some]
  cases b <;> exact ⟨_, rfl⟩
/-! ## FnLayers -/
/-! ## FnPaintsOn -/
/-! ## Scenes: the program's word is the reference's -/
theorem fst_in {α : Type} {q : α → Bool} {l : List α} (h : 0 ≤ fst q l) : ∃ x, idx l (fst q l) = some x := by
  unfold fst at h ⊢
  cases hq : l.findIdx? q with
  | none => rw [hq] at h; simp at h
  | some i =>
    rw [List.findIdx?_eq_some_iff_getElem] at hq
    obtain ⟨h1, _⟩ := hq
    exact ⟨_, idx_nat h1⟩
/-! ## EngineOk -/
/-! ## EngineNew -/
/-! ## FnSets: draws -/
/-! Copies -/
theorem copy_loop {α : Type} {l : List α} {f : Int × List α → Option ((Int × List α) ⊕ (List α))} (hs : ∀ (i : Nat) (h : i < l.length), f ((i : Int), l.take i) = some (.inl (((i + 1 : Nat) : Int), l.take i ++ [l[i]]))) (he : f ((l.length : Int), l) = some (.inr l)) : loopI f (0, []) = some l := by
  have key := loopI_n (f := f) (fun i => ((i : Int), l.take i)) l.length (r := l) (fun i hi => ?_) (by (try dsimp only); rw [List.take_length]; exact he)
  · exact key
  · try dsimp only
    rw [hs i hi, List.take_add_one, List.getElem?_eq_getElem hi]; rfl
/-! Any scenes and nodes -/
/-! ## FnSets: the law -/
/-! Sameness -/
theorem m_sameInts {l : List Int} (h : l.length ≤ 1048576) : laws_sameInts l l = some true := by
  unfold laws_sameInts
  rw [iqt, cnd_true, loopI_row (l := l) (f := laws_sameInts_l0 l l) (fun _ => true) (by omega) (fun i hi => by rw [laws_sameInts_l0, ilf (by omega), cnd_false, idx_nat hi, bnd_some, bnd_some, iqt]) (by rw [laws_sameInts_l0, ilt (by omega), cnd_true])]
  simp
/-! Right scenes -/
theorem idx_toNat {α : Type} {l : List α} {i : Int} {x : α} (h : idx l i = some x) : 0 ≤ i ∧ i.toNat < l.length ∧ l[i.toNat]? = some x := by
  unfold idx at h
  split at h
  · rename_i h0
    exact ⟨h0, (List.getElem?_eq_some_iff.1 h).1, h⟩
  · cases h
/-! ## Masks drawn are right -/
theorem maskAt_v {ls : List (List TPoint)} (h : Rws 30 ls) (b : Bool) (x y : Int) : ∃ v, spec_MaskAt ls b x y = some v ∧ tin v 0 15 = true := by
  unfold spec_MaskAt
  rw [m_spec_l01In, m_spec_l01In]
  simp only [bnd_some]
  cases tin x (-2000) 2000
  · exact ⟨_, rfl, by decide⟩
  cases tin y (-2000) 2000
  · exact ⟨_, rfl, by decide⟩
  simp only [cnd_true]
  obtain ⟨r, e1, e2⟩ := loopI_tot (f := spec_MaskAt_l0 ls b x y) (fun s => (0 ≤ s.2 ∧ s.2 ≤ 4) ∧ 0 ≤ s.1 ∧ (s.2 ≤ 0 → s.1 ≤ 0) ∧ (s.2 ≤ 1 → s.1 ≤ 1) ∧ (s.2 ≤ 2 → s.1 ≤ 3) ∧ (s.2 ≤ 3 → s.1 ≤ 7) ∧ s.1 ≤ 15) (fun r => 0 ≤ r ∧ r ≤ 15) (fun s => (4 - s.2).toNat)
    (by
      rintro ⟨n, i⟩ ⟨⟨i0, i1⟩, n0, k0, k1, k2, k3, k4⟩
      dsimp only at i0 i1 n0 k0 k1 k2 k3 k4
      rw [spec_MaskAt_l0]
      by_cases hi : 4 ≤ i
      · right; rw [ilt hi, cnd_true]; exact ⟨_, rfl, n0, k4⟩
      left
      obtain ⟨w, hw⟩ := covers_t h b ⟨IntKind.i64.wrap ((IntKind.i64.wrap ((IntKind.i64.wrap (256 * x)) + 64)) + (IntKind.i64.wrap (128 * (Int.tmod i 2)))), IntKind.i64.wrap ((IntKind.i64.wrap ((IntKind.i64.wrap (256 * y)) + 64)) + (IntKind.i64.wrap (128 * (IntKind.i64.wrap (Int.tdiv i 2)))))⟩
      have hc : i = 0 ∨ i = 1 ∨ i = 2 ∨ i = 3 := by omega
      rw [ilf (by omega), cnd_false, hw, bnd_some, wr_in (n := i + 1) (by omega)]
      cases w
      · exact ⟨_, rfl, ⟨⟨by (try dsimp only) <;> omega, by (try dsimp only) <;> omega⟩, n0, by (try dsimp only) <;> omega, by (try dsimp only) <;> omega, by (try dsimp only) <;> omega, by (try dsimp only) <;> omega, k4⟩, by (try dsimp only) <;> omega⟩
      · rw [cnd_true]
        rcases hc with rfl | rfl | rfl | rfl <;> simp only [idx_l0, idx_l1, idx_l2, idx_l3, bnd_some]
        · rw [wr_in (n := n + 1) (by omega)]; exact ⟨_, rfl, ⟨⟨by (try dsimp only) <;> omega, by (try dsimp only) <;> omega⟩, by (try dsimp only) <;> omega, by (try dsimp only) <;> omega, by (try dsimp only) <;> omega, by (try dsimp only) <;> omega, by (try dsimp only) <;> omega, by (try dsimp only) <;> omega⟩, by (try dsimp only) <;> omega⟩
        · rw [wr_in (n := n + 2) (by omega)]; exact ⟨_, rfl, ⟨⟨by (try dsimp only) <;> omega, by (try dsimp only) <;> omega⟩, by (try dsimp only) <;> omega, by (try dsimp only) <;> omega, by (try dsimp only) <;> omega, by (try dsimp only) <;> omega, by (try dsimp only) <;> omega, by (try dsimp only) <;> omega⟩, by (try dsimp only) <;> omega⟩
        · rw [wr_in (n := n + 4) (by omega)]; exact ⟨_, rfl, ⟨⟨by (try dsimp only) <;> omega, by (try dsimp only) <;> omega⟩, by (try dsimp only) <;> omega, by (try dsimp only) <;> omega, by (try dsimp only) <;> omega, by (try dsimp only) <;> omega, by (try dsimp only) <;> omega, by (try dsimp only) <;> omega⟩, by (try dsimp only) <;> omega⟩
        · rw [wr_in (n := n + 8) (by omega)]; exact ⟨_, rfl, ⟨⟨by (try dsimp only) <;> omega, by (try dsimp only) <;> omega⟩, by (try dsimp only) <;> omega, by (try dsimp only) <;> omega, by (try dsimp only) <;> omega, by (try dsimp only) <;> omega, by (try dsimp only) <;> omega, by (try dsimp only) <;> omega⟩, by (try dsimp only) <;> omega⟩)
    (x := (0, 0)) ⟨⟨by omega, by (try dsimp only) <;> omega⟩, by (try dsimp only) <;> omega, by (try dsimp only) <;> omega, by (try dsimp only) <;> omega, by (try dsimp only) <;> omega, by (try dsimp only) <;> omega, by (try dsimp only) <;> omega⟩
  rw [e1, bnd_some]
  exact ⟨_, rfl, by rw [tin_t]; exact e2⟩
theorem maskOk_of {b : TBox} {l : List Int} (hb : maskBox b = true) (hl : (l.length : Int) = (b.x1 - b.x0) * (b.y1 - b.y0)) (hv : ∀ v ∈ l, tin v 0 15 = true) : maskOk ⟨b, l⟩ = true := by
  have hp := mb_prod hb
  unfold maskOk
  rw [if_neg (by (try dsimp only) <;> omega)]
  simp only [hb, Bool.true_and, Bool.and_eq_true, decide_eq_true_eq, List.all_eq_true]
  exact ⟨hl, hv⟩
theorem maskOf_v {ls : List (List TPoint)} (h : Rws 30 ls) (e : Bool) (b : TBox) : ∃ c bits, spec_MaskOf ls e b = some (c, bits) ∧ bits.length ≤ 3600 ∧ maskOk ⟨c, bits⟩ = true := by
  unfold spec_MaskOf
  rw [m_spec_l11Box, bnd_some]
  cases hb : maskBox b
  · exact ⟨_, _, rfl, by simp, by decide⟩
  rw [cnd_true]
  have hf := mb_facts hb
  have hpr := mb_prod hb
  have row : ∀ (y : Int) (acc : List Int), acc.length ≤ 3600 → (∀ v ∈ acc, tin v 0 15 = true) → ∃ l, loopI (spec_MaskOf_l0 ls e b y) (b.x0, acc) = some l ∧ (l.length : Int) = (acc.length : Int) + (b.x1 - b.x0) ∧ ∀ v ∈ l, tin v 0 15 = true := by
    intro y acc ha hacc
    obtain ⟨l, h1, h2⟩ := loopI_tot (f := spec_MaskOf_l0 ls e b y) (fun s => b.x0 ≤ s.1 ∧ s.1 ≤ b.x1 ∧ (s.2.length : Int) = (acc.length : Int) + (s.1 - b.x0) ∧ ∀ v ∈ s.2, tin v 0 15 = true) (fun r => (r.length : Int) = (acc.length : Int) + (b.x1 - b.x0) ∧ ∀ v ∈ r, tin v 0 15 = true) (fun s => (b.x1 - s.1).toNat)
      (by
        rintro ⟨x, l⟩ ⟨x0, x1, x2, x3⟩
        dsimp only at x0 x1 x2 x3
        rw [spec_MaskOf_l0]
        by_cases hx : b.x1 ≤ x
        · right; rw [ilt hx, cnd_true]; exact ⟨_, rfl, by (try dsimp only) <;> omega, x3⟩
        left
        obtain ⟨v, hv, hvt⟩ := maskAt_v h e x y
        rw [ilf (by omega), cnd_false, hv, bnd_some, chkP_pos (by omega), nam_eq, wr_in (by omega)]
        refine ⟨_, rfl, ⟨by (try dsimp only) <;> omega, by (try dsimp only) <;> omega, by simp <;> omega, ?_⟩, by (try dsimp only) <;> omega⟩
        intro u hu
        rcases List.mem_append.1 hu with hu | hu
        · exact x3 u hu
        · rw [List.mem_singleton.1 hu]; exact hvt)
      (x := (b.x0, acc)) ⟨by (try dsimp only) <;> omega, by (try dsimp only) <;> omega, by (try dsimp only) <;> omega, hacc⟩
    exact ⟨l, h1, h2⟩
  obtain ⟨l, h1, h2⟩ := loopI_tot (f := spec_MaskOf_l1 ls e b) (fun s => b.y0 ≤ s.1 ∧ s.1 ≤ b.y1 ∧ (s.2.length : Int) ≤ 60 * (s.1 - b.y0) ∧ (s.2.length : Int) = (b.x1 - b.x0) * (s.1 - b.y0) ∧ ∀ v ∈ s.2, tin v 0 15 = true) (fun r => r.length ≤ 3600 ∧ (r.length : Int) = (b.x1 - b.x0) * (b.y1 - b.y0) ∧ ∀ v ∈ r, tin v 0 15 = true) (fun s => (b.y1 - s.1).toNat)
    (by
      rintro ⟨y, l⟩ ⟨y0, y1, y2, y3, y4⟩
      dsimp only at y0 y1 y2 y3 y4
      rw [spec_MaskOf_l1]
      by_cases hy : b.y1 ≤ y
      · right; rw [ilt hy, cnd_true]
        have : y = b.y1 := by omega
        subst this
        exact ⟨_, rfl, by (try dsimp only) <;> omega, y3, y4⟩
      left
      obtain ⟨q, hq, hql, hqv⟩ := row y l (by omega) y4
      rw [ilf (by omega), cnd_false, hq, bnd_some, wr_in (by omega)]
      have e1 : (b.x1 - b.x0) * (y + 1 - b.y0) = (b.x1 - b.x0) * (y - b.y0) + (b.x1 - b.x0) := by
        rw [show y + 1 - b.y0 = (y - b.y0) + 1 by omega, Int.mul_add, Int.mul_one]
      exact ⟨_, rfl, ⟨by (try dsimp only) <;> omega, by (try dsimp only) <;> omega, by (try dsimp only) <;> omega, by (try dsimp only) <;> rw [e1] <;> omega, hqv⟩, by (try dsimp only) <;> omega⟩)
    (x := (b.y0, [])) ⟨by (try dsimp only) <;> omega, by (try dsimp only) <;> omega, by simp, by simp, by simp⟩
  rw [h1, bnd_some]
  exact ⟨_, _, rfl, h2.1, maskOk_of hb h2.2.1 h2.2.2⟩
theorem maskOk_set {b : TBox} {l : List Int} {i : Nat} {v : Int} (h : maskOk ⟨b, l⟩ = true) (hi : i < l.length) (hv : tin v 0 15 = true) : maskOk ⟨b, l.set i v⟩ = true := by
  unfold maskOk at h ⊢
  rw [if_neg (by (try dsimp only) <;> omega)] at h
  rw [if_neg (by (try dsimp only) <;> rw [List.length_set] <;> omega)]
  simp only [Bool.and_eq_true, decide_eq_true_eq, List.all_eq_true, List.length_set] at h ⊢
  refine ⟨h.1, fun u hu => ?_⟩
  rcases List.mem_or_eq_of_mem_set hu with hu | hu
  · exact h.2 u hu
  · rw [hu]; exact hv
theorem mask_v {c : TL01Cur} (h : CurOk c) : ∃ m c', spec_l11Mask c = some (m, c') ∧ CurOk c' ∧ m.bits.length ≤ 3600 ∧ maskOk m = true := by
  unfold spec_l11Mask
  obtain ⟨r1, c1, e1, _, _, k1⟩ := below_ok h (n := 8) (by omega)
  obtain ⟨r2, c2, e2, _, _, k2⟩ := below_ok k1 (n := 8) (by omega)
  obtain ⟨r3, c3, e3, _, _, k3⟩ := below_ok k2 (n := 6) (by omega)
  obtain ⟨r4, c4, e4, _, _, k4⟩ := below_ok k3 (n := 6) (by omega)
  obtain ⟨p, c5, e5, k5, _, _⟩ := path_ok k4
  obtain ⟨ls, e6, hls⟩ := flat_t p
  rw [e1, bnd_some]
  try dsimp only
  rw [e2, bnd_some]
  try dsimp only
  rw [e3, bnd_some]
  try dsimp only
  rw [e4, bnd_some]
  try dsimp only
  rw [e5, bnd_some]
  try dsimp only
  rw [e6, bnd_some]
  obtain ⟨bx, bits, e7, hbits, hok⟩ := maskOf_v hls false (TBox.mk (IntKind.i64.wrap (r1 - 2)) (IntKind.i64.wrap (r2 - 2)) (IntKind.i64.wrap ((IntKind.i64.wrap ((IntKind.i64.wrap (r1 - 2)) + 1)) + r3)) (IntKind.i64.wrap ((IntKind.i64.wrap ((IntKind.i64.wrap (r2 - 2)) + 1)) + r4)))
  rw [e7, bnd_some]
  try dsimp only
  obtain ⟨b, c6, e8, k6⟩ := once_ok k5 (n := 3) (by omega)
  rw [e8, bnd_some]
  try dsimp only
  cases b
  · exact ⟨_, _, rfl, k6, hbits, hok⟩
  rw [cnd_true]
  obtain ⟨r, f1, f2⟩ := loopI_tot (f := spec_l11Mask_l0 bx) (fun s => 0 ≤ s.1 ∧ s.1 ≤ s.2.2.2.2.length ∧ CurOk ⟨s.2.1, s.2.2.1, s.2.2.2.1⟩ ∧ s.2.2.2.2.length ≤ 3600 ∧ maskOk ⟨bx, s.2.2.2.2⟩ = true) (fun r => CurOk ⟨r.1, r.2.1, r.2.2.1⟩ ∧ r.2.2.2.length ≤ 3600 ∧ maskOk ⟨bx, r.2.2.2⟩ = true) (fun s => ((s.2.2.2.2.length : Int) - s.1).toNat)
    (by
      rintro ⟨i, b, j, hh, l⟩ ⟨i0, i1, kc, hl, ho⟩
      dsimp only at i0 i1 kc hl ho
      rw [spec_l11Mask_l0]
      by_cases hi : (l.length : Int) ≤ i
      · right; rw [ilt hi, cnd_true]; exact ⟨_, rfl, kc, hl, ho⟩
      left
      obtain ⟨v, c7, e9, hm, k7⟩ := pick_ok kc (l := [0, 0, 15, 15, 3, 8]) (by simp)
      obtain ⟨q, hq, _⟩ := idx_of (l := l) (i := i) i0 (by omega)
      have hv : tin v 0 15 = true := by
        simp only [List.mem_cons, List.mem_nil_iff, or_false] at hm
        rw [tin_t]; omega
      rw [ilf (by omega), cnd_false, e9, bnd_some]
      try dsimp only
      rw [hq, bnd_some, nam_eq, wr_in (by omega)]
      exact ⟨_, rfl, ⟨by (try dsimp only) <;> omega, by simp <;> omega, k7, by simpa using hl, maskOk_set ho (by omega) hv⟩, by simp <;> omega⟩)
    (x := (0, c6.b, c6.i, c6.h, bits)) ⟨by omega, by (try dsimp only) <;> omega, k6, hbits, hok⟩
  rw [f1, bnd_some]
  exact ⟨_, _, rfl, f2.1, f2.2.1, f2.2.2⟩

/-! ## Rows: deleted from, put into -/
theorem slc_front {α : Type} {l n : List α} (h : l.take n.length = n) : slc l 0 (n.length : Int) = some n := by
  have h1 : n.length ≤ l.length := by
    have := congrArg List.length h
    rw [List.length_take] at this; omega
  unfold slc
  rw [if_pos (by omega)]
  simp only [Int.sub_zero, Int.toNat_natCast, Int.toNat_zero, List.drop_zero]
  rw [h]
theorem slc_some {α : Type} {l : List α} {a b : Nat} (h1 : a ≤ b) (h2 : b ≤ l.length) : slc l (a : Int) (b : Int) = some ((l.drop a).take (b - a)) := by
  unfold slc
  rw [if_pos (by omega)]
  have : ((b : Int) - (a : Int)).toNat = b - a := by omega
  simp only [this, Int.toNat_natCast]
theorem ovr_take {α : Type} {l s : List α} {k : Nat} (h : k ≤ l.length) : (ovr l k s).take (k + s.length) = l.take k ++ s := by
  unfold ovr
  rw [List.take_append_of_le_length (by simp only [List.length_append, List.length_take]; omega), List.take_of_length_le (by simp only [List.length_append, List.length_take]; omega)]
theorem clr_take {α : Type} {l : List α} {a k : Nat} {z : α} (h : a ≤ l.length) : (clrL l a k z).take a = l.take a := by
  unfold clrL
  rw [List.append_assoc, List.take_append_of_le_length (by rw [List.length_take]; omega), List.take_take, Nat.min_self]
theorem del_Kept {k i j : Nat} {l : List TKept} (hk : k ≤ l.length) (h1 : i ≤ j) (h2 : j ≤ k) (hl : l.length ≤ 1048576) :
    ∃ l', slices_Delete_Kept k (i : Int) (j : Int) l = some (l.take i ++ (l.take k).drop j, l') ∧ l'.take (l.take i ++ (l.take k).drop j).length = l.take i ++ (l.take k).drop j ∧ l'.length = l.length := by
  unfold slices_Delete_Kept
  rw [chkP_pos hk, chkP_pos (by omega)]
  by_cases hij : i = j
  · subst hij
    have e : l.take i ++ (l.take k).drop i = l.take k := by
      have := List.take_append_drop i (l.take k)
      rwa [List.take_take, Nat.min_eq_left h2] at this
    rw [iqt, cnd_true, e]
    exact ⟨l, rfl, by rw [List.length_take, Nat.min_eq_left hk], rfl⟩
  rw [iqf (by omega), cnd_false]
  have s1 := slc_some (l := l) (a := 0) (b := i) (by omega) (by omega)
  rw [List.drop_zero, Nat.sub_zero] at s1
  have s2 := slc_some (l := l) (a := j) (b := k) h2 hk
  have e2 : (l.drop j).take (k - j) = (l.take k).drop j := by rw [List.drop_take]
  rw [e2] at s2
  have s1' : slc l 0 (i : Int) = some (l.take i) := s1
  have l1 : (l.take i).length = i := by rw [List.length_take]; omega
  have l2 : ((l.take k).drop j).length = k - j := by rw [List.length_drop, List.length_take]; omega
  rw [s1', bnd_some, s2, bnd_some, l1, l2, chkP_pos (by omega), chkP_pos (by omega), nam_eq]
  have hov : (ovr l i ((l.take k).drop j)).length = l.length := ovr_len (by rw [l2]; omega)
  have ht := ovr_take (l := l) (s := (l.take k).drop j) (k := i) (by omega)
  rw [l2] at ht
  have hvl : (l.take i ++ (l.take k).drop j).length = i + (k - j) := by rw [List.length_append, l1, l2]
  have s3 : slc (ovr l i ((l.take k).drop j)) 0 ((i : Int) + ((k - j : Nat) : Int)) = some (l.take i ++ (l.take k).drop j) := by
    have := slc_front (l := ovr l i ((l.take k).drop j)) (n := l.take i ++ (l.take k).drop j) (by rw [hvl]; exact ht)
    rw [hvl] at this
    rwa [Int.natCast_add] at this
  rw [s3, bnd_some, hvl]
  have s4 := slc_some (l := ovr l i ((l.take k).drop j)) (a := i + (k - j)) (b := k) (by omega) (by rw [hov]; exact hk)
  rw [s4, bnd_some, nam_eq, Int.toNat_natCast]
  refine ⟨_, rfl, ?_, ?_⟩
  · rw [clr_take (by rw [hov]; omega), ht]
  · rw [clrL_len, hov]
    rw [List.length_take, List.length_drop, hov]; omega
theorem ins_Kept {k i : Nat} {l v : List TKept} (hk : k ≤ l.length) (h1 : i ≤ k) (hv : 0 < v.length) (hv2 : v.length ≤ 8) (he : k < l.length → k + v.length ≤ l.length ∨ i < k) (hl : l.length ≤ 1048576) :
    ∃ l', slices_Insert_Kept k (i : Int) l v = some (l.take i ++ v ++ (l.take k).drop i, l') ∧ l'.take (l.take i ++ v ++ (l.take k).drop i).length = l.take i ++ v ++ (l.take k).drop i ∧ l'.length ≤ l.length + 8 := by
  unfold slices_Insert_Kept
  have hvl : (l.take i ++ v ++ (l.take k).drop i).length = k + v.length := by
    simp only [List.length_append, List.length_take, List.length_drop]; omega
  by_cases hi : i = k
  · subst hi
    rw [iqt, cnd_true, chkP_pos hk, slc_some (Nat.le_refl _) hk, bnd_some, iqf (by omega), cnd_false]
    have hd : (l.take i).drop i = [] := List.drop_eq_nil_of_le (by rw [List.length_take]; omega)
    rw [hd, List.append_nil]
    by_cases hw : i = l.length
    · subst hw
      rw [iqt, cnd_true, chkP_pos (by omega), nam_eq, List.take_length]
      exact ⟨_, rfl, by rw [List.take_length], by rw [List.length_append]; omega⟩
    · have hf : i + v.length ≤ l.length := by rcases he (by omega) with h | h <;> omega
      rw [iqf (by omega), cnd_false, chkP_pos hf, chkP_pos (by omega), nam_eq]
      have ht := ovr_take (l := l) (s := v) (k := i) (by omega)
      have hl2 : (l.take i ++ v).length = i + v.length := by rw [List.length_append, List.length_take]; omega
      have s3 : slc (ovr l i v) 0 ((i : Int) + (v.length : Int)) = some (l.take i ++ v) := by
        have := slc_front (l := ovr l i v) (n := l.take i ++ v) (by rw [hl2]; exact ht)
        rw [hl2] at this
        rwa [Int.natCast_add] at this
      rw [s3, bnd_some]
      exact ⟨_, rfl, by rw [hl2]; exact ht, by rw [ovr_len hf]; omega⟩
  · rw [iqf (by omega), cnd_false, chkP_pos (by omega)]
    refine ⟨_, rfl, ?_, ?_⟩
    · unfold insR insL
      simp only [Int.toNat_natCast]
      exact List.take_left
    · rw [insR_len (by simp; omega) hk]; omega
/-! ## Caches: right ones, remembered, recalled, forgotten -/
theorem keptOk_len {k : TKept} (h : keptOk k = true) : k.mask.bits.length ≤ 3600 := by
  unfold keptOk maskOk at h
  split at h
  · rename_i h0; omega
  · simp only [Bool.and_eq_true, decide_eq_true_eq] at h
    have := mb_prod h.2.1.1; omega
theorem find_nodup {l : List TKept} (hn : (l.map (·.id)).Nodup) {i : Nat} (hi : i < l.length) : firstId l l[i].id = (i : Int) := by
  unfold firstId
  rw [fst_eq hi (by simp [ieq])]
  intro k hk
  have : l[k].id ≠ l[i].id := fun e => by
    have h1 : (l.map (·.id))[k]'(by rw [List.length_map]; omega) = (l.map (·.id))[i]'(by rw [List.length_map]; omega) := by simpa using e
    have := (List.getElem_inj hn).1 h1
    omega
  simp [ieq, this]
theorem cacheOk_iff {m : Int} {l : List TKept} : cacheOk ⟨m, l⟩ = true ↔ (1 ≤ m ∧ m ≤ 8) ∧ (l.length : Int) ≤ m ∧ (∀ k ∈ l, keptOk k = true) ∧ (l.map (·.id)).Nodup := by
  unfold cacheOk
  simp only [Bool.and_eq_true, tin_t, ile_t, List.all_eq_true, List.mem_range, and_assoc]
  refine and_congr Iff.rfl (and_congr Iff.rfl (and_congr Iff.rfl ?_))
  constructor
  · intro h
    refine ⟨fun k hk => ?_, ?_⟩
    · obtain ⟨i, hi, rfl⟩ := List.getElem_of_mem hk
      have := h i hi
      unfold keptP at this
      rw [List.getElem?_eq_getElem hi] at this
      simp only [Bool.and_eq_true] at this
      exact this.1
    · unfold List.Nodup
      rw [List.pairwise_iff_getElem]
      intro i j hi hj hij e
      rw [List.length_map] at hi hj
      simp only [List.getElem_map] at e
      have a := h i hi
      have b := h j hj
      unfold keptP at a b
      rw [List.getElem?_eq_getElem hi] at a
      rw [List.getElem?_eq_getElem hj] at b
      simp only [Bool.and_eq_true, decide_eq_true_eq] at a b
      rw [e] at a
      have := a.2.symm.trans b.2
      omega
  · rintro ⟨h1, h2⟩ i hi
    unfold keptP
    rw [List.getElem?_eq_getElem hi]
    simp only [Bool.and_eq_true, decide_eq_true_eq]
    exact ⟨h1 _ (List.getElem_mem hi), find_nodup h2 hi⟩
structure SmallC (l : List TKept) : Prop where
  n : l.length ≤ 100
  b : ∀ k ∈ l, k.mask.bits.length ≤ 3600
theorem SmallC.rows {l : List TKept} (h : SmallC l) : okRows l := ⟨by have := h.n; omega, fun x hx => by have := h.b x hx; omega⟩
theorem small_of {m : Int} {l : List TKept} (h : cacheOk ⟨m, l⟩ = true) : SmallC l := by
  rw [cacheOk_iff] at h
  exact ⟨by omega, fun k hk => keptOk_len (h.2.2.1 k hk)⟩
theorem m_copyMask {m : TMask} (h : m.bits.length ≤ 3600) : impl_copyMask m = some m := by
  unfold impl_copyMask slices_Clone_int
  rw [chkP_pos (by omega), bnd_some]
theorem m_copyCache {m : Int} {l : List TKept} (h : SmallC l) : impl_copyCache ⟨m, l⟩ = some (m, l) := by
  have hn := h.n
  unfold impl_copyCache
  rw [copy_loop (l := l) (fun i hi => ?_) ?_, bnd_some]
  · rw [impl_copyCache_l0]
    dsimp only
    rw [ilt (by omega), cnd_true]
  · rw [impl_copyCache_l0]
    dsimp only
    rw [ilf (by omega), cnd_false, idx_nat hi, bnd_some, m_copyMask (h.b _ (List.getElem_mem hi)), bnd_some, chkP_pos (by rw [List.length_take]; omega), nam_eq, wr_in (by omega)]
    rfl
/-- What a mask put ahead of all makes of a row. -/
def frontL (k : TKept) (m : Int) (l : List TKept) : List TKept := (k :: (if 0 ≤ firstId l k.id then l.take (firstId l k.id).toNat ++ l.drop ((firstId l k.id).toNat + 1) else l)).take m.toNat
theorem first_lt {l : List TKept} {id : Int} (h : 0 ≤ firstId l id) : (firstId l id).toNat < l.length := by
  obtain ⟨x, hx⟩ := fst_in (q := fun k : TKept => ieq k.id id) (l := l) h
  exact (idx_toNat hx).2.1
theorem toFront_ok {k : TKept} {m : Int} {l : List TKept} (hm : 0 ≤ m) (h : SmallC l) : ∃ l', impl_Cache_toFront k m l = some (m, frontL k m l, l') ∧ slc l' 0 ((frontL k m l).length : Int) = some (frontL k m l) := by
  have hn := h.n
  unfold impl_Cache_toFront frontL
  rw [m_keptAt (by (try dsimp only) <;> omega), bnd_some]
  -- the last cut
  have cut : ∀ (r : List TKept) (L : List TKept), r.take L.length = L → L.length ≤ r.length → r.length ≤ 1000 → ∃ l', (cnd (ile (L.length : Int) m) (some (m, L, r)) (bnd (slices_Delete_Kept L.length m (L.length : Int) r) fun (w11, w12) => bnd (slc w12 0 (List.length w11 : Int)) fun v13 => some (m, v13, w12))) = some (m, L.take m.toNat, l') ∧ slc l' 0 ((L.take m.toNat).length : Int) = some (L.take m.toNat) := by
    intro r L h1 h2 h3
    by_cases hc : (L.length : Int) ≤ m
    · rw [ilt hc, cnd_true, List.take_of_length_le (by omega)]
      exact ⟨r, rfl, slc_front h1⟩
    · rw [ilf (by omega), cnd_false]
      obtain ⟨l', d1, d2, d3⟩ := del_Kept (k := L.length) (i := m.toNat) (j := L.length) (l := r) h2 (by omega) (Nat.le_refl _) (by omega)
      have hd : (r.take L.length).drop L.length = [] := List.drop_eq_nil_of_le (by rw [List.length_take]; omega)
      have ht : r.take m.toNat = L.take m.toNat := by
        have := congrArg (List.take m.toNat) h1
        rwa [List.take_take, Nat.min_eq_left (by omega)] at this
      rw [hd, List.append_nil, ht] at d1 d2
      have hmm : (m.toNat : Int) = m := by omega
      rw [hmm] at d1
      rw [d1, bnd_some]
      try dsimp only
      rw [slc_front d2, bnd_some]
      exact ⟨l', rfl, slc_front d2⟩
  by_cases ha : 0 ≤ firstId l k.id
  · have hlt := first_lt ha
    obtain ⟨i, hi⟩ : ∃ i : Nat, firstId l k.id = (i : Int) := ⟨(firstId l k.id).toNat, by omega⟩
    rw [hi] at ha hlt ⊢
    simp only [Int.toNat_natCast] at hlt ⊢
    rw [ilt ha, cnd_true, if_pos ha, wr_in (by omega)]
    obtain ⟨l1, d1, d2, d3⟩ := del_Kept (k := l.length) (i := i) (j := i + 1) (l := l) (Nat.le_refl _) (by omega) hlt (by omega)
    rw [List.take_length, Int.natCast_add] at d1
    rw [List.take_length] at d2
    have d1' : slices_Delete_Kept l.length (i : Int) ((i : Int) + 1) l = some (l.take i ++ l.drop (i + 1), l1) := d1
    rw [d1', bnd_some]
    try dsimp only
    rw [slc_front d2, bnd_some]
    have e1 : (l.take i ++ l.drop (i + 1)).length = l.length - 1 := by simp only [List.length_append, List.length_take, List.length_drop]; omega
    obtain ⟨l2, i1, i2, i3⟩ := ins_Kept (k := (l.take i ++ l.drop (i + 1)).length) (i := 0) (l := l1) (v := [k]) (by omega) (by omega) (by simp) (by simp) (fun hx => .inl (by simp; omega)) (by omega)
    rw [d2] at i1 i2
    simp only [List.take_zero, List.nil_append, List.drop_zero, List.singleton_append] at i1 i2
    have i1' : slices_Insert_Kept (l.take i ++ l.drop (i + 1)).length 0 l1 [k] = some (k :: (l.take i ++ l.drop (i + 1)), l2) := i1
    rw [i1', bnd_some]
    try dsimp only
    rw [slc_front i2, bnd_some]
    exact cut l2 _ i2 (by have := congrArg List.length i2; rw [List.length_take] at this; omega) (by omega)
  · rw [ilf (by (try dsimp only) <;> omega), cnd_false, if_neg ha]
    obtain ⟨l2, i1, i2, i3⟩ := ins_Kept (k := l.length) (i := 0) (l := l) (v := [k]) (Nat.le_refl _) (by omega) (by simp) (by simp) (fun hx => absurd hx (by omega)) (by omega)
    simp only [List.take_zero, List.nil_append, List.drop_zero, List.singleton_append, List.take_length] at i1 i2
    have i1' : slices_Insert_Kept l.length 0 l [k] = some (k :: l, l2) := i1
    rw [i1', bnd_some]
    try dsimp only
    rw [slc_front i2, bnd_some]
    exact cut l2 _ i2 (by have := congrArg List.length i2; rw [List.length_take] at this; omega) (by omega)
theorem m_Remember {m id : Int} {l : List TKept} {mk : TMask} (h : SmallC l) (hb : mk.bits.length ≤ 3600) : impl_Remember ⟨m, l⟩ id mk = some (if (tin id 1 99 && maskOk mk && cacheOk ⟨m, l⟩) = true then ⟨m, frontL ⟨id, mk⟩ m l⟩ else ⟨m, l⟩) := by
  unfold impl_Remember
  rw [m_copyCache h, bnd_some]
  try dsimp only
  rw [m_impl_inRange, bnd_some]
  cases tin id 1 99 with
  | false => simp
  | true =>
  rw [cnd_true, m_impl_MaskOk (by omega), bnd_some]
  cases maskOk mk with
  | false => simp
  | true =>
  rw [cnd_true, m_impl_CacheOk h.rows, bnd_some]
  cases hc : cacheOk ⟨m, l⟩ with
  | false => simp
  | true =>
  obtain ⟨l', f1, f2⟩ := toFront_ok (k := ⟨id, mk⟩) (m := m) (l := l) (by rw [cacheOk_iff] at hc; omega) h
  rw [cnd_true, m_copyMask hb, bnd_some, f1, bnd_some]
  try dsimp only
  rw [f2, bnd_some]; rfl
theorem m_Recall {m id : Int} {l : List TKept} (h : SmallC l) : impl_Recall ⟨m, l⟩ id = some (match idx l (firstId l id) with
    | some k => if cacheOk ⟨m, l⟩ = true then (⟨m, frontL k m l⟩, k.mask, true) else (⟨m, l⟩, ⟨⟨0, 0, 0, 0⟩, []⟩, false)
    | none => (⟨m, l⟩, ⟨⟨0, 0, 0, 0⟩, []⟩, false)) := by
  have hn := h.n
  unfold impl_Recall
  rw [m_copyCache h, bnd_some]
  try dsimp only
  rw [m_keptAt (by (try dsimp only) <;> omega), bnd_some]
  try dsimp only
  by_cases ha : 0 ≤ firstId l id
  · obtain ⟨k, hk0⟩ := fst_in (q := fun k : TKept => ieq k.id id) (l := l) ha
    have hk : idx l (firstId l id) = some k := hk0
    have hmem : k ∈ l := List.mem_of_getElem? (idx_toNat hk).2.2
    rw [ilt ha, cnd_true, m_impl_CacheOk h.rows, bnd_some, hk]
    cases hc : cacheOk ⟨m, l⟩ with
    | false => simp
    | true =>
      obtain ⟨l', f1, f2⟩ := toFront_ok (k := k) (m := m) (l := l) (by rw [cacheOk_iff] at hc; omega) h
      rw [cnd_true, bnd_some, f1, bnd_some]
      try dsimp only
      rw [bnd_some, m_copyMask (h.b k hmem), bnd_some, f2, bnd_some]; rfl
  · have hk : idx l (firstId l id) = none := by unfold idx; rw [if_neg ha]
    rw [ilf (by omega), cnd_false, hk]

/-! ## Deleting by a test; what is first -/
theorem fst_cases {α : Type} (q : α → Bool) (l : List α) : (fst q l = -1 ∧ ∀ x ∈ l, q x = false) ∨ ∃ (i : Nat) (hi : i < l.length), fst q l = (i : Int) ∧ q l[i] = true ∧ ∀ (k : Nat) (hk : k < i), q l[k] = false := by
  unfold fst
  cases h : l.findIdx? q with
  | none => exact .inl ⟨rfl, List.findIdx?_eq_none_iff.1 h⟩
  | some i =>
    obtain ⟨hi, h1, h2⟩ := List.findIdx?_eq_some_iff_getElem.1 h
    exact .inr ⟨i, hi, rfl, h1, fun k hk => by simpa using h2 k hk⟩
theorem filter_take_succ {α : Type} {p : α → Bool} {l : List α} {j : Nat} (hj : j < l.length) : (l.take (j + 1)).filter p = (l.take j).filter p ++ (if p l[j] then [l[j]] else []) := by
  rw [List.take_add_one, List.getElem?_eq_getElem hj, List.filter_append]
  congr 1
  simp only [Option.toList, List.filter_cons, List.filter_nil]
theorem m_Index {l : List Int} {x : Int} (h : l.length ≤ 1048576) : slices_Index_int l x = some (fst (fun y => ieq x y) l) := by
  unfold slices_Index_int
  rw [loopI_index (l := l) (fun y => ieq x y) (.inl ()) .inr (by omega) (fun i hi => ?_) ?_]
  · unfold fst
    cases List.findIdx? (fun y => ieq x y) l <;> rfl
  · rw [slices_Index_int_l0, ilt (by omega), cnd_true]
  · rw [slices_Index_int_l0, ilf (by omega), cnd_false, idx_nat hi, bnd_some]
def isIn (x : Int) (l : List Int) : Bool := l.any fun y => ieq x y
theorem m_Contains {l : List Int} {x : Int} (h : l.length ≤ 1048576) : slices_Contains_int l x = some (isIn x l) := by
  unfold slices_Contains_int
  rw [m_Index h, bnd_some]
  congr 1
  unfold isIn
  rcases fst_cases (fun y => ieq x y) l with ⟨h1, h2⟩ | ⟨i, hi, h1, h2, _⟩
  · rw [h1, ilf (by omega)]
    symm
    rw [List.any_eq_false]
    intro y hy; simpa using h2 y hy
  · rw [h1, ilt (by omega)]
    symm
    rw [List.any_eq_true]
    exact ⟨_, List.getElem_mem hi, h2⟩
theorem idxf_Forget {l : List TKept} {ids : List Int} (h : ids.length ≤ 1048576) (hn : l.length ≤ 1048576) : slices_IndexFunc_Kept_Forget_1 l ids = some (fst (fun k => isIn k.id ids) l) := by
  unfold slices_IndexFunc_Kept_Forget_1
  rw [loopI_index (l := l) (fun k => isIn k.id ids) (.inl ()) .inr (by omega) (fun i hi => ?_) ?_]
  · unfold fst
    cases List.findIdx? (fun k : TKept => isIn k.id ids) l <;> rfl
  · rw [slices_IndexFunc_Kept_Forget_1_l0, ilt (by omega), cnd_true]
  · rw [slices_IndexFunc_Kept_Forget_1_l0, ilf (by omega), cnd_false, idx_nat hi, bnd_some, impl_Forget_1, m_Contains h, bnd_some, bnd_some]
theorem delf_Forget {l : List TKept} {ids : List Int} (h : ids.length ≤ 1048576) (hn : l.length ≤ 1048576) :
    ∃ l', slices_DeleteFunc_Kept_Forget_1 l ids = some (l.filter (fun k => !isIn k.id ids), l') ∧ l'.take (l.filter (fun k => !isIn k.id ids)).length = l.filter (fun k => !isIn k.id ids) ∧ l'.length = l.length := by
  unfold slices_DeleteFunc_Kept_Forget_1
  rw [idxf_Forget h hn, bnd_some]
  rcases fst_cases (fun k : TKept => isIn k.id ids) l with ⟨h1, h2⟩ | ⟨i0, hi0, h1, h2, h3⟩
  · have e : l.filter (fun k => !isIn k.id ids) = l := List.filter_eq_self.2 fun a ha => by simp [h2 a ha]
    rw [h1, iqt, cnd_true, e]
    exact ⟨l, rfl, List.take_length, rfl⟩
  rw [h1, iqf (by omega), cnd_false, wr_in (by omega)]
  have st : (l.take (i0 + 1)).filter (fun k => !isIn k.id ids) = l.take i0 := by
    rw [filter_take_succ hi0, h2]
    simp only [Bool.not_true, Bool.false_eq_true, if_false, List.append_nil]
    refine List.filter_eq_self.2 fun a ha => ?_
    obtain ⟨k, hk, rfl⟩ := List.getElem_of_mem ha
    rw [List.length_take] at hk
    rw [List.getElem_take, h3 k (by omega)]; rfl
  obtain ⟨⟨y1, y2⟩, r1, i, q1, q2, q3, q4⟩ := loopI_tot (f := slices_DeleteFunc_Kept_Forget_1_l0 ids)
    (fun s => ∃ j i : Nat, s.1 = (j : Int) ∧ s.2.1 = (i : Int) ∧ i < j ∧ j ≤ l.length ∧ s.2.2.length = l.length ∧ s.2.2.take i = (l.take j).filter (fun k => !isIn k.id ids) ∧ s.2.2.drop j = l.drop j)
    (fun r => ∃ i : Nat, r.2 = (i : Int) ∧ i ≤ l.length ∧ r.1.take i = l.filter (fun k => !isIn k.id ids) ∧ r.1.length = l.length) (fun s => (l.length - s.1).toNat)
    (by
      rintro ⟨x6, x7, x8⟩ ⟨j, i, rfl, rfl, hij, hj, hl, ht, hd⟩
      dsimp only at hl ht hd ⊢
      rw [slices_DeleteFunc_Kept_Forget_1_l0]
      by_cases hj2 : l.length ≤ j
      · right
        have : j = l.length := by omega
        subst this
        rw [ilt (by omega), cnd_true]
        exact ⟨_, rfl, i, rfl, by omega, by rw [ht, List.take_length], hl⟩
      left
      have hj3 : j < l.length := by omega
      have hx : x8[j]'(by omega) = l[j] := by
        have h1 : (x8.drop j)[0]? = (l.drop j)[0]? := by rw [hd]
        rw [List.getElem?_drop, List.getElem?_drop, Nat.add_zero, List.getElem?_eq_getElem (by omega), List.getElem?_eq_getElem hj3] at h1
        exact Option.some.inj h1
      rw [ilf (by omega), cnd_false, idx_nat (by omega), bnd_some, hx, impl_Forget_1, m_Contains h, bnd_some, bnd_some]
      have hd1 : x8.drop (j + 1) = l.drop (j + 1) := by
        have := congrArg (List.drop 1) hd
        rwa [List.drop_drop, List.drop_drop] at this
      cases hg : isIn l[j].id ids with
      | true =>
        rw [cnd_true, wr_in (by omega)]
        refine ⟨_, rfl, ⟨j + 1, i, by simp, rfl, by omega, by omega, hl, ?_, hd1⟩, by (try dsimp only) <;> omega⟩
        try dsimp only
        rw [filter_take_succ hj3, hg, ht]; simp
      | false =>
        rw [cnd_false, idx_nat (by omega), bnd_some, nam_eq, wr_in (by omega), wr_in (by omega)]
        refine ⟨_, rfl, ⟨j + 1, i + 1, by simp, by simp, by omega, by omega, by (try dsimp only) <;> rw [List.length_set] <;> exact hl, ?_, ?_⟩, by (try dsimp only) <;> omega⟩
        · try dsimp only
          rw [filter_take_succ hj3, hg, ← ht, Int.toNat_natCast, List.take_add_one, List.getElem?_set_self (by omega), List.take_set_of_le (Nat.le_refl _)]; simp
        · try dsimp only
          rw [Int.toNat_natCast, List.drop_set_of_lt (by omega)]; exact hd1)
    (x := ((i0 : Int) + 1, (i0 : Int), l)) ⟨i0 + 1, i0, by simp, rfl, by omega, by omega, rfl, by (try dsimp only) <;> rw [st], rfl⟩
  dsimp only at q1 q3 q4
  subst q1
  rw [r1, bnd_some]
  try dsimp only
  rw [slc_some (by omega) (Nat.le_refl _), bnd_some, nam_eq, Int.toNat_natCast]
  have hlen : (l.filter (fun k => !isIn k.id ids)).length = i := by rw [← q3, List.length_take]; omega
  have hcl : ((clrL y1 i ((y1.drop i).take (y1.length - i)).length (⟨0, ⟨⟨0, 0, 0, 0⟩, []⟩⟩ : TKept)).take i) = l.filter (fun k => !isIn k.id ids) := by
    rw [clr_take (by omega), q3]
  have hcn : (clrL y1 i ((y1.drop i).take (y1.length - i)).length (⟨0, ⟨⟨0, 0, 0, 0⟩, []⟩⟩ : TKept)).length = l.length := by
    rw [clrL_len, q4]
    rw [List.length_take, List.length_drop]; omega
  have s5 := slc_front (l := clrL y1 i ((y1.drop i).take (y1.length - i)).length (⟨0, ⟨⟨0, 0, 0, 0⟩, []⟩⟩ : TKept)) (n := l.filter (fun k => !isIn k.id ids)) (by rw [hlen]; exact hcl)
  rw [hlen] at s5
  rw [s5, bnd_some]
  exact ⟨_, rfl, by rw [hlen]; exact hcl, hcn⟩
theorem m_Forget {m : Int} {l : List TKept} {ids : List Int} (h : SmallC l) (hi : ids.length ≤ 1048576) : impl_Forget ⟨m, l⟩ ids = some ⟨m, l.filter (fun k => !isIn k.id ids)⟩ := by
  have hn := h.n
  unfold impl_Forget
  obtain ⟨l', d1, d2, d3⟩ := delf_Forget (l := l) hi (by omega)
  rw [m_copyCache h, bnd_some]
  try dsimp only
  rw [d1, bnd_some]
  try dsimp only
  rw [slc_front d2, bnd_some]
theorem front_eq {k : TKept} {m : Int} {l : List TKept} (hn : (l.map (·.id)).Nodup) : frontL k m l = (k :: l.filter (fun y => !ieq y.id k.id)).take m.toNat := by
  unfold frontL
  congr 2
  unfold firstId
  rcases fst_cases (fun y : TKept => ieq y.id k.id) l with ⟨h1, h2⟩ | ⟨i, hi, h1, h2, h3⟩
  · rw [h1, if_neg (by omega)]
    exact (List.filter_eq_self.2 fun a ha => by simp [h2 a ha]).symm
  · rw [h1, if_pos (by omega), Int.toNat_natCast]
    have e : l = l.take i ++ l[i] :: l.drop (i + 1) := by
      rw [List.getElem_cons_drop, List.take_append_drop]
    have hne : ∀ (j : Nat) (hj : j < l.length), j ≠ i → ieq l[j].id k.id = false := fun j hj hji => by
      have hki : l[i].id = k.id := by simpa [ieq] using h2
      rw [← hki]
      refine iqf fun e => hji ?_
      have h1 : (l.map (·.id))[j]'(by rw [List.length_map]; omega) = (l.map (·.id))[i]'(by rw [List.length_map]; omega) := by simpa using e
      exact (List.getElem_inj hn).1 h1
    conv => rhs; rw [e]
    rw [List.filter_append, List.filter_cons, h2]
    simp only [Bool.not_true, Bool.false_eq_true, if_false]
    congr 1
    · symm
      refine List.filter_eq_self.2 fun a ha => ?_
      obtain ⟨j, hj, rfl⟩ := List.getElem_of_mem ha
      rw [List.length_take] at hj
      rw [List.getElem_take, hne j (by omega) (by omega)]; rfl
    · symm
      refine List.filter_eq_self.2 fun a ha => ?_
      obtain ⟨j, hj, rfl⟩ := List.getElem_of_mem ha
      rw [List.length_drop] at hj
      rw [List.getElem_drop, hne _ (by omega) (by omega)]; rfl
theorem front_ok {k : TKept} {m : Int} {l : List TKept} (h : cacheOk ⟨m, l⟩ = true) (hk : keptOk k = true) : cacheOk ⟨m, frontL k m l⟩ = true := by
  rw [cacheOk_iff] at h ⊢
  obtain ⟨h1, h2, h3, h4⟩ := h
  rw [front_eq h4]
  refine ⟨h1, by rw [List.length_take]; omega, fun x hx => ?_, ?_⟩
  · have := List.mem_of_mem_take hx
    rcases List.mem_cons.1 this with rfl | hx
    · exact hk
    · exact h3 x (List.mem_filter.1 hx).1
  · refine List.Nodup.sublist ((List.take_sublist _ _).map _) ?_
    rw [List.map_cons, List.nodup_cons]
    refine ⟨fun hm => ?_, List.Nodup.sublist (List.filter_sublist.map _) h4⟩
    obtain ⟨y, hy, he⟩ := List.mem_map.1 hm
    have := (List.mem_filter.1 hy).2
    rw [he, iqt] at this; cases this
theorem m_l21Copy {m : Int} {l : List TKept} (h : SmallC l) : spec_l21Copy ⟨m, l⟩ = some ⟨m, l⟩ := by
  have hn := h.n
  unfold spec_l21Copy
  rw [copy_loop (l := l) (fun i hi => ?_) ?_, bnd_some]
  · rw [spec_l21Copy_l0]
    dsimp only
    rw [ilt (by omega), cnd_true]
  · rw [spec_l21Copy_l0]
    dsimp only
    have hb := h.b _ (List.getElem_mem hi)
    rw [ilf (by omega), cnd_false, idx_nat hi, bnd_some, spec_l21CopyMask, chkP_pos (by omega), nam_eq, bnd_some, chkP_pos (by rw [List.length_take]; omega), nam_eq, wr_in (by omega)]
    rfl
theorem m_First {m id : Int} {l : List TKept} {mk : TMask} (h : cacheOk ⟨m, l⟩ = true) (hk : keptOk ⟨id, mk⟩ = true) : spec_l21First ⟨m, l⟩ id mk = some ⟨m, frontL ⟨id, mk⟩ m l⟩ := by
  have hs := small_of (front_ok h hk)
  have hc := h
  rw [cacheOk_iff] at hc
  obtain ⟨h1, h2, h3, h4⟩ := hc
  unfold spec_l21First
  have key := loopI_n (f := spec_l21First_l0 ⟨m, l⟩ id) (fun i => ((i : Int), ((⟨id, mk⟩ : TKept) :: (l.take i).filter (fun y => !ieq y.id id)).take m.toNat)) l.length (r := frontL ⟨id, mk⟩ m l) (fun i hi => ?_) ?_
  · have e0 : ((⟨id, mk⟩ : TKept) :: (l.take 0).filter (fun y => !ieq y.id id)).take m.toNat = [⟨id, mk⟩] := by
      rw [List.take_zero, List.filter_nil]; exact List.take_of_length_le (by simp; omega)
    have e : loopI (spec_l21First_l0 ⟨m, l⟩ id) (0, [⟨id, mk⟩]) = some (frontL ⟨id, mk⟩ m l) := by
      have := key
      rw [e0] at this
      exact this
    rw [e, bnd_some]
    try dsimp only
    rw [m_l21Copy hs, bnd_some]
  · try dsimp only
    rw [spec_l21First_l0]
    try dsimp only
    rw [ilf (by omega), cnd_false, idx_nat hi, bnd_some, wr_in (by omega)]
    rw [filter_take_succ hi]
    cases hq : ieq l[i].id id with
    | true => rw [cnd_true]; simp
    | false =>
      rw [cnd_false]
      simp only [Bool.not_false, if_true]
      obtain ⟨L, hL⟩ : ∃ L, L = (⟨id, mk⟩ : TKept) :: (l.take i).filter (fun y => !ieq y.id id) := ⟨_, rfl⟩
      rw [← List.cons_append, ← hL]
      by_cases hf : m.toNat ≤ L.length
      · rw [ilt (by rw [List.length_take]; omega), cnd_true, List.take_append_of_le_length hf]; simp
      · have hlen : L.length ≤ 100 := by
          rw [hL, List.length_cons]
          have a1 := List.length_filter_le (fun y : TKept => !ieq y.id id) (l.take i)
          rw [List.length_take] at a1; omega
        rw [List.take_of_length_le (by omega : L.length ≤ m.toNat), ilf (by omega), cnd_false, chkP_pos (by omega), nam_eq, List.take_of_length_le (by rw [List.length_append]; simp; omega)]
        simp
  · rw [spec_l21First_l0]
    dsimp only
    rw [ilt (by omega), cnd_true, List.take_length, front_eq h4]
theorem m_sRemember {m id : Int} {l : List TKept} {mk : TMask} (h : cacheOk ⟨m, l⟩ = true) (hi : tin id 1 99 = true) (hm : maskOk mk = true) (hb : mk.bits.length ≤ 3600) : spec_Remember ⟨m, l⟩ id mk = some ⟨m, frontL ⟨id, mk⟩ m l⟩ := by
  unfold spec_Remember
  rw [m_spec_CacheOk (small_of h).rows, h, bnd_some, cnd_true, m_spec_l01In, hi, bnd_some, cnd_true, m_spec_MaskOk (by omega), hm, bnd_some, cnd_true, m_First h (by unfold keptOk; rw [hi, hm]; rfl), bnd_some]
theorem cache_ok {c : TL01Cur} (h : CurOk c) : ∃ x c', spec_l21Cache c = some (x, c') ∧ CurOk c' ∧ cacheOk x = true := by
  unfold spec_l21Cache
  obtain ⟨r1, c1, e1, p1, p2, k1⟩ := below_ok h (n := 4) (by omega)
  rw [e1, bnd_some]
  try dsimp only
  rw [wr_in (n := 1 + r1) (by omega)]
  obtain ⟨⟨y1, y2, y3, y4, y5⟩, f1, f2, f3⟩ := loopI_tot (f := spec_l21Cache_l0) (fun s => 0 ≤ s.1 ∧ s.1 ≤ 6 ∧ CurOk ⟨s.2.1, s.2.2.1, s.2.2.2.1⟩ ∧ cacheOk ⟨s.2.2.2.2.1, s.2.2.2.2.2⟩ = true) (fun r => CurOk ⟨r.1, r.2.1, r.2.2.1⟩ ∧ cacheOk ⟨r.2.2.2.1, r.2.2.2.2⟩ = true) (fun s => (6 - s.1).toNat)
    (by
      rintro ⟨i, b, j, hh, m, l⟩ ⟨i0, i1, kc, hc⟩
      dsimp only at i0 i1 kc hc
      obtain ⟨r2, c2, e2, p3, p4, k2⟩ := below_ok kc (n := 6) (by omega)
      rw [spec_l21Cache_l0, e2, bnd_some]
      try dsimp only
      by_cases hi : r2 ≤ i
      · right; rw [ilt hi, cnd_true]; exact ⟨_, rfl, k2, hc⟩
      left
      obtain ⟨r3, c3, e3, p5, p6, k3⟩ := below_ok k2 (n := 6) (by omega)
      obtain ⟨mk, c4, e4, k4, hb, hm⟩ := mask_v k3
      rw [ilf (by omega), cnd_false, e3, bnd_some]
      try dsimp only
      rw [e4, bnd_some]
      try dsimp only
      rw [wr_in (n := 1 + r3) (by omega), m_sRemember hc (by rw [tin_t]; omega) hm hb, bnd_some, wr_in (by omega)]
      exact ⟨_, rfl, ⟨by (try dsimp only) <;> omega, by (try dsimp only) <;> omega, k4, front_ok hc (by unfold keptOk; rw [hm, Bool.and_true, tin_t]; (try dsimp only); omega)⟩, by (try dsimp only) <;> omega⟩)
    (x := (0, c1.b, c1.i, c1.h, 1 + r1, [])) ⟨by omega, by (try dsimp only) <;> omega, k1, by show cacheOk ⟨1 + r1, []⟩ = true; rw [cacheOk_iff]; exact ⟨by omega, by simp; omega, by simp, by simp⟩⟩
  rw [f1, bnd_some]
  exact ⟨_, _, rfl, f2, f3⟩
theorem m_sameMask {m : TMask} (h : m.bits.length ≤ 1048576) : laws_sameMask m m = some true := by
  unfold laws_sameMask
  rw [m_sameInts h]
  simp [andB]
theorem m_FnCaches {a : List Int} (_ : okL (okN .u8) a) : laws_FnCaches a = some true := by
  unfold laws_FnCaches laws_big
  rw [bnd_some]
  by_cases hbig : (a.length : Int) ≤ 1048576
  case neg => rw [ilf (by omega)]; rfl
  rw [ilt hbig]
  simp only [Bool.not_true, cnd_false]
  -- the cache
  obtain ⟨c0, n1, n2⟩ := new_ok a (by omega)
  obtain ⟨⟨m, l⟩, c1, e1, _, hc⟩ := cache_ok n2
  have eC : spec_DrawRightCache a = some ⟨m, l⟩ := by unfold spec_DrawRightCache; rw [n1, bnd_some, e1, bnd_some]
  -- the mask
  obtain ⟨mk, c2, e2, k2, hb, hm⟩ := mask_v n2
  obtain ⟨mk2, c3, e3, _, _, _⟩ := mask_v k2
  have eM : spec_DrawMasks a = some (mk, mk2) := by
    unfold spec_DrawMasks
    rw [n1, bnd_some, e2, bnd_some]
    try dsimp only
    rw [e3, bnd_some]
  obtain ⟨pl, eP, pl12, plb⟩ := places_ok (a := a) (by omega)
  obtain ⟨v7, hv7, hv7m⟩ := idx_of (l := pl) (i := 0) (by omega) (by omega)
  have hv := plb v7 hv7m
  rw [eC, bnd_some, eM, bnd_some]
  try dsimp only
  rw [eP, bnd_some, hv7, bnd_some]
  obtain ⟨id, hid⟩ : ∃ id, id = IntKind.i64.wrap (1 + Int.tmod v7 6) := ⟨_, rfl⟩
  have hid1 : 1 ≤ id ∧ id ≤ 6 := by
    rw [hid, Int.tmod_eq_emod_of_nonneg (by omega), wr_in (by omega)]; omega
  have hti : tin id 1 99 = true := by rw [tin_t]; omega
  have hk : keptOk ⟨id, mk⟩ = true := by unfold keptOk; rw [hti, hm]; rfl
  have hcc := hc
  rw [cacheOk_iff] at hcc
  obtain ⟨c1', c2', c3', c4'⟩ := hcc
  have hs := small_of hc
  rw [← hid, m_Remember hs hb, hti, hm, hc]
  simp only [Bool.and_self, if_true, bnd_some]
  have ha := front_ok hc hk
  have hsa := small_of ha
  have hac := ha
  rw [cacheOk_iff] at hac
  obtain ⟨a1, a2, a3, a4⟩ := hac
  have hfe := front_eq (k := ⟨id, mk⟩) (m := m) c4'
  obtain ⟨A, hA⟩ : ∃ A, A = frontL ⟨id, mk⟩ m l := ⟨_, rfl⟩
  rw [← hA] at ha hsa a2 a3 a4 hfe ⊢
  obtain ⟨M, hM⟩ : ∃ M : Nat, m = (M : Int) + 1 := ⟨(m - 1).toNat, by omega⟩
  have hA0 : A = (⟨id, mk⟩ : TKept) :: (l.filter (fun y => !ieq y.id id)).take M := by
    rw [hfe, hM, show ((M : Int) + 1).toNat = M + 1 by omega, List.take_succ_cons]
  have hAl : 0 < A.length := by rw [hA0]; simp
  have hAg : A[0] = (⟨id, mk⟩ : TKept) := by simp [hA0]
  have hf0 : firstId A id = 0 := by
    have := find_nodup a4 hAl
    rw [hAg] at this; simpa using this
  have hi0 : idx A 0 = some ⟨id, mk⟩ := by rw [hA0]; rfl
  have hf1 : firstId A id = ((0 : Nat) : Int) := hf0
  -- recalled
  rw [m_Recall hsa, hf0, hi0]
  dsimp only
  rw [if_pos ha, bnd_some]
  dsimp only
  -- forgotten
  rw [m_Forget hsa (by simp), bnd_some]
  have hFl : A.filter (fun k => !isIn k.id [id]) = A.drop 1 := by
    rw [hA0]
    have hx : ∀ x ∈ (l.filter (fun y => !ieq y.id id)).take M, (!isIn x.id [id]) = true := fun x hx => by
      have := (List.mem_filter.1 (List.mem_of_mem_take hx)).2
      simpa [isIn] using this
    rw [List.filter_cons, if_neg (by simp [isIn, iqt]), List.filter_eq_self.2 hx]; rfl
  rw [hFl]
  have hD : A.drop 1 = (l.filter (fun y => !ieq y.id id)).take M := by rw [hA0]; rfl
  have hF : cacheOk ⟨m, A.drop 1⟩ = true := by
    rw [cacheOk_iff]
    exact ⟨a1, by rw [List.length_drop]; omega, fun k hk => a3 k (List.mem_of_mem_drop hk), List.Nodup.sublist ((List.drop_sublist _ _).map _) a4⟩
  have hfn : firstId (A.drop 1) id = -1 := by
    rcases fst_cases (fun k : TKept => ieq k.id id) (A.drop 1) with ⟨q1, _⟩ | ⟨i, hi, q1, q2, _⟩
    · exact q1
    · exfalso
      have hmem : (A.drop 1)[i] ∈ (l.filter (fun y => !ieq y.id id)).take M := by rw [← hD]; exact List.getElem_mem hi
      have := (List.mem_filter.1 (List.mem_of_mem_take hmem)).2
      rw [q2] at this; cases this
  rw [m_Recall (small_of hF), hfn]
  have hnn : idx (A.drop 1) (-1) = none := rfl
  rw [hnn]
  dsimp only
  rw [bnd_some]
  dsimp only
  have hbo := front_ok ha hk
  rw [m_impl_CacheOk hsa.rows, ha, bnd_some, cnd_true, m_impl_CacheOk (small_of hbo).rows, hbo, bnd_some, cnd_true, m_impl_CacheOk (small_of hF).rows, hF, bnd_some]
  simp only [cnd_true, cnd_false]
  rw [m_sameMask (by (try dsimp only) <;> omega), bnd_some, cnd_true, bnd_some]
  try dsimp only
  rw [iqt, cnd_true, ilt a2, cnd_true, List.length_drop, wr_in (by omega)]
  have e1 : ((A.length - 1 : Nat) : Int) = (A.length : Int) - 1 := by omega
  rw [e1, iqt, cnd_true]
  have hn := hs.n
  rw [loopI_row (l := l) (f := laws_FnCaches_l0 ⟨m, l⟩ v7 ⟨m, A⟩) (fun _ => true) (by omega) (fun i hi => ?_) ?_]
  · have hall : (l.all fun _ => true) = true := by simp
    rw [hall]
    simp only [if_true, bnd_some]
    rw [m_impl_CacheOk hs.rows, hc, bnd_some]
  · rw [laws_FnCaches_l0]
    dsimp only
    rw [ilt (by omega), cnd_true]
  · rw [laws_FnCaches_l0]
    dsimp only
    rw [ilf (by omega), cnd_false, idx_nat hi, bnd_some, m_Recall hsa, ← hid]
    rcases fst_cases (fun k : TKept => ieq k.id l[i].id) A with ⟨q1, q2⟩ | ⟨j, hj, q1, q2, q3⟩
    · have h1 : firstId A l[i].id = -1 := q1
      have hnn : idx A (-1) = none := rfl
      rw [h1, hnn]
      dsimp only
      rw [bnd_some]
      dsimp only
      rw [cnd_false]
      have hfull : m ≤ (A.length : Int) := by
        refine Int.not_lt.1 fun hlt => ?_
        have hwl : A = (⟨id, mk⟩ : TKept) :: l.filter (fun y => !ieq y.id id) := by
          rw [hfe]
          refine List.take_of_length_le (Nat.le_of_not_lt fun hgt => ?_)
          have : A.length = m.toNat := by rw [hfe, List.length_take]; omega
          omega
        by_cases he : l[i].id = id
        · have := q2 ⟨id, mk⟩ (by rw [hwl]; simp)
          simp only [he, iqt] at this; cases this
        · have := q2 l[i] (by rw [hwl]; exact List.mem_cons_of_mem _ (List.mem_filter.2 ⟨List.getElem_mem hi, by rw [iqf he]; rfl⟩))
          rw [iqt] at this; cases this
      rw [ilt hfull, cnd_true]; try rfl
    · have h1 : firstId A l[i].id = (j : Int) := q1
      rw [h1, idx_nat hj]
      dsimp only
      rw [if_pos ha, bnd_some]
      dsimp only
      have hje : A[j].id = l[i].id := by simpa [ieq] using q2
      have hfe2 := front_eq (k := A[j]) (m := m) a4
      have h0 : idx (frontL A[j] m A) 0 = some A[j] := by
        rw [hfe2, hM, show ((M : Int) + 1).toNat = M + 1 by omega, List.take_succ_cons]; rfl
      rw [cnd_true, h0, bnd_some, hje, iqt, cnd_true]
      by_cases he : l[i].id = id
      · rw [he, iqt, cnd_true]; try rfl
      · rw [iqf he, cnd_false]
        have hsame : A[j] = l[i] := by
          have hmem : A[j] ∈ (⟨id, mk⟩ : TKept) :: (l.filter (fun y => !ieq y.id id)).take M := by
            have hm0 : A[j] ∈ A := List.getElem_mem hj
            exact hA0 ▸ hm0
          rcases List.mem_cons.1 hmem with h | h
          · rw [h] at hje; exact absurd hje.symm he
          · obtain ⟨t, ht, hte⟩ := List.getElem_of_mem (List.mem_filter.1 (List.mem_of_mem_take h)).1
            have h2 : l[t].id = l[i].id := by rw [hte]; exact hje
            have h3 : (l.map (·.id))[t]'(by rw [List.length_map]; omega) = (l.map (·.id))[i]'(by rw [List.length_map]; omega) := by simpa using h2
            have h4 : t = i := (List.getElem_inj c4').1 h3
            subst h4; exact hte.symm
        rw [hsame, m_sameMask (by have := hs.b _ (List.getElem_mem hi); omega), bnd_some, cnd_true]; try rfl

end Go.Proofs.Ytafljhadfoaceaa.Am
