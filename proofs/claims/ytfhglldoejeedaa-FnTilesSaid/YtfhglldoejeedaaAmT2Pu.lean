import Derived.Test.YtfhglldoejeedaaAmT2Mo
import Derived.Test.YtfhglldoejeedaaAmRo
import Derived.Test.YtfhglldoejeedaaAmPu
set_option linter.unusedVariables false
set_option linter.unusedSimpArgs false
set_option linter.unusedSectionVars false
namespace Go.Proofs.Ytfhglldoejeedaa.Am
open Go Go.Proofs
end Go.Proofs.Ytfhglldoejeedaa.Am
namespace Go.Proofs.Ytfhglldoejeedaa.Am
open Go Go.Proofs
set_option linter.unusedSimpArgs false
set_option linter.unusedVariables false
set_option maxRecDepth 100000

/-! ## Small words -/
def tin (x a b : Int) : Bool := ile a x && ile x b
theorem tin_t {x a b : Int} : tin x a b = true ↔ a ≤ x ∧ x ≤ b := by simp [tin, ile_t]
@[simp] theorem m_spec_l01In (x a b : Int) : spec_l01In x a b = some (tin x a b) := by
  unfold spec_l01In tin; cases ile a x <;> simp
@[simp] theorem m_impl_inRange (x a b : Int) : impl_inRange x a b = some (tin x a b) := by
  unfold impl_inRange tin; cases ile a x <;> simp
@[simp] theorem m_impl_isSide (x : Int) : impl_isSide x = some (tin x 1 12) := by unfold impl_isSide; simp
def tileCount (w h : Int) : Int := if tin w 1 12 && tin h 1 12 then ((w + 3) / 4) * ((h + 3) / 4) else 0
theorem four {w : Int} (h : tin w 1 12 = true) : (w + 3) / 4 = 1 ∨ (w + 3) / 4 = 2 ∨ (w + 3) / 4 = 3 := by rw [tin_t] at h; omega
theorem wr9 {w h : Int} (hw : tin w 1 12 = true) (hh : tin h 1 12 = true) : IntKind.i64.wrap ((w + 3) / 4 * ((h + 3) / 4)) = (w + 3) / 4 * ((h + 3) / 4) := by
  refine wr_in ?_
  rcases four hw with e | e | e <;> rcases four hh with f | f | f <;> rw [e, f] <;> decide
theorem up4 {w : Int} (h : tin w 1 12 = true) : IntKind.i64.wrap ((IntKind.i64.wrap (w + 3)).tdiv 4) = (w + 3) / 4 := by
  rw [tin_t] at h
  rw [wr_in (n := w + 3) (by omega), Int.tdiv_eq_ediv_of_nonneg (by omega), wr_in (by omega)]
theorem m_along {x : Int} (h : tin x 1 12 = true) : impl_tilesAlong x = some ((x + 3) / 4) := by
  rw [tin_t] at h
  unfold impl_tilesAlong
  rw [wr_in (n := x + 4) (by omega), wr_in (n := x + 4 - 1) (by omega), Int.tdiv_eq_ediv_of_nonneg (by omega), wr_in (by omega)]
  congr 1; omega
@[simp] theorem m_impl_TileCount (w h : Int) : impl_TileCount w h = some (tileCount w h) := by
  unfold impl_TileCount tileCount
  cases hw : tin w 1 12 <;> cases hh : tin h 1 12 <;> simp [m_along, wr9, *]
@[simp] theorem m_spec_TileCount (w h : Int) : spec_TileCount w h = some (tileCount w h) := by
  unfold spec_TileCount tileCount
  cases hw : tin w 1 12 <;> cases hh : tin h 1 12 <;> simp [up4, wr9, *]

def TBox.empty (b : TBox) : Bool := ile b.x1 b.x0 || ile b.y1 b.y0
def TBox.zero : TBox := ⟨0, 0, 0, 0⟩
def meet (a b : TBox) : TBox :=
  let c : TBox := ⟨max a.x0 b.x0, max a.y0 b.y0, min a.x1 b.x1, min a.y1 b.y1⟩
  if c.empty then .zero else c
@[simp] theorem m_impl_Empty (b : TBox) : impl_Empty b = some b.empty := by
  unfold impl_Empty TBox.empty; cases ile b.x1 b.x0 <;> simp
@[simp] theorem m_spec_Empty (b : TBox) : spec_Empty b = some b.empty := by
  unfold spec_Empty TBox.empty; cases ile b.x1 b.x0 <;> simp
@[simp] theorem m_spec_l05Most (a b : Int) : spec_l05Most a b = some (max a b) := by
  unfold spec_l05Most; cases h : ile a b
  · rw [ile_f] at h; simp; omega
  · rw [ile_t] at h; simp; omega
@[simp] theorem m_spec_l05Least (a b : Int) : spec_l05Least a b = some (min a b) := by
  unfold spec_l05Least; cases h : ile b a
  · rw [ile_f] at h; simp; omega
  · rw [ile_t] at h; simp; omega
@[simp] theorem m_impl_MeetBox (a b : TBox) : impl_MeetBox a b = some (meet a b) := by
  unfold impl_MeetBox meet
  simp
  cases h : TBox.empty ⟨max a.x0 b.x0, max a.y0 b.y0, min a.x1 b.x1, min a.y1 b.y1⟩ <;> simp [TBox.zero]
@[simp] theorem m_spec_MeetBox (a b : TBox) : spec_MeetBox a b = some (meet a b) := by
  unfold spec_MeetBox meet
  simp
  cases h : TBox.empty ⟨max a.x0 b.x0, max a.y0 b.y0, min a.x1 b.x1, min a.y1 b.y1⟩ <;> simp [TBox.zero]
def inBox (b : TBox) (p : TPoint) : Bool := decide (b.x0 ≤ p.x ∧ p.x < b.x1 ∧ b.y0 ≤ p.y ∧ p.y < b.y1)
@[simp] theorem m_spec_InBox (b : TBox) (p : TPoint) : spec_InBox b p = some (inBox b p) := by
  unfold spec_InBox inBox
  cases h0 : ile b.x0 p.x <;> simp only [ile_t, ile_f] at h0
  · simp; intro h; omega
  · cases h1 : ile b.x1 p.x <;> simp only [ile_t, ile_f] at h1
    · cases h2 : ile b.y0 p.y <;> simp only [ile_t, ile_f] at h2
      · simp; intro _ _ h; omega
      · cases h3 : ile b.y1 p.y <;> simp only [ile_t, ile_f] at h3
        · simp; omega
        · simp; omega
    · simp; intro _ h; omega

def tileBox (w h i : Int) : TBox :=
  if tin i 0 (tileCount w h - 1) then
    let x := i % ((w + 3) / 4) * 4
    let y := i / ((w + 3) / 4) * 4
    meet ⟨x, y, x + 4, y + 4⟩ ⟨0, 0, w, h⟩
  else .zero
theorem tc_bd (w h : Int) : 0 ≤ tileCount w h ∧ tileCount w h ≤ 9 := by
  unfold tileCount
  cases hw : tin w 1 12 <;> cases hh : tin h 1 12 <;> simp
  rcases four hw with e | e | e <;> rcases four hh with f | f | f <;> rw [e, f] <;> decide
@[simp] theorem tc_wrap (w h : Int) : IntKind.i64.wrap (tileCount w h - 1) = tileCount w h - 1 := by
  have := tc_bd w h
  exact wr_in (by omega)
theorem tb_facts {w h i : Int} (hi : tin i 0 (tileCount w h - 1) = true) : tin w 1 12 = true ∧ 0 ≤ i ∧ i ≤ 8 := by
  have := tc_bd w h
  rw [tin_t] at hi
  refine ⟨?_, by omega, by omega⟩
  cases hw : tin w 1 12 with
  | true => rfl
  | false =>
    have : tileCount w h = 0 := by simp [tileCount, hw]
    omega
theorem tb_x {r i : Int} (hr : r = 1 ∨ r = 2 ∨ r = 3) (h0 : 0 ≤ i) (h1 : i ≤ 8) : IntKind.i64.wrap (i.tmod r * 4) = i % r * 4 ∧ IntKind.i64.wrap (i % r * 4 + 4) = i % r * 4 + 4 ∧
    IntKind.i64.wrap (IntKind.i64.wrap (i.tdiv r) * 4) = i / r * 4 ∧ IntKind.i64.wrap (i / r * 4 + 4) = i / r * 4 + 4 := by
  rw [Int.tmod_eq_emod_of_nonneg h0, Int.tdiv_eq_ediv_of_nonneg h0]
  rcases hr with rfl | rfl | rfl
  · rw [wr_in (n := i / 1) (by omega)]; exact ⟨wr_in (by omega), wr_in (by omega), wr_in (by omega), wr_in (by omega)⟩
  · rw [wr_in (n := i / 2) (by omega)]; exact ⟨wr_in (by omega), wr_in (by omega), wr_in (by omega), wr_in (by omega)⟩
  · rw [wr_in (n := i / 3) (by omega)]; exact ⟨wr_in (by omega), wr_in (by omega), wr_in (by omega), wr_in (by omega)⟩
theorem four' {w : Int} (h : tin w 1 12 = true) : ¬ (w + 3) / 4 = 0 := by rcases four h with e | e | e <;> omega
@[simp] theorem m_impl_TileBox (w h i : Int) : impl_TileBox w h i = some (tileBox w h i) := by
  unfold impl_TileBox
  cases hi : tin i 0 (tileCount w h - 1) with
  | false => simp [tileBox, hi, TBox.zero]
  | true =>
    obtain ⟨hw, h0, h1⟩ := tb_facts hi
    obtain ⟨e1, e2, e3, e4⟩ := tb_x (four hw) h0 h1
    simp [tileBox, hi, m_along hw, chkP_pos (four' hw), e1, e2, e3, e4]

/-! ## Draws -/
structure CurOk (c : TL01Cur) : Prop where
  lo : 0 ≤ c.i
  hi : c.i ≤ c.b.length
  big : c.b.length ≤ 1048576
theorem idx_of {α : Type} {l : List α} {i : Int} (h0 : 0 ≤ i) (h1 : i < l.length) : ∃ x, idx l i = some x ∧ x ∈ l := by
  have : i.toNat < l.length := by omega
  refine ⟨l[i.toNat], ?_, List.getElem_mem this⟩
  unfold idx; rw [if_pos h0]; exact List.getElem?_eq_getElem this
theorem and255 (x : Int) : 0 ≤ andI .i64 x 255 ∧ andI .i64 x 255 ≤ 255 := by
  have h : (BitVec.ofInt 64 x &&& BitVec.ofInt 64 255).toNat ≤ 255 := by
    rw [BitVec.toNat_and]
    exact Nat.le_trans Nat.and_le_right (by decide)
  have h2 : (((BitVec.ofInt 64 x &&& BitVec.ofInt 64 255).toNat : Nat) : Int) ≤ 255 := by exact_mod_cast h
  have e : andI .i64 x 255 = IntKind.i64.wrap (((BitVec.ofInt 64 x &&& BitVec.ofInt 64 255).toNat : Nat) : Int) := rfl
  rw [e, wr_in ⟨by omega, by omega⟩]
  exact ⟨by omega, h2⟩
theorem new_ok (a : List Int) (h : a.length ≤ 1048576) : ∃ c, spec_l01New a = some c ∧ CurOk c := by
  obtain ⟨s, h1, _⟩ := loopI_inv (f := spec_l01New_l0 a) (fun i (s : Int) => (s, (i : Int))) (min a.length 4000) (fun _ _ => True) (fun s => s) (s0 := IntKind.i64.wrap (28001 + (a.length : Int))) trivial
    (fun i s hi _ => by
      have e1 : ile (a.length : Int) (i : Int) = false := by rw [ile_f]; omega
      have e2 : ile 4000 (i : Int) = false := by rw [ile_f]; omega
      obtain ⟨x, hx, _⟩ := idx_of (l := a) (i := (i : Int)) (by omega) (by omega)
      have e3 : spec_l01New_l0 a (s, (i : Int)) = some (.inl (andI .i64 (IntKind.i64.wrap (IntKind.i64.wrap (IntKind.i64.wrap (s * 131) + IntKind.i64.wrap x) + 7)) 1073741823, ((i + 1 : Nat) : Int))) := by
        simp only [spec_l01New_l0, e1, e2, cnd_false, hx, bnd_some]
        rw [wr_in (n := (i : Int) + 1) (by omega)]
        rfl
      exact ⟨_, e3, trivial⟩)
    (fun s _ => by
      rcases Nat.le_total a.length 4000 with hl | hl
      · rw [Nat.min_eq_left hl]
        simp [spec_l01New_l0]
      · rw [Nat.min_eq_right hl]
        cases e1 : ile (a.length : Int) ((4000 : Nat) : Int)
        · have e2 : ile 4000 ((4000 : Nat) : Int) = true := by decide
          simp only [spec_l01New_l0, e1, e2, cnd_true, cnd_false]
        · simp only [spec_l01New_l0, e1, cnd_true])
  refine ⟨⟨a, 0, s⟩, ?_, by simp, by simp, h⟩
  unfold spec_l01New
  have : loopI (spec_l01New_l0 a) (IntKind.i64.wrap (28001 + (a.length : Int)), 0) = some s := h1
  rw [this]; rfl
theorem byte_ok {c : TL01Cur} (h : CurOk c) : ∃ r c', spec_l01Byte c = some (r, c') ∧ 0 ≤ r ∧ r ≤ 255 ∧ CurOk c' := by
  unfold spec_l01Byte
  cases e : ile (c.b.length : Int) c.i
  · rw [ile_f] at e
    obtain ⟨x, hx, _⟩ := idx_of (l := c.b) (i := c.i) h.lo e
    simp only [cnd_false, hx, bnd_some]
    have := h.big
    have := h.lo
    rw [wr_in (n := c.i + 1) (by omega)]
    exact ⟨_, _, rfl, (and255 _).1, (and255 _).2, by simp; omega, by simp; omega, h.big⟩
  · simp only [cnd_true]
    exact ⟨_, _, rfl, (and255 _).1, (and255 _).2, h.lo, h.hi, h.big⟩
theorem below_ok {c : TL01Cur} (h : CurOk c) {n : Int} (h0 : 0 < n) : ∃ r c', spec_l01Below n c = some (r, c') ∧ 0 ≤ r ∧ r < n ∧ CurOk c' := by
  unfold spec_l01Below
  have e0 : ile n 0 = false := by rw [ile_f]; exact h0
  have hn : ¬ n = 0 := by omega
  simp only [e0, cnd_false]
  obtain ⟨r1, c1, q1, a1, b1, k1⟩ := byte_ok h
  cases e1 : ile n 256
  · obtain ⟨r2, c2, q2, a2, b2, k2⟩ := byte_ok k1
    obtain ⟨r3, c3, q3, a3, b3, k3⟩ := byte_ok k2
    obtain ⟨r4, c4, q4, a4, b4, k4⟩ := byte_ok k3
    simp only [cnd_false, q1, q2, q3, q4, bnd_some, chkP_pos hn]
    rw [wr_in (n := r1 * 16777216) (by omega), wr_in (n := r2 * 65536) (by omega), wr_in (n := r3 * 256) (by omega)]
    rw [wr_in (n := r1 * 16777216 + r2 * 65536) (by omega)]
    rw [wr_in (n := r1 * 16777216 + r2 * 65536 + r3 * 256) (by omega)]
    rw [wr_in (by omega)]
    exact ⟨_, _, rfl, Int.tmod_nonneg _ (by omega), Int.tmod_lt_of_pos _ h0, k4⟩
  · simp only [cnd_true, q1, bnd_some, chkP_pos hn]
    exact ⟨_, _, rfl, Int.tmod_nonneg _ a1, Int.tmod_lt_of_pos _ h0, k1⟩
theorem places_ok {a : List Int} (h : a.length ≤ 1048576) : ∃ l, spec_DrawPlaces a = some l ∧ l.length = 12 ∧ ∀ x ∈ l, 0 ≤ x ∧ x < 10000 := by
  obtain ⟨c, h1, k⟩ := new_ok a h
  obtain ⟨r, c1, h2, _, _, k1⟩ := byte_ok k
  obtain ⟨s, h3, h4⟩ := loopI_inv (f := spec_DrawPlaces_l0) (fun i (s : TL01Cur × List Int) => ((i : Int), s.1.b, s.1.i, s.1.h, s.2)) 12
    (fun i s => CurOk s.1 ∧ s.2.length = i ∧ ∀ x ∈ s.2, 0 ≤ x ∧ x < 10000) (fun s => s.2) (s0 := (c1, [])) ⟨k1, rfl, by simp⟩
    (fun i s hi hI => by
      obtain ⟨⟨b, j, hh⟩, l⟩ := s
      obtain ⟨g1, g2, g3⟩ := hI
      obtain ⟨r, c', q1, q2, q3, q4⟩ := below_ok g1 (n := 10000) (by decide)
      have e1 : ile 12 (i : Int) = false := by rw [ile_f]; omega
      simp only at g2 q1
      have e2 : (l.length + 1) * 8 ≤ 17592186044416 := by omega
      refine ⟨(c', l ++ [r]), ?_, q4, by simp [g2], ?_⟩
      · simp only [spec_DrawPlaces_l0, e1, cnd_false, q1, bnd_some, chkP_pos e2, nam]
        rw [wr_in (n := (i : Int) + 1) (by omega)]
        rfl
      · intro x hx
        simp only [List.mem_append, List.mem_singleton] at hx
        rcases hx with hx | rfl
        · exact g3 x hx
        · exact ⟨q2, q3⟩)
    (fun s hI => by
      have e1 : ile 12 ((12 : Nat) : Int) = true := by decide
      simp only [spec_DrawPlaces_l0, e1, cnd_true])
  refine ⟨s.2, ?_, h4.2.1, h4.2.2⟩
  unfold spec_DrawPlaces
  have : loopI spec_DrawPlaces_l0 (0, c1.b, c1.i, c1.h, []) = some s.2 := h3
  simp only [h1, h2, bnd_some, this]
theorem boxes_ok {a : List Int} (h : a.length ≤ 1048576) : ∃ b c p, spec_DrawBoxes a = some (b, c, p) := by
  obtain ⟨c0, h0, k0⟩ := new_ok a h
  obtain ⟨r1, c1, h1, _, _, k1⟩ := below_ok k0 (n := 9) (by decide)
  obtain ⟨r2, c2, h2, _, _, k2⟩ := below_ok k1 (n := 9) (by decide)
  obtain ⟨r3, c3, h3, _, _, k3⟩ := below_ok k2 (n := 9) (by decide)
  obtain ⟨r4, c4, h4, _, _, k4⟩ := below_ok k3 (n := 9) (by decide)
  obtain ⟨r5, c5, h5, _, _, k5⟩ := below_ok k4 (n := 9) (by decide)
  obtain ⟨r6, c6, h6, _, _, k6⟩ := below_ok k5 (n := 9) (by decide)
  obtain ⟨r7, c7, h7, _, _, k7⟩ := below_ok k6 (n := 9) (by decide)
  obtain ⟨r8, c8, h8, _, _, k8⟩ := below_ok k7 (n := 9) (by decide)
  obtain ⟨r9, c9, h9, _, _, k9⟩ := below_ok k8 (n := 18) (by decide)
  obtain ⟨r10, c10, h10, _, _, k10⟩ := below_ok k9 (n := 18) (by decide)
  unfold spec_DrawBoxes
  simp only [h0, h1, h2, h3, h4, h5, h6, h7, h8, h9, h10, bnd_some]
  exact ⟨_, _, _, rfl⟩
end Go.Proofs.Ytfhglldoejeedaa.Am
namespace Go.Proofs.Ytfhglldoejeedaa.Am
open Go Go.Proofs
set_option linter.unusedSimpArgs false
set_option linter.unusedVariables false
set_option maxRecDepth 100000

/-- A loop over a row that is left at the first element with a property. -/
theorem loopI_any {α ρ : Type} {f : Int → Option (Int ⊕ ρ)} (l : List α) (p : α → Bool) (r1 r0 : ρ) (hs : ∀ (i : Nat) x, l[i]? = some x → f i = some (if p x = true then .inr r1 else .inl ((i + 1 : Nat) : Int)))
    (he : f (l.length : Nat) = some (.inr r0)) : loopI f ((0 : Nat) : Int) = some (if l.any p = true then r1 else r0) := by
  have key : ∀ d i, i + d = l.length → loopI f (i : Nat) = some (if (l.drop i).any p = true then r1 else r0) := by
    intro d
    induction d with
    | zero =>
      intro i hi
      have : i = l.length := by omega
      subst this
      rw [loopI_end he]; simp
    | succ d ih =>
      intro i hi
      have hlt : i < l.length := by omega
      have h1 := hs i l[i] (List.getElem?_eq_getElem hlt)
      rw [List.drop_eq_getElem_cons hlt, List.any_cons]
      cases hp : p l[i] with
      | true => rw [hp, if_pos rfl] at h1; rw [loopI_end h1]; simp
      | false =>
        rw [hp, if_neg (by simp)] at h1
        rw [loopI_go h1, ih (i + 1) (by omega)]; simp
  simpa using key l.length 0 (by omega)

def meets (b : TBox) (list : List TBox) : Bool := list.any fun x => !(meet b x).empty
theorem m_impl_meetsAny {b : TBox} {list : List TBox} (h : list.length ≤ 9223372036854775806) : impl_meetsAny b list = some (meets b list) := by
  unfold impl_meetsAny
  have := loopI_any (f := impl_meetsAny_l0 b list) list (fun x => !(meet b x).empty) (.inr ()) (.inl ())
    (fun i x hx => by
      have hi : i < list.length := (List.getElem?_eq_some_iff.1 hx).1
      have e1 : ile (list.length : Int) (i : Int) = false := by rw [ile_f]; omega
      simp only [impl_meetsAny_l0, e1, cnd_false, idx_some hx, bnd_some, m_impl_MeetBox, m_impl_Empty]
      rw [wr_in (n := (i : Int) + 1) (by omega)]
      cases (meet b x).empty <;> simp)
    (by simp [impl_meetsAny_l0])
  have e : loopI (impl_meetsAny_l0 b list) 0 = some (if meets b list = true then .inr () else .inl ()) := this
  rw [e]
  cases meets b list <;> rfl
def tilesOf (w h : Int) (list : List TBox) : List Int := ((List.range (tileCount w h).toNat).filter fun i : Nat => meets (tileBox w h (i : Int)) list).map fun i : Nat => (i : Int)
theorem filter_succ {n : Nat} {p : Nat → Bool} : (List.range (n + 1)).filter p = (List.range n).filter p ++ (if p n = true then [n] else []) := by
  rw [List.range_succ, List.filter_append]
  cases h : p n <;> simp [h]
theorem m_impl_TilesOf {w h : Int} {list : List TBox} (hl : list.length ≤ 9223372036854775806) : impl_TilesOf w h list = some (tilesOf w h list) := by
  unfold impl_TilesOf
  simp only [m_impl_TileCount, bnd_some]
  have hb := tc_bd w h
  obtain ⟨s, h1, h2⟩ := loopI_inv (f := impl_TilesOf_l0 w h list (tileCount w h)) (fun i (s : List Int) => (s, (i : Int))) (tileCount w h).toNat
    (fun i s => s = ((List.range i).filter fun i : Nat => meets (tileBox w h (i : Int)) list).map fun i : Nat => (i : Int)) (fun s => s) (s0 := []) rfl
    (fun i s hi hI => by
      have e1 : ile (tileCount w h) (i : Int) = false := by rw [ile_f]; omega
      have e2 : (s.length + 1) * 8 ≤ 17592186044416 := by
        have : s.length ≤ i := by rw [hI]; simp; exact Nat.le_trans (List.length_filter_le _ _) (by simp)
        omega
      refine ⟨if meets (tileBox w h (i : Int)) list = true then s ++ [(i : Int)] else s, ?_, ?_⟩
      · simp only [impl_TilesOf_l0, e1, cnd_false, m_impl_TileBox, bnd_some, m_impl_meetsAny hl, chkP_pos e2, nam]
        rw [wr_in (n := (i : Int) + 1) (by omega)]
        cases meets (tileBox w h (i : Int)) list <;> simp
      · rw [filter_succ, hI]
        cases meets (tileBox w h (i : Int)) list <;> simp)
    (fun s hI => by
      have e1 : ile (tileCount w h) (((tileCount w h).toNat : Nat) : Int) = true := by rw [ile_t]; omega
      simp only [impl_TilesOf_l0, e1, cnd_true])
  have e : loopI (impl_TilesOf_l0 w h list (tileCount w h)) ([], 0) = some s := h1
  rw [e]
  simp only [bnd_some]
  rw [h2]; rfl
theorem m_laws_in {l : List Int} {x : Int} (h : l.length ≤ 9223372036854775806) : laws_in l x = some (l.any fun y => ieq y x) := by
  unfold laws_in
  have := loopI_any (f := laws_in_l0 l x) l (fun y => ieq y x) (.inr ()) (.inl ())
    (fun i y hx => by
      have hi : i < l.length := (List.getElem?_eq_some_iff.1 hx).1
      have e1 : ile (l.length : Int) (i : Int) = false := by rw [ile_f]; omega
      simp only [laws_in_l0, e1, cnd_false, idx_some hx, bnd_some]
      rw [wr_in (n := (i : Int) + 1) (by omega)]
      cases ieq y x <;> simp)
    (by simp [laws_in_l0])
  have e : loopI (laws_in_l0 l x) 0 = some (if (l.any fun y => ieq y x) = true then .inr () else .inl ()) := this
  rw [e]
  cases (l.any fun y => ieq y x) <;> rfl

/-! ## Each square is in one tile -/
theorem one_tile {w h x y : Int} (hw : tin w 1 12 = true) (hh : tin h 1 12 = true) (hx : 0 ≤ x ∧ x < w) (hy : 0 ≤ y ∧ y < h) {i : Int} (hi : 0 ≤ i ∧ i < tileCount w h) :
    inBox (tileBox w h i) ⟨x, y⟩ = decide (i = y / 4 * ((w + 3) / 4) + x / 4) := by
  have e0 : tin i 0 (tileCount w h - 1) = true := by rw [tin_t]; omega
  have e1 : tileCount w h = (w + 3) / 4 * ((h + 3) / 4) := by simp [tileCount, hw, hh]
  rw [e1] at hi
  rw [tin_t] at hw hh
  have key : ∀ r : Int, (w + 3) / 4 = r → (r = 1 ∨ r = 2 ∨ r = 3) → ((TBox.mk (max (i % r * 4) 0) (max (i / r * 4) 0) (min (i % r * 4 + 4) w) (min (i / r * 4 + 4) h)).empty = false) ∧
      ((max (i % r * 4) 0 ≤ x ∧ x < min (i % r * 4 + 4) w ∧ max (i / r * 4) 0 ≤ y ∧ y < min (i / r * 4 + 4) h) ↔ i = y / 4 * r + x / 4) := by
    intro r hr hc
    rw [hr] at hi
    have hq : (h + 3) / 4 = 1 ∨ (h + 3) / 4 = 2 ∨ (h + 3) / 4 = 3 := by omega
    constructor
    · simp only [TBox.empty, Bool.or_eq_false_iff, ile_f]
      rcases hc with rfl | rfl | rfl <;> rcases hq with e | e | e <;> rw [e] at hi <;> omega
    · rcases hc with rfl | rfl | rfl <;> rcases hq with e | e | e <;> rw [e] at hi <;> omega
  obtain ⟨k1, k2⟩ := key _ rfl (by omega)
  have hm : tileBox w h i = ⟨max (i % ((w + 3) / 4) * 4) 0, max (i / ((w + 3) / 4) * 4) 0, min (i % ((w + 3) / 4) * 4 + 4) w, min (i / ((w + 3) / 4) * 4 + 4) h⟩ := by
    unfold tileBox
    rw [if_pos e0]
    show meet _ _ = _
    unfold meet
    show (if TBox.empty _ = true then _ else _) = _
    rw [k1]; rfl
  rw [hm]
  exact decide_eq_decide.2 k2
theorem count_one {n k : Nat} (h : k < n) : ((List.range n).filter fun i => decide (i = k)).length = 1 := by
  induction n with
  | zero => omega
  | succ n ih =>
    rw [filter_succ]
    by_cases e : n = k
    · subst e
      have : (List.range n).filter (fun i => decide (i = n)) = [] := by
        rw [List.filter_eq_nil_iff]; intro a ha; simp at ha ⊢; omega
      simp [this]
    · have := ih (by omega)
      simp [e, this]
end Go.Proofs.Ytfhglldoejeedaa.Am
namespace Go.Proofs.Ytfhglldoejeedaa.Am
open Go Go.Proofs
set_option linter.unusedSimpArgs false
set_option linter.unusedVariables false
set_option maxRecDepth 100000

section
variable {a0 : List Int} {v3 v4 w h : Int}
theorem tiles_l0 (ew : IntKind.i64.wrap (1 + Int.tmod v3 12) = w) (eh : IntKind.i64.wrap (1 + Int.tmod v4 12) = h) (hw : tin w 1 12 = true) (hh : tin h 1 12 = true) {x y : Int} (hx : 0 ≤ x ∧ x < w) (hy : 0 ≤ y ∧ y < h) : loopI (laws_FnTiles_l0 a0 v3 v4 (tileCount w h) y x) (0, 0) = some 1 := by
  have hb := tc_bd w h
  obtain ⟨s, h1, h2⟩ := loopI_inv (f := laws_FnTiles_l0 a0 v3 v4 (tileCount w h) y x) (fun i (s : Int) => (s, (i : Int))) (tileCount w h).toNat
    (fun i s => s = (((List.range i).filter fun i : Nat => inBox (tileBox w h (i : Int)) ⟨x, y⟩).length : Int)) (fun s => s) (s0 := 0) (by simp)
    (fun i s hi hI => by
      have e1 : ile (tileCount w h) (i : Int) = false := by rw [ile_f]; omega
      have hl : s ≤ i := by
        rw [hI]
        have := List.length_filter_le (fun i : Nat => inBox (tileBox w h (i : Int)) ⟨x, y⟩) (List.range i)
        simp only [List.length_range] at this
        omega
      have hl0 : 0 ≤ s := by rw [hI]; omega
      refine ⟨if inBox (tileBox w h (i : Int)) ⟨x, y⟩ = true then s + 1 else s, ?_, ?_⟩
      · simp only [laws_FnTiles_l0, e1, cnd_false, ew, eh, m_impl_TileBox, m_spec_InBox, bnd_some]
        rw [wr_in (n := (i : Int) + 1) (by omega), wr_in (n := s + 1) (by omega)]
        cases inBox (tileBox w h (i : Int)) ⟨x, y⟩ <;> simp
      · rw [filter_succ, hI]
        cases inBox (tileBox w h (i : Int)) ⟨x, y⟩ <;> simp)
    (fun s hI => by
      have e1 : ile (tileCount w h) (((tileCount w h).toNat : Nat) : Int) = true := by rw [ile_t]; omega
      simp only [laws_FnTiles_l0, e1, cnd_true])
  have e : loopI (laws_FnTiles_l0 a0 v3 v4 (tileCount w h) y x) (0, 0) = some s := h1
  rw [e, h2]
  have hw' := hw; have hh' := hh
  rw [tin_t] at hw' hh'
  have ec : tileCount w h = (w + 3) / 4 * ((h + 3) / 4) := by simp [tileCount, hw, hh]
  have hk : 0 ≤ y / 4 * ((w + 3) / 4) + x / 4 ∧ y / 4 * ((w + 3) / 4) + x / 4 < tileCount w h := by
    rw [ec]
    rcases four hw with e | e | e <;> rcases four hh with f | f | f <;> rw [e, f] <;> omega
  have hf : (List.range (tileCount w h).toNat).filter (fun i : Nat => inBox (tileBox w h (i : Int)) ⟨x, y⟩) = (List.range (tileCount w h).toNat).filter (fun i : Nat => decide (i = (y / 4 * ((w + 3) / 4) + x / 4).toNat)) := by
    refine List.filter_congr fun i hi => ?_
    rw [List.mem_range] at hi
    rw [one_tile hw hh hx hy (by omega)]
    exact decide_eq_decide.2 (by omega)
  rw [hf, count_one (by omega)]
  rfl
theorem tiles_l1 (ew : IntKind.i64.wrap (1 + Int.tmod v3 12) = w) (eh : IntKind.i64.wrap (1 + Int.tmod v4 12) = h) (hw : tin w 1 12 = true) (hh : tin h 1 12 = true) {y : Int} (hy : 0 ≤ y ∧ y < h) : loopI (laws_FnTiles_l1 a0 v3 v4 (tileCount w h) y) 0 = some (.inl ()) := by
  have hw' := hw
  rw [tin_t] at hw'
  refine loopI_n (fun i => (i : Int)) w.toNat (fun i hi => ?_) ?_
  · have e1 : ile w (i : Int) = false := by rw [ile_f]; omega
    simp only [laws_FnTiles_l1, ew, e1, cnd_false, tiles_l0 ew eh hw hh (x := (i : Int)) (by omega) hy, bnd_some, ieq_self, cnd_true]
    rw [wr_in (n := (i : Int) + 1) (by omega)]
    rfl
  · have e1 : ile w ((w.toNat : Nat) : Int) = true := by rw [ile_t]; omega
    simp only [laws_FnTiles_l1, ew, e1, cnd_true]
theorem tiles_l2 (ew : IntKind.i64.wrap (1 + Int.tmod v3 12) = w) (eh : IntKind.i64.wrap (1 + Int.tmod v4 12) = h) (hw : tin w 1 12 = true) (hh : tin h 1 12 = true) : loopI (laws_FnTiles_l2 a0 v3 v4 (tileCount w h)) 0 = some (.inl ()) := by
  have hh' := hh
  rw [tin_t] at hh'
  refine loopI_n (fun i => (i : Int)) h.toNat (fun i hi => ?_) ?_
  · have e1 : ile h (i : Int) = false := by rw [ile_f]; omega
    simp only [laws_FnTiles_l2, eh, e1, cnd_false, tiles_l1 ew eh hw hh (y := (i : Int)) (by omega), bnd_some]
    rw [wr_in (n := (i : Int) + 1) (by omega)]
    rfl
  · have e1 : ile h ((h.toNat : Nat) : Int) = true := by rw [ile_t]; omega
    simp only [laws_FnTiles_l2, eh, e1, cnd_true]
theorem tiles_len (ew : IntKind.i64.wrap (1 + Int.tmod v3 12) = w) (eh : IntKind.i64.wrap (1 + Int.tmod v4 12) = h) (hw : tin w 1 12 = true) (hh : tin h 1 12 = true) {list : List TBox} : (tilesOf w h list).length ≤ 9 := by
  unfold tilesOf
  have hb := tc_bd w h
  rw [List.length_map]
  exact Nat.le_trans (List.length_filter_le _ _) (by simp; omega)
theorem tiles_mem (ew : IntKind.i64.wrap (1 + Int.tmod v3 12) = w) (eh : IntKind.i64.wrap (1 + Int.tmod v4 12) = h) (hw : tin w 1 12 = true) (hh : tin h 1 12 = true) {list : List TBox} {i : Nat} (hi : (i : Int) < tileCount w h) : ((tilesOf w h list).any fun y => ieq y (i : Int)) = meets (tileBox w h (i : Int)) list := by
  unfold tilesOf
  rw [Bool.eq_iff_iff, List.any_eq_true]
  constructor
  · rintro ⟨y, hy, e⟩
    rw [ieq_t] at e
    subst e
    rw [List.mem_map] at hy
    obtain ⟨j, hj, e⟩ := hy
    have : j = i := by omega
    subst this
    exact (List.mem_filter.1 hj).2
  · intro hm
    refine ⟨(i : Int), ?_, by simp⟩
    rw [List.mem_map]
    exact ⟨i, List.mem_filter.2 ⟨List.mem_range.2 (by omega), hm⟩, rfl⟩
theorem tiles_l3 (ew : IntKind.i64.wrap (1 + Int.tmod v3 12) = w) (eh : IntKind.i64.wrap (1 + Int.tmod v4 12) = h) (hw : tin w 1 12 = true) (hh : tin h 1 12 = true) {a b : TBox} : loopI (laws_FnTiles_l3 v3 v4 (tileCount w h) (tilesOf w h [a, b]) a b) 0 = some (.inl ()) := by
  have hb := tc_bd w h
  have hl := tiles_len ew eh hw hh (list := [a, b])
  refine loopI_n (fun i => (i : Int)) (tileCount w h).toNat (fun i hi => ?_) ?_
  · have e1 : ile (tileCount w h) (i : Int) = false := by rw [ile_f]; omega
    have e2 : laws_in (tilesOf w h [a, b]) (i : Int) = some (meets (tileBox w h (i : Int)) [a, b]) := by
      rw [m_laws_in (by omega), tiles_mem ew eh hw hh (by omega)]
    simp only [laws_FnTiles_l3, ew, eh, e1, cnd_false, m_impl_TileBox, e2, m_spec_MeetBox, m_spec_Empty, bnd_some]
    rw [wr_in (n := (i : Int) + 1) (by omega)]
    unfold meets
    cases h1 : (meet (tileBox w h (i : Int)) a).empty <;> cases h2 : (meet (tileBox w h (i : Int)) b).empty <;> simp [h1, h2]
  · have e1 : ile (tileCount w h) (((tileCount w h).toNat : Nat) : Int) = true := by rw [ile_t]; omega
    simp only [laws_FnTiles_l3, e1, cnd_true]
theorem tiles_up (ew : IntKind.i64.wrap (1 + Int.tmod v3 12) = w) (eh : IntKind.i64.wrap (1 + Int.tmod v4 12) = h) (hw : tin w 1 12 = true) (hh : tin h 1 12 = true) {list : List TBox} : (tilesOf w h list).Pairwise (· < ·) := by
  unfold tilesOf
  rw [List.pairwise_map]
  refine List.Pairwise.imp (R := (· < ·)) (fun h => by omega) ?_
  exact List.Pairwise.filter _ List.pairwise_lt_range
theorem tiles_l4 (ew : IntKind.i64.wrap (1 + Int.tmod v3 12) = w) (eh : IntKind.i64.wrap (1 + Int.tmod v4 12) = h) (hw : tin w 1 12 = true) (hh : tin h 1 12 = true) {list : List TBox} : loopI (laws_FnTiles_l4 v3 v4 (tileCount w h) (tilesOf w h list)) 1 = some (.inl ()) := by
  have hl := tiles_len ew eh hw hh (list := list)
  have hu := List.pairwise_iff_getElem.1 (tiles_up ew eh hw hh (list := list))
  generalize tilesOf w h list = l at hl hu
  refine loopI_n (f := laws_FnTiles_l4 v3 v4 (tileCount w h) l) (fun i => ((i + 1 : Nat) : Int)) (l.length - 1) (fun i hi => ?_) ?_
  · have e1 : ile (l.length : Int) ((i + 1 : Nat) : Int) = false := by rw [ile_f]; omega
    have e2 : IntKind.i64.wrap (((i + 1 : Nat) : Int) - 1) = (i : Int) := by rw [wr_in (by omega)]; omega
    have e3 : ile l[i + 1] l[i] = false := by rw [ile_f]; exact hu i (i + 1) (by omega) (by omega) (by omega)
    simp only [laws_FnTiles_l4, e1, cnd_false, e2, idx_nat (l := l) (i := i) (by omega), idx_nat (l := l) (i := i + 1) (by omega), bnd_some, e3]
    rw [wr_in (n := ((i + 1 : Nat) : Int) + 1) (by omega)]
    rfl
  · have e1 : ile (l.length : Int) ((l.length - 1 + 1 : Nat) : Int) = true := by rw [ile_t]; omega
    simp only [laws_FnTiles_l4, e1, cnd_true]
end

/-- Tiles are the picture. -/
theorem m_FnTiles {a0 : List Int} (_ : okL (okN .u8) a0) : laws_FnTiles a0 = some true := by
  unfold laws_FnTiles laws_big
  simp only [bnd_some, cnd_not]
  cases hbig : ile (a0.length : Int) 1048576
  · simp
  · rw [ile_t] at hbig
    simp only [cnd_true]
    obtain ⟨l, h1, h2, h3⟩ := places_ok (a := a0) (by omega)
    obtain ⟨v3, i0, b0⟩ : ∃ v : Int, idx l 0 = some v ∧ 0 ≤ v ∧ v < 10000 := ⟨l[0], idx_nat (i := 0) (by omega), h3 _ (List.getElem_mem _)⟩
    obtain ⟨v4, i1, b1⟩ : ∃ v : Int, idx l 1 = some v ∧ 0 ≤ v ∧ v < 10000 := ⟨l[1], idx_nat (i := 1) (by omega), h3 _ (List.getElem_mem _)⟩
    have t0 : 0 ≤ Int.tmod v3 12 ∧ Int.tmod v3 12 < 12 := ⟨Int.tmod_nonneg _ b0.1, Int.tmod_lt_of_pos _ (by decide)⟩
    have t1 : 0 ≤ Int.tmod v4 12 ∧ Int.tmod v4 12 < 12 := ⟨Int.tmod_nonneg _ b1.1, Int.tmod_lt_of_pos _ (by decide)⟩
    obtain ⟨w, ew⟩ : ∃ w, IntKind.i64.wrap (1 + Int.tmod v3 12) = w := ⟨_, rfl⟩
    obtain ⟨h, eh⟩ : ∃ h, IntKind.i64.wrap (1 + Int.tmod v4 12) = h := ⟨_, rfl⟩
    have hw : tin w 1 12 = true := by rw [← ew, wr_in (by omega), tin_t]; omega
    have hh : tin h 1 12 = true := by rw [← eh, wr_in (by omega), tin_t]; omega
    obtain ⟨a, b, p, h4⟩ := boxes_ok (a := a0) (by omega)
    have hz : tin (tileCount w h) 0 (tileCount w h - 1) = false := by
      cases e : tin (tileCount w h) 0 (tileCount w h - 1) with
      | false => rfl
      | true => rw [tin_t] at e; omega
    have ht : (tileBox w h (tileCount w h)).empty = true := by
      unfold tileBox; rw [hz]; rfl
    have hn : tilesOf w h [] = [] := by
      unfold tilesOf
      rw [List.filter_eq_nil_iff.2 (fun i _ => by simp [meets])]; rfl
    simp only [h1, i0, i1, bnd_some, ew, eh, m_impl_TileCount, tiles_l2 ew eh hw hh, h4]
    rw [m_impl_TilesOf (by simp)]
    simp only [bnd_some, tiles_l3 ew eh hw hh, tiles_l4 ew eh hw hh, m_spec_TileCount, ieq_self, cnd_true, m_impl_TileBox, m_spec_Empty, ht]
    rw [m_impl_TilesOf (by simp)]
    simp [hn]
end Go.Proofs.Ytfhglldoejeedaa.Am
