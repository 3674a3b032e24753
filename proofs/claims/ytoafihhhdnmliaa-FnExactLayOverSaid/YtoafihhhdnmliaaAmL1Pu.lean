import Derived.Test.YtoafihhhdnmliaaAmL1Mo
import Derived.Test.YtoafihhhdnmliaaAmRo
import Derived.Test.YtoafihhhdnmliaaAmLw
set_option linter.unusedVariables false
set_option linter.unusedSimpArgs false
set_option linter.unusedSectionVars false
namespace Go.Proofs.Ytoafihhhdnmliaa.Am
open Go Go.Proofs
def ok_Color (x : TColor) : Prop := (okN .i64) x.r ∧ (okN .i64) x.g ∧ (okN .i64) x.b ∧ (okN .i64) x.a
theorem dm_Color : Dm (.struct [.int .i64, .int .i64, .int .i64, .int .i64]) eColor ok_Color := ⟨fun cs h => by
  rw [Dom] at h; simp only [DomL] at h
  obtain ⟨_, _, rfl, h0, _, _, rfl, h1, _, _, rfl, h2, _, _, rfl, h3, rfl⟩ := h
  obtain ⟨x0, rfl, k0⟩ := dm_int.c h0
  obtain ⟨x1, rfl, k1⟩ := dm_int.c h1
  obtain ⟨x2, rfl, k2⟩ := dm_int.c h2
  obtain ⟨x3, rfl, k3⟩ := dm_int.c h3
  exact ⟨⟨x0, x1, x2, x3⟩, by simp [elA, Ty.isS], k0, k1, k2, k3⟩⟩
def ok_Surface (x : TSurface) : Prop := (okN .i64) x.w ∧ (okN .i64) x.h ∧ (okL ok_Color) x.pix
theorem dm_Surface : Dm (.struct [.int .i64, .int .i64, .slice (.struct [.int .i64, .int .i64, .int .i64, .int .i64])]) eSurface ok_Surface := ⟨fun cs h => by
  rw [Dom] at h; simp only [DomL] at h
  obtain ⟨_, _, rfl, h0, _, _, rfl, h1, _, _, rfl, h2, rfl⟩ := h
  obtain ⟨x0, rfl, k0⟩ := dm_int.c h0
  obtain ⟨x1, rfl, k1⟩ := dm_int.c h1
  obtain ⟨x2, rfl, k2⟩ := (dm_sl dm_Color).c h2
  exact ⟨⟨x0, x1, x2⟩, by simp [elA, Ty.isS], k0, k1, k2⟩⟩
end Go.Proofs.Ytoafihhhdnmliaa.Am
namespace Go.Proofs.Ytoafihhhdnmliaa.Am
open Go Go.Proofs
set_option linter.unusedVariables false
set_option linter.unusedSimpArgs false
theorem f_laws_szColorS {a : List TColor} {left : Int} (ho : okL ok_Color a) (h0 : 0 ≤ left) (h1 : left ≤ 1048576) : ∃ v, laws_szColorS a left = some v ∧ szR v left (gdL tt a) := by
  unfold laws_szColorS; exact sz_row (maxL ho.1) h0 h1
def gd_Surface (x : TSurface) : Prop := (gdL tt) x.pix
theorem f_laws_szSurface {a : TSurface} {left : Int} (ho : ok_Surface a) (h0 : 0 ≤ left) (h1 : left ≤ 1048576) : ∃ v, laws_szSurface a left = some v ∧ szR v left (gd_Surface a) := by
  obtain ⟨o0, o1, o2⟩ := ho
  unfold laws_szSurface
  obtain ⟨v2, e2, l2, m2, g2⟩ := f_laws_szColorS o2 h0 (by omega)
  rw [e2, bnd_some]
  by_cases c2 : 0 ≤ v2
  case neg => rw [ilf (by omega), cnd_false]; exact ⟨-1, rfl, by omega, by omega, fun h => by omega⟩
  rw [ilt c2, cnd_true]
  exact ⟨v2, rfl, by omega, by omega, fun _ => g2 c2⟩
theorem f_laws_toColor {a : TColor} : laws_toColor a = some a := by
  unfold laws_toColor
  rfl
theorem f_laws_toColorS {a : List TColor} (hg : (gdL tt) a) : laws_toColorS a = some a := by
  unfold laws_toColorS
  rw [chkP_pos (ch_row hg.1 (by omega))]
  have h := to_loop (f := laws_toColorS_l0 a) (toE := laws_toColor) ((TColor.mk 0 0 0 0)) (fun x hx => f_laws_toColor ) (fun _ _ => rfl) hg.1
  simp only [nam_eq, h, bnd_some]
theorem f_laws_toSurface {a : TSurface} (hg : gd_Surface a) : laws_toSurface a = some (a.w, a.h, a.pix) := by
  have h0 := hg
  unfold laws_toSurface
  simp only [bnd_some, f_laws_toColorS h0]
theorem f_laws_eqColor {a : TColor} : laws_eqColor a a = some true := by
  unfold laws_eqColor
  simp only [bnd_some, cnd_true, iqt, andB, decide_true, Bool.and_self, Bool.and_true]
theorem f_laws_eqColorS {a : List TColor} (hg : (gdL tt) a) : laws_eqColorS a a = some true := by
  unfold laws_eqColorS
  have h := eq_loop (f := laws_eqColorS_l0 a a) (eqE := laws_eqColor) (fun x hx => f_laws_eqColor ) (fun _ => rfl) hg.1
  rw [iqt, cnd_true, h]; rfl
theorem f_laws_eqSurface {a : TSurface} (hg : gd_Surface a) : laws_eqSurface a a = some true := by
  have h0 := hg
  unfold laws_eqSurface
  simp only [bnd_some, cnd_true, iqt, andB, decide_true, Bool.and_self, Bool.and_true, f_laws_eqColorS h0]
end Go.Proofs.Ytoafihhhdnmliaa.Am
namespace Go.Proofs.Ytoafihhhdnmliaa.Am
open Go Go.Proofs
set_option linter.unusedSimpArgs false
set_option linter.unusedVariables false
set_option maxRecDepth 100000
/-! ## Small words -/
def tin (x a b : Int) : Bool := ile a x && ile x b
theorem tin_t {x a b : Int} : tin x a b = true ↔ a ≤ x ∧ x ≤ b := by simp [tin, ile_t]
@[simp] theorem m_spec_l01In (x a b : Int) : spec_l01In x a b = some (tin x a b) := by
  unfold spec_l01In tin; cases ile a x <;> simp
@[simp] theorem m_impl_inRange (x a b : Int) : impl_inRange x a b = some (tin x a b) := by
  unfold impl_inRange tin; cases ile a x <;> simp
@[simp] theorem m_impl_isSide (x : Int) : impl_isSide x = some (tin x 1 12) := by unfold impl_isSide; simp
def tileCount (w h : Int) : Int := if tin w 1 12 && tin h 1 12 then ((w + 3) / 4) * ((h + 3) / 4) else 0
theorem four {w : Int} (h : tin w 1 12 = true) : (w + 3) / 4 = 1 ∨ (w + 3) / 4 = 2 ∨ (w + 3) / 4 = 3 := by rw [tin_t] at h; omega
theorem wr9 {w h : Int} (hw : tin w 1 12 = true) (hh : tin h 1 12 = true) : IntKind.i64.wrap ((w + 3) / 4 * ((h + 3) / 4)) = (w + 3) / 4 * ((h + 3) / 4) := by
  refine wr_in ?_
  rcases four hw with e | e | e <;> rcases four hh with f | f | f <;> rw [e, f] <;> decide
theorem up4 {w : Int} (h : tin w 1 12 = true) : IntKind.i64.wrap ((IntKind.i64.wrap (w + 3)).tdiv 4) = (w + 3) / 4 := by
  rw [tin_t] at h
  rw [wr_in (n := w + 3) (by omega), Int.tdiv_eq_ediv_of_nonneg (by omega), wr_in (by omega)]
def TBox.empty (b : TBox) : Bool := ile b.x1 b.x0 || ile b.y1 b.y0
def TBox.zero : TBox := ⟨0, 0, 0, 0⟩
def meet (a b : TBox) : TBox :=
  let c : TBox := ⟨max a.x0 b.x0, max a.y0 b.y0, min a.x1 b.x1, min a.y1 b.y1⟩
  if c.empty then .zero else c
@[simp] theorem m_impl_Empty (b : TBox) : impl_Empty b = some b.empty := by
  unfold impl_Empty TBox.empty; cases ile b.x1 b.x0 <;> simp
@[simp] theorem m_impl_MeetBox (a b : TBox) : impl_MeetBox a b = some (meet a b) := by
  unfold impl_MeetBox meet
  simp
  cases h : TBox.empty ⟨max a.x0 b.x0, max a.y0 b.y0, min a.x1 b.x1, min a.y1 b.y1⟩ <;> simp [TBox.zero]
def tileBox (w h i : Int) : TBox :=
  if tin i 0 (tileCount w h - 1) then
    let x := i % ((w + 3) / 4) * 4
    let y := i / ((w + 3) / 4) * 4
    meet ⟨x, y, x + 4, y + 4⟩ ⟨0, 0, w, h⟩
  else .zero
theorem tc_bd (w h : Int) : 0 ≤ tileCount w h ∧ tileCount w h ≤ 9 := by
  unfold tileCount
  cases hw : tin w 1 12 <;> cases hh : tin h 1 12 <;> simp
  rcases four hw with e | e | e <;> rcases four hh with f | f | f <;> rw [e, f] <;> decide
@[simp] theorem tc_wrap (w h : Int) : IntKind.i64.wrap (tileCount w h - 1) = tileCount w h - 1 := by
  have := tc_bd w h
  exact wr_in (by omega)
theorem tb_facts {w h i : Int} (hi : tin i 0 (tileCount w h - 1) = true) : tin w 1 12 = true ∧ 0 ≤ i ∧ i ≤ 8 := by
  have := tc_bd w h
  rw [tin_t] at hi
  refine ⟨?_, by omega, by omega⟩
  cases hw : tin w 1 12 with
  | true => rfl
  | false =>
    have : tileCount w h = 0 := by simp [tileCount, hw]
    omega
theorem tb_x {r i : Int} (hr : r = 1 ∨ r = 2 ∨ r = 3) (h0 : 0 ≤ i) (h1 : i ≤ 8) : IntKind.i64.wrap (i.tmod r * 4) = i % r * 4 ∧ IntKind.i64.wrap (i % r * 4 + 4) = i % r * 4 + 4 ∧
    IntKind.i64.wrap (IntKind.i64.wrap (i.tdiv r) * 4) = i / r * 4 ∧ IntKind.i64.wrap (i / r * 4 + 4) = i / r * 4 + 4 := by
  rw [Int.tmod_eq_emod_of_nonneg h0, Int.tdiv_eq_ediv_of_nonneg h0]
  rcases hr with rfl | rfl | rfl
  · rw [wr_in (n := i / 1) (by omega)]; exact ⟨wr_in (by omega), wr_in (by omega), wr_in (by omega), wr_in (by omega)⟩
  · rw [wr_in (n := i / 2) (by omega)]; exact ⟨wr_in (by omega), wr_in (by omega), wr_in (by omega), wr_in (by omega)⟩
  · rw [wr_in (n := i / 3) (by omega)]; exact ⟨wr_in (by omega), wr_in (by omega), wr_in (by omega), wr_in (by omega)⟩
theorem four' {w : Int} (h : tin w 1 12 = true) : ¬ (w + 3) / 4 = 0 := by rcases four h with e | e | e <;> omega
/-! ## Draws -/
/-! ## Each square is in one tile -/
section
variable {a0 : List Int} {v3 v4 w h : Int}
end

/-! ## Loops that ask the same of all -/
theorem loopI_all {f : Int → Option (Int ⊕ (Unit ⊕ Unit))} (n : Nat) (p : Nat → Bool) (hn : n ≤ 9223372036854775807)
    (hs : ∀ i : Nat, i < n → f (i : Int) = cnd (p i) (some (.inl (IntKind.i64.wrap ((i : Int) + 1)))) (some (.inr (.inr ())))) (he : f (n : Int) = some (.inr (.inl ()))) :
    loopI f 0 = some (if (List.range n).all p then .inl () else .inr ()) := by
  have h := loopI_find (f := f) (fun i : Nat => (i : Int)) n (fun i => !(p i)) (fun _ => .inr ()) (r := .inl ()) (fun i hi => by
    rw [hs i hi, wr_in (by omega)]
    cases p i <;> simp) he
  have e : loopI f 0 = loopI f ((0 : Nat) : Int) := rfl
  rw [e, h]
  congr 1
  cases hq : (List.range n).find? (fun i => !(p i)) with
  | none =>
    rw [List.find?_eq_none] at hq
    have : (List.range n).all p = true := List.all_eq_true.2 fun x hx => by simpa using hq x hx
    rw [this]; rfl
  | some i =>
    have h1 := List.find?_some hq
    have h2 := List.mem_of_find?_eq_some hq
    have : (List.range n).all p = false := by
      rw [List.all_eq_false]; exact ⟨i, h2, by simpa using h1⟩
    rw [this]; rfl
theorem range_all {α : Type} {l : List α} {q : α → Bool} {p : Nat → Bool} (h : ∀ i (hi : i < l.length), p i = q l[i]) : (List.range l.length).all p = l.all q := by
  rw [Bool.eq_iff_iff, List.all_eq_true, List.all_eq_true]
  constructor
  · intro k x hx
    obtain ⟨i, hi, rfl⟩ := List.getElem_of_mem hx
    rw [← h i hi]; exact k i (List.mem_range.2 hi)
  · intro k i hi
    have hi := List.mem_range.1 hi
    rw [h i hi]; exact k _ (List.getElem_mem hi)
/-- Of a row, each element asked the same. -/
theorem loopI_row {α : Type} {l : List α} {f : Int → Option (Int ⊕ (Unit ⊕ Unit))} (q : α → Bool) (hn : l.length ≤ 9223372036854775807)
    (hs : ∀ (i : Nat) (h : i < l.length), f (i : Int) = cnd (q l[i]) (some (.inl (IntKind.i64.wrap ((i : Int) + 1)))) (some (.inr (.inr ())))) (he : f (l.length : Int) = some (.inr (.inl ()))) :
    loopI f 0 = some (if l.all q then .inl () else .inr ()) := by
  have h := loopI_all (f := f) l.length (fun i => if h : i < l.length then q l[i] else false) hn (fun i hi => by rw [hs i hi]; simp [hi]) he
  rw [h, range_all (q := q) (fun i hi => by simp [hi])]

/-! ## Masks -/
def TBox.isZero (b : TBox) : Bool := decide (b.x0 = 0) && (decide (b.y0 = 0) && (decide (b.x1 = 0) && (decide (b.y1 = 0))))
theorem empty_f {b : TBox} : b.empty = false ↔ b.x0 < b.x1 ∧ b.y0 < b.y1 := by simp [TBox.empty, ile_f]
/-! ## The first of a row that is asked for -/
/-! ## Caches -/
/-! ## Surfaces -/
def laidOk (c : TColor) : Bool := tin c.r 0 255 && tin c.g 0 255 && tin c.b 0 255 && tin c.a 0 255 && ile c.r c.a && ile c.g c.a && ile c.b c.a
def surfaceOk (s : TSurface) : Bool := tin s.w 1 12 && tin s.h 1 12 && decide ((s.pix.length : Int) = s.w * s.h) && s.pix.all laidOk
theorem m_spec_ColorOk (c : TColor) : spec_ColorOk c = some (tin c.r 0 255 && tin c.g 0 255 && tin c.b 0 255 && tin c.a 0 255) := by
  unfold spec_ColorOk
  simp only [m_spec_l01In, bnd_some]
  cases tin c.r 0 255 <;> cases tin c.g 0 255 <;> cases tin c.b 0 255 <;> simp
theorem m_impl_isByte (x : Int) : impl_isByte x = some (tin x 0 255) := by unfold impl_isByte; simp only [m_impl_inRange, bnd_some]
theorem m_impl_ColorOk (c : TColor) : impl_ColorOk c = some (tin c.r 0 255 && tin c.g 0 255 && tin c.b 0 255 && tin c.a 0 255) := by
  unfold impl_ColorOk
  simp only [m_impl_isByte, bnd_some]
  cases tin c.r 0 255 <;> cases tin c.g 0 255 <;> cases tin c.b 0 255 <;> simp
theorem m_spec_LaidOk (c : TColor) : spec_LaidOk c = some (laidOk c) := by
  unfold spec_LaidOk laidOk
  rw [m_spec_ColorOk, bnd_some]
  cases (tin c.r 0 255 && tin c.g 0 255 && tin c.b 0 255 && tin c.a 0 255) <;> simp
  cases ile c.r c.a <;> cases ile c.g c.a <;> simp
theorem m_impl_LaidOk (c : TColor) : impl_LaidOk c = some (laidOk c) := by
  unfold impl_LaidOk laidOk
  rw [m_impl_ColorOk, bnd_some]
  cases (tin c.r 0 255 && tin c.g 0 255 && tin c.b 0 255 && tin c.a 0 255) <;> simp
  cases ile c.r c.a <;> cases ile c.g c.a <;> simp
theorem wh_bd {w h : Int} (hw : tin w 1 12 = true) (hh : tin h 1 12 = true) : 1 ≤ w * h ∧ w * h ≤ 144 := by
  rw [tin_t] at hw hh
  refine ⟨?_, ?_⟩
  · calc (1 : Int) = 1 * 1 := rfl
      _ ≤ w * 1 := Int.mul_le_mul_of_nonneg_right hw.1 (by omega)
      _ ≤ w * h := Int.mul_le_mul_of_nonneg_left hh.1 (by omega)
  · calc w * h ≤ 12 * h := Int.mul_le_mul_of_nonneg_right hw.2 (by omega)
      _ ≤ 12 * 12 := Int.mul_le_mul_of_nonneg_left hh.2 (by omega)
theorem m_spec_SurfaceOk {s : TSurface} (h : s.pix.length ≤ 9223372036854775807) : spec_SurfaceOk s = some (surfaceOk s) := by
  unfold spec_SurfaceOk surfaceOk
  simp only [m_spec_l01In, bnd_some]
  cases h1 : tin s.w 1 12 <;> simp only [cnd_true, cnd_false, Bool.false_and, Bool.true_and]
  cases h2 : tin s.h 1 12 <;> simp only [cnd_true, cnd_false, Bool.false_and, Bool.true_and]
  have := wh_bd h1 h2
  rw [wr_in (by omega)]
  by_cases h3 : (s.pix.length : Int) = s.w * s.h
  · have key := loopI_row (l := s.pix) (f := spec_SurfaceOk_l0 s) laidOk h (fun i hi => by rw [spec_SurfaceOk_l0, ilf (by omega), cnd_false, idx_nat hi, bnd_some, m_spec_LaidOk, bnd_some]) (by rw [spec_SurfaceOk_l0, ilt (by omega), cnd_true])
    rw [key, h3, iqt, cnd_true]
    cases s.pix.all laidOk <;> simp
  · rw [iqf h3, cnd_false]; simp [h3]
theorem m_impl_SurfaceOk {s : TSurface} (h : s.pix.length ≤ 9223372036854775807) : impl_SurfaceOk s = some (surfaceOk s) := by
  unfold impl_SurfaceOk surfaceOk
  simp only [m_impl_isSide, bnd_some]
  cases h1 : tin s.w 1 12 <;> simp only [cnd_true, cnd_false, Bool.false_and, Bool.true_and]
  cases h2 : tin s.h 1 12 <;> simp only [cnd_true, cnd_false, Bool.false_and, Bool.true_and]
  have := wh_bd h1 h2
  rw [wr_in (by omega)]
  by_cases h3 : (s.pix.length : Int) = s.w * s.h
  · have key := loopI_row (l := s.pix) (f := impl_SurfaceOk_l0 s) laidOk h (fun i hi => by rw [impl_SurfaceOk_l0, ilf (by omega), cnd_false, idx_nat hi, bnd_some, m_impl_LaidOk, bnd_some]) (by rw [impl_SurfaceOk_l0, ilt (by omega), cnd_true])
    rw [key, h3, iqt, cnd_true]
    cases s.pix.all laidOk <;> simp
  · rw [iqf h3, cnd_false]; simp [h3]
theorem so_facts {s : TSurface} (h : surfaceOk s = true) : tin s.w 1 12 = true ∧ tin s.h 1 12 = true ∧ (s.pix.length : Int) = s.w * s.h ∧ ∀ c ∈ s.pix, laidOk c = true := by
  simp only [surfaceOk, Bool.and_eq_true, decide_eq_true_eq, List.all_eq_true] at h
  exact ⟨h.1.1.1, h.1.1.2, h.1.2, h.2⟩

/-! ## Loops from a number to another one -/
theorem in_wh {w h x y : Int} (hw : 0 ≤ w ∧ w ≤ 12) (hh : 0 ≤ h ∧ h ≤ 12) (hx : 0 ≤ x ∧ x < w) (hy : 0 ≤ y ∧ y < h) : 0 ≤ y * w ∧ y * w ≤ 144 ∧ y * w + x < w * h := by
  have h1 : y * w ≤ (h - 1) * w := Int.mul_le_mul_of_nonneg_right (by omega) (by omega)
  have h2 : 0 ≤ y * w := Int.mul_nonneg hy.1 hw.1
  have h3 : y * w ≤ 12 * w := Int.mul_le_mul_of_nonneg_right (by omega) hw.1
  have h4 : (h - 1) * w = w * h - w := by rw [Int.sub_mul, Int.one_mul, Int.mul_comm]
  omega

/-! ## Sparing -/
/-! ## Marks -/
def marked {α : Type} (mk : Int → α) (c k : Int) (n : Nat) : List α := (List.range n).map fun i : Nat => mk (k + c * (i : Int))
theorem marked_len {α : Type} {mk : Int → α} {c k : Int} {n : Nat} : (marked mk c k n).length = n := by simp [marked]
theorem cmul {c : Int} {i n : Nat} (hc : 0 ≤ c ∧ c ≤ 64) (hi : i ≤ n) (hn : n ≤ 1048576) : 0 ≤ c * (i : Int) ∧ c * (i : Int) ≤ 67108864 := by
  refine ⟨Int.mul_nonneg hc.1 (by omega), ?_⟩
  calc c * (i : Int) ≤ 64 * (i : Int) := Int.mul_le_mul_of_nonneg_right hc.2 (by omega)
    _ ≤ 67108864 := by omega
theorem csucc {c : Int} {i : Nat} : c * ((i + 1 : Nat) : Int) = c * (i : Int) + c := by
  rw [show ((i + 1 : Nat) : Int) = (i : Int) + 1 by omega, Int.mul_add, Int.mul_one]
theorem mark_loop {α : Type} (c : Int) (mk : Int → α) {f : Int × Int × List α → Option ((Int × Int × List α) ⊕ (List α × Int))} {a : List α} {k0 : Int} (hc : 0 ≤ c ∧ c ≤ 64) (h0 : 0 ≤ k0 ∧ k0 ≤ 1099511627776) (ha : a.length ≤ 1048576)
    (he : ∀ (k : Int) (l : List α), f (k, (l.length : Int), l) = some (.inr (l, k)))
    (hf : ∀ (k : Int) (i : Nat) (l : List α), i < l.length → l.length ≤ 1048576 → 0 ≤ k → k ≤ 4398046511104 → f (k, (i : Int), l) = some (.inl (k + c, ((i + 1 : Nat) : Int), l.set i (mk k)))) :
    loopI f (k0, 0, a) = some (marked mk c k0 a.length, k0 + c * (a.length : Int)) := by
  have key := loopI_n (f := f) (fun i => (k0 + c * (i : Int), (i : Int), marked mk c k0 i ++ a.drop i)) a.length (r := (marked mk c k0 a.length, k0 + c * (a.length : Int))) (fun i hi => ?_) ?_
  · have e : (k0 + c * ((0 : Nat) : Int), ((0 : Nat) : Int), marked mk c k0 0 ++ a.drop 0) = (k0, 0, a) := by simp [marked]
    rwa [e] at key
  · obtain ⟨b1, b2⟩ := cmul (n := a.length) hc (Nat.le_of_lt hi) ha
    have hl : (marked mk c k0 i ++ a.drop i).length = a.length := by simp [marked_len]; omega
    rw [hf _ i _ (by omega) (by omega) (by omega) (by omega)]
    have e1 : k0 + c * (i : Int) + c = k0 + c * ((i + 1 : Nat) : Int) := by rw [csucc]; omega
    have e2 : (marked mk c k0 i ++ a.drop i).set i (mk (k0 + c * (i : Int))) = marked mk c k0 (i + 1) ++ a.drop (i + 1) := by
      have h1 : a.drop i = a[i] :: a.drop (i + 1) := List.drop_eq_getElem_cons hi
      rw [List.set_append_right _ _ (by rw [marked_len]; omega), marked_len, Nat.sub_self, h1, List.set_cons_zero]
      unfold marked
      rw [List.range_succ, List.map_append, List.append_assoc]
      rfl
    rw [e1, e2]
  · have e : marked mk c k0 a.length ++ a.drop a.length = marked mk c k0 a.length := by simp
    try dsimp only
    rw [e]
    have := he (k0 + c * (a.length : Int)) (marked mk c k0 a.length)
    rwa [marked_len] at this
theorem held_loop {α : Type} (c : Int) (mk : Int → α) {f : Int × Int → Option ((Int × Int) ⊕ (Int ⊕ Unit))} {n : Nat} {k0 : Int} (hc : 0 ≤ c ∧ c ≤ 64) (h0 : 0 ≤ k0 ∧ k0 ≤ 1099511627776) (hn : n ≤ 1048576)
    (he : ∀ k : Int, f (k, (n : Int)) = some (.inr (.inl k)))
    (hf : ∀ (k : Int) (i : Nat) (x : α), (marked mk c k0 n)[i]? = some x → i < n → x = mk k → 0 ≤ k → k ≤ 4398046511104 → f (k, (i : Int)) = some (.inl (k + c, ((i + 1 : Nat) : Int)))) :
    loopI f (k0, 0) = some (.inl (k0 + c * (n : Int))) := by
  have key := loopI_n (f := f) (fun i => (k0 + c * (i : Int), (i : Int))) n (r := .inl (k0 + c * (n : Int))) (fun i hi => ?_) (he _)
  · have e : (k0 + c * ((0 : Nat) : Int), ((0 : Nat) : Int)) = (k0, (0 : Int)) := by simp
    rwa [e] at key
  · obtain ⟨b1, b2⟩ := cmul (n := n) hc (Nat.le_of_lt hi) hn
    rw [hf (k0 + c * (i : Int)) i (mk (k0 + c * (i : Int))) (by unfold marked; rw [List.getElem?_map, List.getElem?_range hi]; rfl) hi rfl (by omega) (by omega)]
    rw [csucc, Int.add_assoc]
theorem idx_set {α : Type} {l : List α} {i : Nat} {x : α} (h : i < l.length) : idx (l.set i x) (i : Int) = some x := by
  refine idx_some ?_
  rw [List.getElem?_set_self h]
theorem m_markColorS {k : Int} {l : List TColor} (hk : 0 ≤ k ∧ k ≤ 1099511627776) (hl : l.length ≤ 1048576) : laws_markColorS k l = some (k + 4 * (l.length : Int), marked (fun k => ⟨k, k + 1, k + 1 + 1, k + 1 + 1 + 1⟩) 4 k l.length) := by
  unfold laws_markColorS
  rw [mark_loop (f := laws_markColorS_l0) 4 (fun k => (⟨k, k + 1, k + 1 + 1, k + 1 + 1 + 1⟩ : TColor)) (by omega) hk hl (fun k l => by rw [laws_markColorS_l0, ilt (by omega), cnd_true]) (fun k i l hi hl h0 h1 => by
    rw [laws_markColorS_l0, ilf (by omega), cnd_false, idx_nat hi, bnd_some, wr_in (n := k + 1) (by omega), wr_in (n := k + 1 + 1) (by omega), wr_in (n := k + 1 + 1 + 1) (by omega), wr_in (n := k + 1 + 1 + 1 + 1) (by omega), wr_in (n := (i : Int) + 1) (by omega)]
    simp only [nam_eq, Int.toNat_natCast]
    rw [idx_set hi, bnd_some, List.set_set, idx_set hi, bnd_some, List.set_set, idx_set hi, bnd_some, List.set_set]
    congr 2
    · congr 1; omega)]
  rfl
theorem m_heldColorS {k : Int} {n : Nat} (hk : 0 ≤ k ∧ k ≤ 1099511627776) (hl : n ≤ 1048576) : laws_heldColorS (marked (fun k => ⟨k, k + 1, k + 1 + 1, k + 1 + 1 + 1⟩) 4 k n) k = some (k + 4 * (n : Int)) := by
  unfold laws_heldColorS
  rw [held_loop (f := laws_heldColorS_l0 (marked (fun k => ⟨k, k + 1, k + 1 + 1, k + 1 + 1 + 1⟩) 4 k n)) 4 (fun k => (⟨k, k + 1, k + 1 + 1, k + 1 + 1 + 1⟩ : TColor)) (n := n) (by omega) hk hl (fun k => by rw [laws_heldColorS_l0, marked_len, ilt (by omega), cnd_true]) (fun k i x hx hi he h0 h1 => by
    rw [laws_heldColorS_l0, marked_len, ilf (by omega), cnd_false, idx_some hx, bnd_some, he, wr_in (n := k + 1) (by omega), wr_in (n := k + 1 + 1) (by omega), wr_in (n := k + 1 + 1 + 1) (by omega), wr_in (n := k + 1 + 1 + 1 + 1) (by omega), wr_in (n := (i : Int) + 1) (by omega)]
    simp only [iqt, cnd_true]
    congr 2
    · congr 1; omega)]
  rfl

/-! ## TilesOf -/
/-! ## Painting a part of a surface -/
section
variable {α : Type}
/-- Is a place in the rows that are done, or in the row at work, left of x? -/
def inPart (w x0 x1 y0 y x : Int) (k : Nat) : Bool := decide ((y0 ≤ (k : Int) / w ∧ (k : Int) / w < y ∧ x0 ≤ (k : Int) % w ∧ (k : Int) % w < x1) ∨ ((k : Int) / w = y ∧ x0 ≤ (k : Int) % w ∧ (k : Int) % w < x ∧ (k : Int) % w < x1))
def inRect (w x0 x1 y0 y1 : Int) (k : Nat) : Bool := decide (y0 ≤ (k : Int) / w ∧ (k : Int) / w < y1 ∧ x0 ≤ (k : Int) % w ∧ (k : Int) % w < x1)
def ptd (P : Nat → Bool) (H : Nat → α → α) (p : List α) : List α := p.mapIdx fun k c => if P k then H k c else c
theorem ptd_len {P : Nat → Bool} {H : Nat → α → α} {p : List α} : (ptd P H p).length = p.length := by simp [ptd]
theorem ptd_get {P : Nat → Bool} {H : Nat → α → α} {p : List α} {k : Nat} (hk : k < p.length) : (ptd P H p)[k]? = some (if P k then H k p[k] else p[k]) := by
  unfold ptd; rw [List.getElem?_mapIdx, List.getElem?_eq_getElem hk]; rfl
theorem ptd_set {P Q : Nat → Bool} {H : Nat → α → α} {p : List α} {j : Nat} (hj : j < p.length) (hP : P j = false) (hQ : ∀ k, k < p.length → Q k = (P k || decide (k = j))) : (ptd P H p).set j (H j p[j]) = ptd Q H p := by
  refine List.ext_getElem? fun k => ?_
  by_cases hk : k < p.length
  · rw [ptd_get hk, List.getElem?_set, ptd_len]
    by_cases hkj : j = k
    · subst hkj; rw [if_pos rfl, if_pos hj, hQ _ hk]; simp
    · rw [if_neg hkj, ptd_get hk, hQ _ hk]
      have : decide (k = j) = false := by simp; omega
      rw [this, Bool.or_false]
  · rw [List.getElem?_eq_none (by rw [List.length_set, ptd_len]; omega), List.getElem?_eq_none (by rw [ptd_len]; omega)]
theorem ptd_congr {P Q : Nat → Bool} {H G : Nat → α → α} {p : List α} (h : ∀ k (hk : k < p.length), P k = Q k) (hg : ∀ k (hk : k < p.length), Q k = true → H k p[k] = G k p[k]) : ptd P H p = ptd Q G p := by
  refine List.ext_getElem? fun k => ?_
  by_cases hk : k < p.length
  · rw [ptd_get hk, ptd_get hk, h k hk]
    cases hq : Q k with
    | true => rw [if_pos rfl, if_pos rfl, hg k hk hq]
    | false => rfl
  · rw [List.getElem?_eq_none (by rw [ptd_len]; omega), List.getElem?_eq_none (by rw [ptd_len]; omega)]
theorem div_at {w x y : Int} (hw : 0 < w) (hx : 0 ≤ x ∧ x < w) : (y * w + x) / w = y ∧ (y * w + x) % w = x := by
  constructor
  · rw [Int.add_comm, Int.add_mul_ediv_right _ _ (by omega), Int.ediv_eq_zero_of_lt hx.1 hx.2]; omega
  · rw [Int.add_comm, Int.add_mul_emod_self_right, Int.emod_eq_of_lt hx.1 hx.2]
theorem place_at {w x y : Int} {k : Nat} (hw : 0 < w) (h1 : (k : Int) / w = y) (h2 : (k : Int) % w = x) : (k : Int) = y * w + x := by
  have := Int.mul_ediv_add_emod (k : Int) w
  rw [h1, h2, Int.mul_comm] at this
  exact this.symm
theorem paint2 {w h x0 x1 y0 y1 : Int} {p : List α} {H : Nat → α → α} {f0 : Int → Int × List α → Option ((Int × List α) ⊕ List α)} {f1 : Int × List α → Option ((Int × List α) ⊕ List α)}
    (hw : 1 ≤ w ∧ w ≤ 12) (hh : 1 ≤ h ∧ h ≤ 12) (hx : 0 ≤ x0 ∧ x1 ≤ w) (hy : 0 ≤ y0 ∧ y1 ≤ h) (hp : (p.length : Int) = w * h)
    (h0 : ∀ y x l c, y0 ≤ y → y < y1 → x0 ≤ x → x < x1 → l.length = p.length → l[(y * w + x).toNat]? = some c → p[(y * w + x).toNat]? = some c → f0 y (x, l) = some (.inl (x + 1, l.set (y * w + x).toNat (H (y * w + x).toNat c))))
    (e0 : ∀ y x l, x1 ≤ x → f0 y (x, l) = some (.inr l))
    (h1 : ∀ y l, y0 ≤ y → y < y1 → f1 (y, l) = bnd (loopI (f0 y) (x0, l)) fun l => some (.inl (y + 1, l)))
    (e1 : ∀ y l, y1 ≤ y → f1 (y, l) = some (.inr l)) :
    loopI f1 (y0, p) = some (ptd (inRect w x0 x1 y0 y1) H p) := by
  have row : ∀ y, y0 ≤ y → y < y1 → loopI (f0 y) (x0, ptd (inPart w x0 x1 y0 y x0) H p) = some (ptd (inPart w x0 x1 y0 (y + 1) x0) H p) := by
    intro y hy0 hy1
    have key := loopI_n (f := f0 y) (fun i : Nat => (x0 + (i : Int), ptd (inPart w x0 x1 y0 y (x0 + (i : Int))) H p)) (x1 - x0).toNat (r := ptd (inPart w x0 x1 y0 (y + 1) x0) H p) (fun i hi => ?_) ?_
    · have e : (x0 + ((0 : Nat) : Int), ptd (inPart w x0 x1 y0 y (x0 + ((0 : Nat) : Int))) H p) = (x0, ptd (inPart w x0 x1 y0 y x0) H p) := by
        rw [show x0 + ((0 : Nat) : Int) = x0 by omega]
      rwa [e] at key
    · obtain ⟨b1, b2, b3⟩ := in_wh (w := w) (h := h) (x := x0 + (i : Int)) (y := y) ⟨by omega, hw.2⟩ ⟨by omega, hh.2⟩ ⟨by omega, by omega⟩ ⟨by omega, by omega⟩
      have hlt : (y * w + (x0 + (i : Int))).toNat < p.length := by omega
      have hcast : (((y * w + (x0 + (i : Int))).toNat : Nat) : Int) = y * w + (x0 + (i : Int)) := by omega
      obtain ⟨d1, d2⟩ := div_at (w := w) (x := x0 + (i : Int)) (y := y) (by omega) ⟨by omega, by omega⟩
      have hP : inPart w x0 x1 y0 y (x0 + (i : Int)) (y * w + (x0 + (i : Int))).toNat = false := by
        unfold inPart; rw [hcast, d1, d2]; simp; try omega
      have hg : (ptd (inPart w x0 x1 y0 y (x0 + (i : Int))) H p)[(y * w + (x0 + (i : Int))).toNat]? = some p[(y * w + (x0 + (i : Int))).toNat] := by rw [ptd_get hlt, hP]; rfl
      rw [h0 y _ _ _ hy0 hy1 (by omega) (by omega) ptd_len hg (List.getElem?_eq_getElem hlt)]
      rw [ptd_set (Q := inPart w x0 x1 y0 y (x0 + ((i + 1 : Nat) : Int))) hlt hP (fun k hk => ?_)]
      · congr 3; try omega
      · unfold inPart
        rw [← Bool.decide_or]
        refine decide_eq_decide.2 ?_
        constructor
        · rintro (h | ⟨h2, h3, h4, h5⟩)
          · exact .inl (.inl h)
          · by_cases h6 : (k : Int) % w < x0 + (i : Int)
            · exact .inl (.inr ⟨h2, h3, h6, h5⟩)
            · right
              have := place_at (k := k) (x := x0 + (i : Int)) (by omega) h2 (by omega)
              omega
        · rintro ((h | ⟨h2, h3, h4, h5⟩) | h)
          · exact .inl h
          · exact .inr ⟨h2, h3, by omega, h5⟩
          · right
            have hk2 : (k : Int) = y * w + (x0 + (i : Int)) := by omega
            rw [hk2, d1, d2]
            exact ⟨rfl, by omega, by omega, by omega⟩
    · rw [e0 _ _ _ (by omega)]
      congr 2
      refine ptd_congr (fun k hk => ?_) (fun _ _ _ => rfl)
      unfold inPart
      refine decide_eq_decide.2 ?_
      constructor
      · rintro (⟨h2, h3, h4, h5⟩ | ⟨h2, h3, h4, h5⟩)
        · exact .inl ⟨h2, by omega, h4, h5⟩
        · exact .inl ⟨by omega, by omega, h3, h5⟩
      · rintro (⟨h2, h3, h4, h5⟩ | ⟨h2, h3, h4, h5⟩)
        · by_cases h6 : (k : Int) / w < y
          · exact .inl ⟨h2, h6, h4, h5⟩
          · exact .inr ⟨by omega, h4, by omega, h5⟩
        · omega
  have key := loopI_n (f := f1) (fun j : Nat => (y0 + (j : Int), ptd (inPart w x0 x1 y0 (y0 + (j : Int)) x0) H p)) (y1 - y0).toNat (r := ptd (inRect w x0 x1 y0 y1) H p) (fun j hj => ?_) ?_
  · have e : (y0 + ((0 : Nat) : Int), ptd (inPart w x0 x1 y0 (y0 + ((0 : Nat) : Int)) x0) H p) = (y0, p) := by
      rw [show y0 + ((0 : Nat) : Int) = y0 by omega]
      congr 1
      refine List.ext_getElem? fun k => ?_
      by_cases hk : k < p.length
      · rw [ptd_get hk, List.getElem?_eq_getElem hk]
        have : inPart w x0 x1 y0 y0 x0 k = false := by unfold inPart; simp; omega
        rw [this]; rfl
      · rw [List.getElem?_eq_none (by rw [ptd_len]; omega), List.getElem?_eq_none (by omega)]
    rwa [e] at key
  · rw [h1 _ _ (by omega) (by omega), row _ (by omega) (by omega), bnd_some]
    congr 3
    · omega
    · rw [show y0 + ((j + 1 : Nat) : Int) = y0 + (j : Int) + 1 by omega]
  · rw [e1 _ _ (by omega)]
    congr 2
    refine ptd_congr (fun k hk => ?_) (fun _ _ _ => rfl)
    unfold inPart inRect
    refine decide_eq_decide.2 ?_
    constructor
    · rintro (⟨h2, h3, h4, h5⟩ | ⟨h2, h3, h4, h5⟩)
      · exact ⟨h2, by omega, h4, h5⟩
      · omega
    · rintro ⟨h2, h3, h4, h5⟩
      exact .inl ⟨h2, by omega, h4, h5⟩
end

/-! ## Colours: the program's words are the reference's -/
theorem s_RoundDiv (a b : Int) : impl_RoundDiv a b = spec_RoundDiv a b := rfl
theorem s_Times255 (a b : Int) : impl_Times255 a b = spec_Times255 a b := rfl
theorem t_Clamp (a b c : Int) : ∃ r, spec_Clamp a b c = some r := by
  unfold spec_Clamp; cases ile b a <;> cases ile a c <;> exact ⟨_, rfl⟩
theorem t_FloorDiv (a b : Int) : ∃ r, spec_FloorDiv a b = some r := by
  unfold spec_FloorDiv
  cases h : ile 1 b
  · exact ⟨_, rfl⟩
  · rw [ile_t] at h
    rw [cnd_true, chkP_pos (by omega)]
    cases ile 0 (a.tmod b) <;> exact ⟨_, rfl⟩
theorem t_RoundDiv (a b : Int) : ∃ r, spec_RoundDiv a b = some r := by
  unfold spec_RoundDiv
  cases ile 1 b
  · exact ⟨_, rfl⟩
  · obtain ⟨v, e⟩ := t_FloorDiv a b
    rw [cnd_true, e, bnd_some]
    cases ile (IntKind.i64.wrap (b - IntKind.i64.wrap (a - IntKind.i64.wrap (v * b)))) (IntKind.i64.wrap (a - IntKind.i64.wrap (v * b))) <;> exact ⟨_, rfl⟩
theorem t_Times255 (a b : Int) : ∃ r, spec_Times255 a b = some r := by
  unfold spec_Times255
  obtain ⟨v, e⟩ := t_Clamp a 0 255
  obtain ⟨w, f⟩ := t_Clamp b 0 255
  rw [e, bnd_some, f, bnd_some]
  obtain ⟨u, g⟩ := t_RoundDiv (IntKind.i64.wrap (v * w)) 255
  rw [g]; exact ⟨_, rfl⟩
theorem t_cut (x : Int) : cnd (ile x 255) (some x) (some 255) = some (min x 255) := by
  cases h : ile x 255
  · rw [ile_f] at h; rw [cnd_false]; congr 1; omega
  · rw [ile_t] at h; rw [cnd_true]; congr 1; omega
theorem t_l13Part (m s d sa da : Int) : ∃ r, spec_l13Part m s d sa da = some r := by
  unfold spec_l13Part
  simp only [t_cut]
  obtain ⟨a, ea⟩ := t_Times255 d (IntKind.i64.wrap (255 - sa))
  obtain ⟨b, eb⟩ := t_RoundDiv (IntKind.i64.wrap ((IntKind.i64.wrap ((IntKind.i64.wrap (s * d)) + (IntKind.i64.wrap (s * (IntKind.i64.wrap (255 - da)))))) + (IntKind.i64.wrap (d * (IntKind.i64.wrap (255 - sa)))))) 255
  obtain ⟨c, ec⟩ := t_RoundDiv (IntKind.i64.wrap (s * d)) 255
  rw [ea, eb, ec]
  simp only [bnd_some]
  cases ieq m 1 <;> cases ieq m 2 <;> cases ieq m 3 <;> cases ieq m 4 <;> cases ieq m 5 <;> exact ⟨_, rfl⟩
theorem s_part {m s d sa da : Int} (hm : tin m 1 5 = true) : impl_Blend_1 s d (IntKind.i64.wrap (255 - sa)) m (IntKind.i64.wrap (255 - da)) = spec_l13Part m s d sa da := by
  unfold impl_Blend_1 spec_l13Part
  simp only [t_cut]
  rw [s_Times255]
  obtain ⟨a, ea⟩ := t_Times255 d (IntKind.i64.wrap (255 - sa))
  rw [ea, bnd_some, bnd_some]
  rw [tin_t] at hm
  by_cases h1 : m = 1
  · subst h1; rw [iqt, cnd_true, cnd_true, Int.add_comm a s]
  rw [iqf h1, cnd_false, cnd_false]
  by_cases h2 : m = 2
  · subst h2; rw [iqt, cnd_true, cnd_true, s_RoundDiv]
  rw [iqf h2, cnd_false, cnd_false]
  by_cases h3 : m = 3
  · subst h3; rw [iqt, cnd_true, cnd_true, s_RoundDiv]
  rw [iqf h3, cnd_false, cnd_false]
  by_cases h4 : m = 4
  · subst h4; rw [iqt, cnd_true, cnd_true]
  rw [iqf h4, cnd_false, cnd_false]
  have h5 : m = 5 := by omega
  subst h5; rw [iqt, cnd_true, bnd_some]
theorem t_Blend (m : Int) (s d : TColor) : ∃ r, spec_Blend m s d = some r := by
  unfold spec_Blend
  rw [m_spec_LaidOk, m_spec_LaidOk, bnd_some, bnd_some]
  obtain ⟨a, ea⟩ := t_l13Part m s.r d.r s.a d.a
  obtain ⟨b, eb⟩ := t_l13Part m s.g d.g s.a d.a
  obtain ⟨c, ec⟩ := t_l13Part m s.b d.b s.a d.a
  obtain ⟨e, ee⟩ := t_l13Part m s.a d.a s.a d.a
  rw [ea, eb, ec, ee]
  cases laidOk s <;> cases laidOk d <;> exact ⟨_, rfl⟩
theorem laid_facts {c : TColor} (h : laidOk c = true) : (0 ≤ c.r ∧ c.r ≤ 255) ∧ (0 ≤ c.g ∧ c.g ≤ 255) ∧ (0 ≤ c.b ∧ c.b ≤ 255) ∧ (0 ≤ c.a ∧ c.a ≤ 255) ∧ c.r ≤ c.a ∧ c.g ≤ c.a ∧ c.b ≤ c.a := by
  simp only [laidOk, Bool.and_eq_true, tin_t, ile_t] at h
  omega
theorem part_no {m s d sa da : Int} (hm : tin m 1 5 = false) (hd : d ≤ 255) : spec_l13Part m s d sa da = some d := by
  have h : ¬ (1 ≤ m ∧ m ≤ 5) := by rw [← tin_t, hm]; simp
  unfold spec_l13Part
  rw [iqf (by omega), iqf (by omega), iqf (by omega), iqf (by omega), iqf (by omega)]
  simp only [cnd_false]
  rw [ilt hd, cnd_true]
theorem s_Blend (m : Int) (s d : TColor) : impl_Blend m s d = spec_Blend m s d := by
  unfold impl_Blend spec_Blend impl_isMode
  rw [m_impl_inRange, bnd_some, bnd_some, m_impl_LaidOk, m_impl_LaidOk, m_spec_LaidOk, m_spec_LaidOk]
  simp only [bnd_some]
  cases hs : laidOk s
  · simp only [cnd_false]; cases tin m 1 5 <;> rfl
  cases hd : laidOk d
  · simp only [cnd_false, cnd_true]; cases tin m 1 5 <;> rfl
  simp only [cnd_true]
  cases hm : tin m 1 5
  · obtain ⟨h1, h2, h3, h4, _⟩ := laid_facts hd
    rw [cnd_false, part_no hm h1.2, part_no hm h2.2, part_no hm h3.2, part_no hm h4.2]; rfl
  · rw [cnd_true]
    unfold impl_each_2
    rw [s_part hm, s_part hm, s_part hm, s_part hm]
    obtain ⟨a, ea⟩ := t_l13Part m s.r d.r s.a d.a
    obtain ⟨b, eb⟩ := t_l13Part m s.g d.g s.a d.a
    obtain ⟨c, ec⟩ := t_l13Part m s.b d.b s.a d.a
    obtain ⟨e, ee⟩ := t_l13Part m s.a d.a s.a d.a
    rw [ea, eb, ec, ee]; rfl
theorem t_Fade (c : TColor) (n : Int) : ∃ r, spec_Fade c n = some r := by
  unfold spec_Fade
  rw [m_spec_LaidOk, m_spec_l01In, bnd_some, bnd_some]
  obtain ⟨a, ea⟩ := t_Times255 c.r n
  obtain ⟨b, eb⟩ := t_Times255 c.g n
  obtain ⟨d, ed⟩ := t_Times255 c.b n
  obtain ⟨e, ee⟩ := t_Times255 c.a n
  rw [ea, eb, ed, ee]
  cases laidOk c <;> cases tin n 0 255 <;> exact ⟨_, rfl⟩
theorem s_Fade (c : TColor) (n : Int) : impl_Fade c n = spec_Fade c n := by
  unfold impl_Fade spec_Fade
  rw [m_impl_isByte, bnd_some, m_impl_LaidOk, m_spec_LaidOk, m_spec_l01In]
  simp only [bnd_some]
  cases laidOk c <;> cases tin n 0 255 <;> simp only [cnd_true, cnd_false]
  unfold impl_each impl_Fade_1
  rw [s_Times255, s_Times255, s_Times255, s_Times255]
  obtain ⟨a, ea⟩ := t_Times255 c.r n
  obtain ⟨b, eb⟩ := t_Times255 c.g n
  obtain ⟨d, ed⟩ := t_Times255 c.b n
  obtain ⟨e, ee⟩ := t_Times255 c.a n
  rw [ea, eb, ed, ee]; rfl

/-! ## LayOver -/
noncomputable def lay1 (m fade : Int) (c old : TColor) : TColor := (bnd (spec_Fade c fade) fun v => spec_Blend m v old).getD old
theorem lay1_eq (m fade : Int) (c old : TColor) : (bnd (spec_Fade c fade) fun v => spec_Blend m v old) = some (lay1 m fade c old) := by
  unfold lay1
  obtain ⟨v, e⟩ := t_Fade c fade
  rw [e, bnd_some]
  obtain ⟨u, f⟩ := t_Blend m v old
  rw [f]; rfl
def layH (b : TSurface) (m fade : Int) (F : Int → Int → TColor → TColor → TColor) (k : Nat) (old : TColor) : TColor := match b.pix[k]? with
  | some c => F m fade c old
  | none => old
noncomputable def layOver (a b : TSurface) (m fade : Int) : TSurface := if surfaceOk a && surfaceOk b && decide (a.w = b.w) && decide (a.h = b.h) then ⟨a.w, a.h, ptd (fun _ => true) (layH b m fade lay1) a.pix⟩ else a
theorem full_rect {w h : Int} {n : Nat} (hw : 1 ≤ w ∧ w ≤ 12) (hh : 1 ≤ h ∧ h ≤ 12) (hn : (n : Int) = w * h) (k : Nat) (hk : k < n) : inRect w 0 w 0 h k = true := by
  unfold inRect
  have h1 : 0 ≤ (k : Int) / w := Int.ediv_nonneg (by omega) (by omega)
  have h2 : 0 ≤ (k : Int) % w := Int.emod_nonneg _ (by omega)
  have h3 : (k : Int) % w < w := Int.emod_lt_of_pos _ (by omega)
  have h4 : (k : Int) / w < h := by
    refine Int.ediv_lt_of_lt_mul (by omega) ?_
    rw [Int.mul_comm h w]; omega
  simp [h1, h2, h3, h4]
theorem meet_full {w h : Int} (hw : 1 ≤ w ∧ w ≤ 12) (hh : 1 ≤ h ∧ h ≤ 12) : meet ⟨0, 0, w, h⟩ ⟨0, 0, w, h⟩ = ⟨0, 0, w, h⟩ := by
  unfold meet
  have : TBox.empty ⟨max 0 0, max 0 0, min w w, min h h⟩ = false := by rw [empty_f]; dsimp only; omega
  dsimp only
  rw [this]; simp
theorem m_impl_LayOver {a b : TSurface} {m fade : Int} (ha : a.pix.length ≤ 1048576) (hb : b.pix.length ≤ 1048576) : impl_LayOver a b m fade = some ((layOver a b m fade).w, (layOver a b m fade).h, (layOver a b m fade).pix) := by
  unfold impl_LayOver impl_copySurface slices_Clone_Color layOver
  rw [chkP_pos (by omega), bnd_some, bnd_some]
  dsimp only
  by_cases h1 : a.w = b.w
  case neg => rw [iqf h1, cnd_false]; simp [h1]
  by_cases h2 : a.h = b.h
  case neg => rw [iqf h2, h1, iqt, cnd_true, cnd_false]; simp [h2]; omega
  rw [← h1, ← h2, iqt, iqt, cnd_true, cnd_true, m_impl_SurfaceOk (by omega), bnd_some]
  cases h3 : surfaceOk a
  · simp
  rw [cnd_true, m_impl_SurfaceOk (by omega), bnd_some]
  cases h4 : surfaceOk b
  · simp
  rw [cnd_true]
  simp only [Bool.and_self, decide_true, if_true]
  obtain ⟨sw, sh, sp, _⟩ := so_facts h3
  obtain ⟨_, _, sq, _⟩ := so_facts h4
  rw [tin_t] at sw sh
  unfold impl_Surface_box impl_Surface_paint impl_Surface_box
  rw [bnd_some]
  try dsimp only
  rw [bnd_some, m_impl_MeetBox, bnd_some]
  try dsimp only
  rw [meet_full sw sh]
  have key := paint2 (w := a.w) (h := a.h) (x0 := 0) (x1 := a.w) (y0 := 0) (y1 := a.h) (p := a.pix) (H := layH b m fade lay1) (f0 := fun y => impl_Surface_paint_l0 a.w a.h m b fade ⟨0, 0, a.w, a.h⟩ y) (f1 := impl_Surface_paint_l1 a.w a.h m b fade ⟨0, 0, a.w, a.h⟩)
    sw sh (by omega) (by omega) sp (fun y x l c y0 y1 x0 x1 hl hc _ => by
      obtain ⟨b1, b2, b3⟩ := in_wh (w := a.w) (h := a.h) (x := x) (y := y) ⟨by omega, sw.2⟩ ⟨by omega, sh.2⟩ ⟨x0, x1⟩ ⟨y0, y1⟩
      have hlt : (y * a.w + x).toNat < b.pix.length := by rw [← h1, ← h2] at sq; omega
      have hi : idx l (y * a.w + x) = some c := by unfold idx; rw [if_pos (by omega)]; exact hc
      have hj : idx b.pix (y * a.w + x) = some b.pix[(y * a.w + x).toNat] := by unfold idx; rw [if_pos (by omega)]; exact List.getElem?_eq_getElem hlt
      try dsimp only
      rw [impl_Surface_paint_l0, ilf (by (try dsimp only); omega), cnd_false, wr_in (n := y * a.w) (by omega), wr_in (n := y * a.w + x) (by omega), hi, bnd_some]
      unfold impl_LayOver_1
      rw [← h1, wr_in (n := y * a.w) (by omega), wr_in (n := y * a.w + x) (by omega), hj, bnd_some, s_Fade]
      have hL := lay1_eq m fade b.pix[(y * a.w + x).toNat] c
      obtain ⟨v, ev⟩ := t_Fade b.pix[(y * a.w + x).toNat] fade
      rw [ev, bnd_some] at hL ⊢
      rw [s_Blend, hL, bnd_some, bnd_some, nam_eq, wr_in (n := x + 1) (by omega)]
      unfold layH
      rw [List.getElem?_eq_getElem hlt])
    (fun y x l hx => by (try dsimp only); rw [impl_Surface_paint_l0, ilt (by (try dsimp only); omega), cnd_true])
    (fun y l y0 y1 => by rw [impl_Surface_paint_l1, ilf (by (try dsimp only); omega), cnd_false, wr_in (n := y + 1) (by omega)])
    (fun y l hy => by rw [impl_Surface_paint_l1, ilt (by (try dsimp only); omega), cnd_true])
  rw [key, bnd_some, bnd_some, ptd_congr (Q := fun _ => true) (fun k hk => full_rect sw sh sp k hk) (fun _ _ _ => rfl)]
theorem m_spec_LayOver {a b : TSurface} {m fade : Int} (ha : a.pix.length ≤ 1048576) (hb : b.pix.length ≤ 1048576) : spec_LayOver a b m fade = some (layOver a b m fade) := by
  unfold spec_LayOver spec_l14Copy layOver
  rw [chkP_pos (by omega), nam_eq, bnd_some]
  dsimp only
  rw [m_spec_SurfaceOk (by omega), bnd_some]
  cases h3 : surfaceOk a
  · simp
  rw [cnd_true, m_spec_SurfaceOk (by omega), bnd_some]
  cases h4 : surfaceOk b
  · simp
  rw [cnd_true]
  by_cases h1 : a.w = b.w
  case neg => rw [iqf h1, cnd_false]; simp [h1]
  by_cases h2 : a.h = b.h
  case neg => rw [iqf h2, h1, iqt, cnd_true, cnd_false]; simp [h2]; rw [← h1]
  rw [← h1, ← h2, iqt, iqt, cnd_true, cnd_true]
  simp only [Bool.and_self, decide_true, if_true, List.nil_append]
  obtain ⟨sw, sh, sp, _⟩ := so_facts h3
  obtain ⟨_, _, sq, _⟩ := so_facts h4
  have key := loopI_n (f := spec_LayOver_l0 a b m fade a.w a.h) (fun i : Nat => ((i : Int), ptd (fun k => decide (k < i)) (layH b m fade lay1) a.pix)) a.pix.length (r := ptd (fun _ => true) (layH b m fade lay1) a.pix) (fun i hi => ?_) ?_
  · have e : ptd (fun k => decide (k < 0)) (layH b m fade lay1) a.pix = a.pix := by
      refine List.ext_getElem? fun k => ?_
      by_cases hk : k < a.pix.length
      · rw [ptd_get hk, List.getElem?_eq_getElem hk]; simp
      · rw [List.getElem?_eq_none (by rw [ptd_len]; omega), List.getElem?_eq_none (by omega)]
    rw [e] at key
    have key' : loopI (spec_LayOver_l0 a b m fade a.w a.h) (0, a.pix) = some (ptd (fun _ => true) (layH b m fade lay1) a.pix) := key
    rw [key']; rfl
  · have hj : i < b.pix.length := by rw [← h1, ← h2] at sq; omega
    rw [spec_LayOver_l0, ilf (by omega), cnd_false, idx_nat hj, bnd_some]
    have hL := lay1_eq m fade b.pix[i] a.pix[i]
    obtain ⟨v, ev⟩ := t_Fade b.pix[i] fade
    rw [ev, bnd_some] at hL ⊢
    have hP : (fun k => decide (k < i)) i = false := by simp
    have hg : idx (ptd (fun k => decide (k < i)) (layH b m fade lay1) a.pix) (i : Int) = some a.pix[i] := idx_some (by rw [ptd_get hi]; simp)
    rw [idx_nat hi, bnd_some, hL, bnd_some, hg, bnd_some, nam_eq, Int.toNat_natCast, wr_in (by omega)]
    have hH : lay1 m fade b.pix[i] a.pix[i] = layH b m fade lay1 i a.pix[i] := by unfold layH; rw [List.getElem?_eq_getElem hj]
    rw [hH, ptd_set (Q := fun k => decide (k < i + 1)) hi hP (fun k hk => by rw [← Bool.decide_or]; refine decide_eq_decide.2 ?_; omega)]
    rfl
  · rw [spec_LayOver_l0, ilt (by omega), cnd_true]
    congr 2
    exact ptd_congr (fun k hk => by simpa using hk) (fun _ _ _ => rfl)
theorem surf_gd {s : TSurface} (h : s.pix.length ≤ 1048576) : gd_Surface s := ⟨h, fun _ _ => trivial⟩
theorem layOver_len (a b : TSurface) (m fade : Int) : (layOver a b m fade).pix.length = a.pix.length := by
  unfold layOver; split
  · exact ptd_len
  · rfl
theorem m_markSurface {w h k : Int} {l : List TColor} (hk : 0 ≤ k ∧ k ≤ 1099511627776) (hl : l.length ≤ 1048576) : laws_markSurface w h k l = some (k + 4 * (l.length : Int), marked (fun k => ⟨k, k + 1, k + 1 + 1, k + 1 + 1 + 1⟩) 4 k l.length) := by
  unfold laws_markSurface; rw [m_markColorS hk hl]; rfl
theorem m_heldSurface {w h k : Int} {n : Nat} (hk : 0 ≤ k ∧ k ≤ 1099511627776) (hl : n ≤ 1048576) : laws_heldSurface ⟨w, h, marked (fun k => ⟨k, k + 1, k + 1 + 1, k + 1 + 1 + 1⟩) 4 k n⟩ k = some (k + 4 * (n : Int)) := by
  unfold laws_heldSurface; dsimp only; rw [m_heldColorS hk hl, bnd_some, ilt (by omega), cnd_true]
theorem m_FnExactLayOver {a b : TSurface} {m fade : Int} (ha : ok_Surface a) (hb : ok_Surface b) (_ : okN .i64 m) (_ : okN .i64 fade) : laws_FnExactLayOver a b m fade = some true := by
  obtain ⟨v, e, l, _, g⟩ := f_laws_szSurface ha (left := 1048576) (by omega) (by omega)
  unfold laws_FnExactLayOver
  rw [e, bnd_some]
  by_cases hv : 0 ≤ v
  case neg => rw [ilf (by omega), cnd_false]
  obtain ⟨v', e', _, _, g'⟩ := f_laws_szSurface hb hv (by omega)
  rw [ilt hv, cnd_true, e', bnd_some]
  by_cases hv' : 0 ≤ v'
  case neg => rw [ilf (by omega), cnd_false]
  have ga := g hv; have gb := g' hv'
  have la : a.pix.length ≤ 1048576 := ga.1
  have lb : b.pix.length ≤ 1048576 := gb.1
  have lc := layOver_len a b m fade
  rw [ilt hv', cnd_true, f_laws_toSurface ga, bnd_some]
  dsimp only
  rw [f_laws_toSurface gb, bnd_some]
  dsimp only
  rw [m_spec_LayOver (a := ⟨a.w, a.h, a.pix⟩) (b := ⟨b.w, b.h, b.pix⟩) la lb, bnd_some, m_impl_LayOver (a := ⟨a.w, a.h, a.pix⟩) (b := ⟨b.w, b.h, b.pix⟩) la lb, bnd_some]
  dsimp only
  rw [f_laws_eqSurface (a := ⟨(layOver ⟨a.w, a.h, a.pix⟩ ⟨b.w, b.h, b.pix⟩ m fade).w, (layOver ⟨a.w, a.h, a.pix⟩ ⟨b.w, b.h, b.pix⟩ m fade).h, (layOver ⟨a.w, a.h, a.pix⟩ ⟨b.w, b.h, b.pix⟩ m fade).pix⟩) (surf_gd (by rw [layOver_len]; exact la)), bnd_some, cnd_true,
    f_laws_eqSurface (surf_gd la), bnd_some, cnd_true, f_laws_eqSurface (surf_gd lb), bnd_some, cnd_true, m_markSurface (by omega) la, bnd_some]
  dsimp only
  rw [m_markSurface (by omega) lb, bnd_some]
  dsimp only
  rw [ilt (by omega), cnd_true, m_markSurface (by omega) (by rw [layOver_len]; exact la), bnd_some]
  dsimp only
  rw [m_heldSurface (by omega) (by rw [layOver_len]; exact la), bnd_some, ilt (by omega), cnd_true, iqt, cnd_true]

end Go.Proofs.Ytoafihhhdnmliaa.Am
