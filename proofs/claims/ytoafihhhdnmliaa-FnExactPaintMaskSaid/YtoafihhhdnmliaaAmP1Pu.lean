import Derived.Test.YtoafihhhdnmliaaAmP1Mo
import Derived.Test.YtoafihhhdnmliaaAmRo
import Derived.Test.YtoafihhhdnmliaaAmLw
set_option linter.unusedVariables false
set_option linter.unusedSimpArgs false
set_option linter.unusedSectionVars false
namespace Go.Proofs.Ytoafihhhdnmliaa.Am
open Go Go.Proofs
def ok_Color (x : TColor) : Prop := (okN .i64) x.r ∧ (okN .i64) x.g ∧ (okN .i64) x.b ∧ (okN .i64) x.a
theorem dm_Color : Dm (.struct [.int .i64, .int .i64, .int .i64, .int .i64]) eColor ok_Color := ⟨fun cs h => by
  rw [Dom] at h; simp only [DomL] at h
  obtain ⟨_, _, rfl, h0, _, _, rfl, h1, _, _, rfl, h2, _, _, rfl, h3, rfl⟩ := h
  obtain ⟨x0, rfl, k0⟩ := dm_int.c h0
  obtain ⟨x1, rfl, k1⟩ := dm_int.c h1
  obtain ⟨x2, rfl, k2⟩ := dm_int.c h2
  obtain ⟨x3, rfl, k3⟩ := dm_int.c h3
  exact ⟨⟨x0, x1, x2, x3⟩, by simp [elA, Ty.isS], k0, k1, k2, k3⟩⟩
def ok_Surface (x : TSurface) : Prop := (okN .i64) x.w ∧ (okN .i64) x.h ∧ (okL ok_Color) x.pix
theorem dm_Surface : Dm (.struct [.int .i64, .int .i64, .slice (.struct [.int .i64, .int .i64, .int .i64, .int .i64])]) eSurface ok_Surface := ⟨fun cs h => by
  rw [Dom] at h; simp only [DomL] at h
  obtain ⟨_, _, rfl, h0, _, _, rfl, h1, _, _, rfl, h2, rfl⟩ := h
  obtain ⟨x0, rfl, k0⟩ := dm_int.c h0
  obtain ⟨x1, rfl, k1⟩ := dm_int.c h1
  obtain ⟨x2, rfl, k2⟩ := (dm_sl dm_Color).c h2
  exact ⟨⟨x0, x1, x2⟩, by simp [elA, Ty.isS], k0, k1, k2⟩⟩
def ok_Box (x : TBox) : Prop := (okN .i64) x.x0 ∧ (okN .i64) x.y0 ∧ (okN .i64) x.x1 ∧ (okN .i64) x.y1
theorem dm_Box : Dm (.struct [.int .i64, .int .i64, .int .i64, .int .i64]) eBox ok_Box := ⟨fun cs h => by
  rw [Dom] at h; simp only [DomL] at h
  obtain ⟨_, _, rfl, h0, _, _, rfl, h1, _, _, rfl, h2, _, _, rfl, h3, rfl⟩ := h
  obtain ⟨x0, rfl, k0⟩ := dm_int.c h0
  obtain ⟨x1, rfl, k1⟩ := dm_int.c h1
  obtain ⟨x2, rfl, k2⟩ := dm_int.c h2
  obtain ⟨x3, rfl, k3⟩ := dm_int.c h3
  exact ⟨⟨x0, x1, x2, x3⟩, by simp [elA, Ty.isS], k0, k1, k2, k3⟩⟩
def ok_Mask (x : TMask) : Prop := ok_Box x.box ∧ (okL (okN .i64)) x.bits
theorem dm_Mask : Dm (.struct [.struct [.int .i64, .int .i64, .int .i64, .int .i64], .slice (.int .i64)]) eMask ok_Mask := ⟨fun cs h => by
  rw [Dom] at h; simp only [DomL] at h
  obtain ⟨_, _, rfl, h0, _, _, rfl, h1, rfl⟩ := h
  obtain ⟨x0, rfl, k0⟩ := dm_Box.c h0
  obtain ⟨x1, rfl, k1⟩ := (dm_sl dm_int).c h1
  exact ⟨⟨x0, x1⟩, by simp [elA, Ty.isS], k0, k1⟩⟩
def ok_Point (x : TPoint) : Prop := (okN .i64) x.x ∧ (okN .i64) x.y
theorem dm_Point : Dm (.struct [.int .i64, .int .i64]) ePoint ok_Point := ⟨fun cs h => by
  rw [Dom] at h; simp only [DomL] at h
  obtain ⟨_, _, rfl, h0, _, _, rfl, h1, rfl⟩ := h
  obtain ⟨x0, rfl, k0⟩ := dm_int.c h0
  obtain ⟨x1, rfl, k1⟩ := dm_int.c h1
  exact ⟨⟨x0, x1⟩, by simp [elA, Ty.isS], k0, k1⟩⟩
def ok_Paint (x : TPaint) : Prop := (okN .i64) x.kind ∧ ok_Color x.first ∧ ok_Color x.last ∧ ok_Point x.from_ ∧ ok_Point x.to
theorem dm_Paint : Dm (.struct [.int .i64, .struct [.int .i64, .int .i64, .int .i64, .int .i64], .struct [.int .i64, .int .i64, .int .i64, .int .i64], .struct [.int .i64, .int .i64], .struct [.int .i64, .int .i64]]) ePaint ok_Paint := ⟨fun cs h => by
  rw [Dom] at h; simp only [DomL] at h
  obtain ⟨_, _, rfl, h0, _, _, rfl, h1, _, _, rfl, h2, _, _, rfl, h3, _, _, rfl, h4, rfl⟩ := h
  obtain ⟨x0, rfl, k0⟩ := dm_int.c h0
  obtain ⟨x1, rfl, k1⟩ := dm_Color.c h1
  obtain ⟨x2, rfl, k2⟩ := dm_Color.c h2
  obtain ⟨x3, rfl, k3⟩ := dm_Point.c h3
  obtain ⟨x4, rfl, k4⟩ := dm_Point.c h4
  exact ⟨⟨x0, x1, x2, x3, x4⟩, by simp [elA, Ty.isS], k0, k1, k2, k3, k4⟩⟩
end Go.Proofs.Ytoafihhhdnmliaa.Am
namespace Go.Proofs.Ytoafihhhdnmliaa.Am
open Go Go.Proofs
set_option linter.unusedVariables false
set_option linter.unusedSimpArgs false
theorem f_laws_szColorS {a : List TColor} {left : Int} (ho : okL ok_Color a) (h0 : 0 ≤ left) (h1 : left ≤ 1048576) : ∃ v, laws_szColorS a left = some v ∧ szR v left (gdL tt a) := by
  unfold laws_szColorS; exact sz_row (maxL ho.1) h0 h1
def gd_Surface (x : TSurface) : Prop := (gdL tt) x.pix
theorem f_laws_szSurface {a : TSurface} {left : Int} (ho : ok_Surface a) (h0 : 0 ≤ left) (h1 : left ≤ 1048576) : ∃ v, laws_szSurface a left = some v ∧ szR v left (gd_Surface a) := by
  obtain ⟨o0, o1, o2⟩ := ho
  unfold laws_szSurface
  obtain ⟨v2, e2, l2, m2, g2⟩ := f_laws_szColorS o2 h0 (by omega)
  rw [e2, bnd_some]
  by_cases c2 : 0 ≤ v2
  case neg => rw [ilf (by omega), cnd_false]; exact ⟨-1, rfl, by omega, by omega, fun h => by omega⟩
  rw [ilt c2, cnd_true]
  exact ⟨v2, rfl, by omega, by omega, fun _ => g2 c2⟩
theorem f_laws_szIntS {a : List Int} {left : Int} (ho : okL (okN .i64) a) (h0 : 0 ≤ left) (h1 : left ≤ 1048576) : ∃ v, laws_szIntS a left = some v ∧ szR v left (gdL tt a) := by
  unfold laws_szIntS; exact sz_row (maxL ho.1) h0 h1
def gd_Mask (x : TMask) : Prop := (gdL tt) x.bits
theorem f_laws_szMask {a : TMask} {left : Int} (ho : ok_Mask a) (h0 : 0 ≤ left) (h1 : left ≤ 1048576) : ∃ v, laws_szMask a left = some v ∧ szR v left (gd_Mask a) := by
  obtain ⟨o0, o1⟩ := ho
  unfold laws_szMask
  obtain ⟨v1, e1, l1, m1, g1⟩ := f_laws_szIntS o1 h0 (by omega)
  rw [e1, bnd_some]
  by_cases c1 : 0 ≤ v1
  case neg => rw [ilf (by omega), cnd_false]; exact ⟨-1, rfl, by omega, by omega, fun h => by omega⟩
  rw [ilt c1, cnd_true]
  exact ⟨v1, rfl, by omega, by omega, fun _ => g1 c1⟩
theorem f_laws_toColor {a : TColor} : laws_toColor a = some a := by
  unfold laws_toColor
  rfl
theorem f_laws_toColorS {a : List TColor} (hg : (gdL tt) a) : laws_toColorS a = some a := by
  unfold laws_toColorS
  rw [chkP_pos (ch_row hg.1 (by omega))]
  have h := to_loop (f := laws_toColorS_l0 a) (toE := laws_toColor) ((TColor.mk 0 0 0 0)) (fun x hx => f_laws_toColor ) (fun _ _ => rfl) hg.1
  simp only [nam_eq, h, bnd_some]
theorem f_laws_toSurface {a : TSurface} (hg : gd_Surface a) : laws_toSurface a = some (a.w, a.h, a.pix) := by
  have h0 := hg
  unfold laws_toSurface
  simp only [bnd_some, f_laws_toColorS h0]
theorem f_laws_toBox {a : TBox} : laws_toBox a = some a := by
  unfold laws_toBox
  rfl
theorem f_laws_toIntS {a : List Int} (hg : (gdL tt) a) : laws_toIntS a = some a := by
  unfold laws_toIntS
  rw [chkP_pos (ch_row hg.1 (by omega))]
  have h := to_loop (f := laws_toIntS_l0 a) (toE := some) (0) (fun _ _ => rfl) (fun _ _ => rfl) hg.1
  simp only [nam_eq, h, bnd_some]
theorem f_laws_toMask {a : TMask} (hg : gd_Mask a) : laws_toMask a = some (a.box, a.bits) := by
  have h0 := hg
  unfold laws_toMask
  simp only [bnd_some, f_laws_toBox, f_laws_toIntS h0]
theorem f_laws_toPoint {a : TPoint} : laws_toPoint a = some a := by
  unfold laws_toPoint
  rfl
theorem f_laws_toPaint {a : TPaint} : laws_toPaint a = some a := by
  unfold laws_toPaint
  simp only [bnd_some, f_laws_toColor, f_laws_toPoint]
theorem f_laws_eqColor {a : TColor} : laws_eqColor a a = some true := by
  unfold laws_eqColor
  simp only [bnd_some, cnd_true, iqt, andB, decide_true, Bool.and_self, Bool.and_true]
theorem f_laws_eqColorS {a : List TColor} (hg : (gdL tt) a) : laws_eqColorS a a = some true := by
  unfold laws_eqColorS
  have h := eq_loop (f := laws_eqColorS_l0 a a) (eqE := laws_eqColor) (fun x hx => f_laws_eqColor ) (fun _ => rfl) hg.1
  rw [iqt, cnd_true, h]; rfl
theorem f_laws_eqSurface {a : TSurface} (hg : gd_Surface a) : laws_eqSurface a a = some true := by
  have h0 := hg
  unfold laws_eqSurface
  simp only [bnd_some, cnd_true, iqt, andB, decide_true, Bool.and_self, Bool.and_true, f_laws_eqColorS h0]
theorem f_laws_eqBox {a : TBox} : laws_eqBox a a = some true := by
  unfold laws_eqBox
  simp only [bnd_some, cnd_true, iqt, andB, decide_true, Bool.and_self, Bool.and_true]
theorem f_laws_eqIntS {a : List Int} (hg : (gdL tt) a) : laws_eqIntS a a = some true := by
  unfold laws_eqIntS
  have h := eq_loop (f := laws_eqIntS_l0 a a) (eqE := (fun x y => some (ieq x y))) (fun _ _ => by simp [ieq, sq']) (fun _ => rfl) hg.1
  rw [iqt, cnd_true, h]; rfl
theorem f_laws_eqMask {a : TMask} (hg : gd_Mask a) : laws_eqMask a a = some true := by
  have h0 := hg
  unfold laws_eqMask
  simp only [bnd_some, cnd_true, iqt, andB, decide_true, Bool.and_self, Bool.and_true, f_laws_eqBox, f_laws_eqIntS h0]
end Go.Proofs.Ytoafihhhdnmliaa.Am
namespace Go.Proofs.Ytoafihhhdnmliaa.Am
open Go Go.Proofs
set_option linter.unusedSimpArgs false
set_option linter.unusedVariables false
set_option maxRecDepth 100000
/-! ## Small words -/
def tin (x a b : Int) : Bool := ile a x && ile x b
theorem tin_t {x a b : Int} : tin x a b = true ↔ a ≤ x ∧ x ≤ b := by simp [tin, ile_t]
@[simp] theorem m_spec_l01In (x a b : Int) : spec_l01In x a b = some (tin x a b) := by
  unfold spec_l01In tin; cases ile a x <;> simp
@[simp] theorem m_impl_inRange (x a b : Int) : impl_inRange x a b = some (tin x a b) := by
  unfold impl_inRange tin; cases ile a x <;> simp
@[simp] theorem m_impl_isSide (x : Int) : impl_isSide x = some (tin x 1 12) := by unfold impl_isSide; simp
def tileCount (w h : Int) : Int := if tin w 1 12 && tin h 1 12 then ((w + 3) / 4) * ((h + 3) / 4) else 0
theorem four {w : Int} (h : tin w 1 12 = true) : (w + 3) / 4 = 1 ∨ (w + 3) / 4 = 2 ∨ (w + 3) / 4 = 3 := by rw [tin_t] at h; omega
theorem wr9 {w h : Int} (hw : tin w 1 12 = true) (hh : tin h 1 12 = true) : IntKind.i64.wrap ((w + 3) / 4 * ((h + 3) / 4)) = (w + 3) / 4 * ((h + 3) / 4) := by
  refine wr_in ?_
  rcases four hw with e | e | e <;> rcases four hh with f | f | f <;> rw [e, f] <;> decide
theorem up4 {w : Int} (h : tin w 1 12 = true) : IntKind.i64.wrap ((IntKind.i64.wrap (w + 3)).tdiv 4) = (w + 3) / 4 := by
  rw [tin_t] at h
  rw [wr_in (n := w + 3) (by omega), Int.tdiv_eq_ediv_of_nonneg (by omega), wr_in (by omega)]
def TBox.empty (b : TBox) : Bool := ile b.x1 b.x0 || ile b.y1 b.y0
def TBox.zero : TBox := ⟨0, 0, 0, 0⟩
def meet (a b : TBox) : TBox :=
  let c : TBox := ⟨max a.x0 b.x0, max a.y0 b.y0, min a.x1 b.x1, min a.y1 b.y1⟩
  if c.empty then .zero else c
@[simp] theorem m_impl_Empty (b : TBox) : impl_Empty b = some b.empty := by
  unfold impl_Empty TBox.empty; cases ile b.x1 b.x0 <;> simp
@[simp] theorem m_spec_Empty (b : TBox) : spec_Empty b = some b.empty := by
  unfold spec_Empty TBox.empty; cases ile b.x1 b.x0 <;> simp
@[simp] theorem m_impl_MeetBox (a b : TBox) : impl_MeetBox a b = some (meet a b) := by
  unfold impl_MeetBox meet
  simp
  cases h : TBox.empty ⟨max a.x0 b.x0, max a.y0 b.y0, min a.x1 b.x1, min a.y1 b.y1⟩ <;> simp [TBox.zero]
def inBox (b : TBox) (p : TPoint) : Bool := decide (b.x0 ≤ p.x ∧ p.x < b.x1 ∧ b.y0 ≤ p.y ∧ p.y < b.y1)
@[simp] theorem m_spec_InBox (b : TBox) (p : TPoint) : spec_InBox b p = some (inBox b p) := by
  unfold spec_InBox inBox
  cases h0 : ile b.x0 p.x <;> simp only [ile_t, ile_f] at h0
  · simp; intro h; omega
  · cases h1 : ile b.x1 p.x <;> simp only [ile_t, ile_f] at h1
    · cases h2 : ile b.y0 p.y <;> simp only [ile_t, ile_f] at h2
      · simp; intro _ _ h; omega
      · cases h3 : ile b.y1 p.y <;> simp only [ile_t, ile_f] at h3
        · simp; omega
        · simp; omega
    · simp; intro _ h; omega

def tileBox (w h i : Int) : TBox :=
  if tin i 0 (tileCount w h - 1) then
    let x := i % ((w + 3) / 4) * 4
    let y := i / ((w + 3) / 4) * 4
    meet ⟨x, y, x + 4, y + 4⟩ ⟨0, 0, w, h⟩
  else .zero
theorem tc_bd (w h : Int) : 0 ≤ tileCount w h ∧ tileCount w h ≤ 9 := by
  unfold tileCount
  cases hw : tin w 1 12 <;> cases hh : tin h 1 12 <;> simp
  rcases four hw with e | e | e <;> rcases four hh with f | f | f <;> rw [e, f] <;> decide
@[simp] theorem tc_wrap (w h : Int) : IntKind.i64.wrap (tileCount w h - 1) = tileCount w h - 1 := by
  have := tc_bd w h
  exact wr_in (by omega)
theorem tb_facts {w h i : Int} (hi : tin i 0 (tileCount w h - 1) = true) : tin w 1 12 = true ∧ 0 ≤ i ∧ i ≤ 8 := by
  have := tc_bd w h
  rw [tin_t] at hi
  refine ⟨?_, by omega, by omega⟩
  cases hw : tin w 1 12 with
  | true => rfl
  | false =>
    have : tileCount w h = 0 := by simp [tileCount, hw]
    omega
theorem tb_x {r i : Int} (hr : r = 1 ∨ r = 2 ∨ r = 3) (h0 : 0 ≤ i) (h1 : i ≤ 8) : IntKind.i64.wrap (i.tmod r * 4) = i % r * 4 ∧ IntKind.i64.wrap (i % r * 4 + 4) = i % r * 4 + 4 ∧
    IntKind.i64.wrap (IntKind.i64.wrap (i.tdiv r) * 4) = i / r * 4 ∧ IntKind.i64.wrap (i / r * 4 + 4) = i / r * 4 + 4 := by
  rw [Int.tmod_eq_emod_of_nonneg h0, Int.tdiv_eq_ediv_of_nonneg h0]
  rcases hr with rfl | rfl | rfl
  · rw [wr_in (n := i / 1) (by omega)]; exact ⟨wr_in (by omega), wr_in (by omega), wr_in (by omega), wr_in (by omega)⟩
  · rw [wr_in (n := i / 2) (by omega)]; exact ⟨wr_in (by omega), wr_in (by omega), wr_in (by omega), wr_in (by omega)⟩
  · rw [wr_in (n := i / 3) (by omega)]; exact ⟨wr_in (by omega), wr_in (by omega), wr_in (by omega), wr_in (by omega)⟩
theorem four' {w : Int} (h : tin w 1 12 = true) : ¬ (w + 3) / 4 = 0 := by rcases four h with e | e | e <;> omega
/-! ## Draws -/
theorem idx_of {α : Type} {l : List α} {i : Int} (h0 : 0 ≤ i) (h1 : i < l.length) : ∃ x, idx l i = some x ∧ x ∈ l := by
  have : i.toNat < l.length := by omega
  refine ⟨l[i.toNat], ?_, List.getElem_mem this⟩
  unfold idx; rw [if_pos h0]; exact List.getElem?_eq_getElem this
/-! ## Each square is in one tile -/
section
variable {a0 : List Int} {v3 v4 w h : Int}
end

/-! ## Loops that ask the same of all -/
theorem loopI_all {f : Int → Option (Int ⊕ (Unit ⊕ Unit))} (n : Nat) (p : Nat → Bool) (hn : n ≤ 9223372036854775807)
    (hs : ∀ i : Nat, i < n → f (i : Int) = cnd (p i) (some (.inl (IntKind.i64.wrap ((i : Int) + 1)))) (some (.inr (.inr ())))) (he : f (n : Int) = some (.inr (.inl ()))) :
    loopI f 0 = some (if (List.range n).all p then .inl () else .inr ()) := by
  have h := loopI_find (f := f) (fun i : Nat => (i : Int)) n (fun i => !(p i)) (fun _ => .inr ()) (r := .inl ()) (fun i hi => by
    rw [hs i hi, wr_in (by omega)]
    cases p i <;> simp) he
  have e : loopI f 0 = loopI f ((0 : Nat) : Int) := rfl
  rw [e, h]
  congr 1
  cases hq : (List.range n).find? (fun i => !(p i)) with
  | none =>
    rw [List.find?_eq_none] at hq
    have : (List.range n).all p = true := List.all_eq_true.2 fun x hx => by simpa using hq x hx
    rw [this]; rfl
  | some i =>
    have h1 := List.find?_some hq
    have h2 := List.mem_of_find?_eq_some hq
    have : (List.range n).all p = false := by
      rw [List.all_eq_false]; exact ⟨i, h2, by simpa using h1⟩
    rw [this]; rfl
theorem range_all {α : Type} {l : List α} {q : α → Bool} {p : Nat → Bool} (h : ∀ i (hi : i < l.length), p i = q l[i]) : (List.range l.length).all p = l.all q := by
  rw [Bool.eq_iff_iff, List.all_eq_true, List.all_eq_true]
  constructor
  · intro k x hx
    obtain ⟨i, hi, rfl⟩ := List.getElem_of_mem hx
    rw [← h i hi]; exact k i (List.mem_range.2 hi)
  · intro k i hi
    have hi := List.mem_range.1 hi
    rw [h i hi]; exact k _ (List.getElem_mem hi)
/-- Of a row, each element asked the same. -/
theorem loopI_row {α : Type} {l : List α} {f : Int → Option (Int ⊕ (Unit ⊕ Unit))} (q : α → Bool) (hn : l.length ≤ 9223372036854775807)
    (hs : ∀ (i : Nat) (h : i < l.length), f (i : Int) = cnd (q l[i]) (some (.inl (IntKind.i64.wrap ((i : Int) + 1)))) (some (.inr (.inr ())))) (he : f (l.length : Int) = some (.inr (.inl ()))) :
    loopI f 0 = some (if l.all q then .inl () else .inr ()) := by
  have h := loopI_all (f := f) l.length (fun i => if h : i < l.length then q l[i] else false) hn (fun i hi => by rw [hs i hi]; simp [hi]) he
  rw [h, range_all (q := q) (fun i hi => by simp [hi])]

/-! ## Masks -/
def TBox.isZero (b : TBox) : Bool := decide (b.x0 = 0) && (decide (b.y0 = 0) && (decide (b.x1 = 0) && (decide (b.y1 = 0))))
def maskBox (b : TBox) : Bool := !b.empty && tin b.x0 (-2000) 2000 && tin b.y0 (-2000) 2000 && tin b.x1 (-2000) 2000 && tin b.y1 (-2000) 2000 && ile (b.x1 - b.x0) 60 && ile (b.y1 - b.y0) 60
def maskOk (m : TMask) : Bool := if m.bits.length = 0 then m.box.isZero else maskBox m.box && decide ((m.bits.length : Int) = (m.box.x1 - m.box.x0) * (m.box.y1 - m.box.y0)) && m.bits.all fun x => tin x 0 15
theorem empty_f {b : TBox} : b.empty = false ↔ b.x0 < b.x1 ∧ b.y0 < b.y1 := by simp [TBox.empty, ile_f]
theorem mb_facts {b : TBox} (h : maskBox b = true) : b.x0 < b.x1 ∧ b.y0 < b.y1 ∧ -2000 ≤ b.x0 ∧ b.x1 ≤ 2000 ∧ -2000 ≤ b.y0 ∧ b.y1 ≤ 2000 ∧ b.x1 - b.x0 ≤ 60 ∧ b.y1 - b.y0 ≤ 60 := by
  simp only [maskBox, Bool.and_eq_true, Bool.not_eq_true', empty_f, tin_t, ile_t] at h
  omega
theorem m_spec_l11Box (b : TBox) : spec_l11Box b = some (maskBox b) := by
  unfold spec_l11Box maskBox
  simp only [m_spec_Empty, m_spec_l01In, bnd_some]
  cases h0 : b.empty <;> simp only [cnd_true, cnd_false, Bool.not_true, Bool.not_false, Bool.false_and, Bool.true_and]
  cases h1 : tin b.x0 (-2000) 2000 <;> simp only [cnd_true, cnd_false, Bool.false_and, Bool.true_and]
  cases h2 : tin b.y0 (-2000) 2000 <;> simp only [cnd_true, cnd_false, Bool.false_and, Bool.true_and]
  cases h3 : tin b.x1 (-2000) 2000 <;> simp only [cnd_true, cnd_false, Bool.false_and, Bool.true_and]
  cases h4 : tin b.y1 (-2000) 2000 <;> simp only [cnd_true, cnd_false, Bool.false_and, Bool.true_and]
  rw [tin_t] at h1 h2 h3 h4
  rw [wr_in (by omega), wr_in (by omega)]
  cases h5 : ile (b.x1 - b.x0) 60 <;> simp
theorem m_impl_isMaskBox (b : TBox) : impl_isMaskBox b = some (maskBox b) := by
  unfold impl_isMaskBox maskBox
  simp only [m_impl_Empty, bnd_some]
  cases h0 : b.empty <;> simp only [cnd_true, cnd_false, Bool.not_true, Bool.not_false, Bool.false_and, Bool.true_and]
  rw [empty_f] at h0
  cases h1 : ile (-2000) b.x0 <;> simp only [cnd_true, cnd_false]
  · rw [ile_f] at h1
    have : tin b.x0 (-2000) 2000 = false := by rw [← Bool.not_eq_true, tin_t]; omega
    simp [this]
  cases h2 : ile (-2000) b.y0 <;> simp only [cnd_true, cnd_false]
  · rw [ile_f] at h2
    have : tin b.y0 (-2000) 2000 = false := by rw [← Bool.not_eq_true, tin_t]; omega
    simp [this]
  cases h3 : ile b.x1 2000 <;> simp only [cnd_true, cnd_false]
  · rw [ile_f] at h3
    have : tin b.x1 (-2000) 2000 = false := by rw [← Bool.not_eq_true, tin_t]; omega
    simp [this]
  cases h4 : ile b.y1 2000 <;> simp only [cnd_true, cnd_false]
  · rw [ile_f] at h4
    have : tin b.y1 (-2000) 2000 = false := by rw [← Bool.not_eq_true, tin_t]; omega
    simp [this]
  rw [ile_t] at h1 h2 h3 h4
  have t1 : tin b.x0 (-2000) 2000 = true := by rw [tin_t]; omega
  have t2 : tin b.y0 (-2000) 2000 = true := by rw [tin_t]; omega
  have t3 : tin b.x1 (-2000) 2000 = true := by rw [tin_t]; omega
  have t4 : tin b.y1 (-2000) 2000 = true := by rw [tin_t]; omega
  rw [wr_in (by omega), wr_in (by omega)]
  cases h5 : ile (b.x1 - b.x0) 60 <;> simp [t1, t2, t3, t4]
theorem mb_prod {b : TBox} (h : maskBox b = true) : 0 < (b.x1 - b.x0) * (b.y1 - b.y0) ∧ (b.x1 - b.x0) * (b.y1 - b.y0) ≤ 3600 := by
  obtain ⟨h1, h2, _, _, _, _, h3, h4⟩ := mb_facts h
  refine ⟨Int.mul_pos (by omega) (by omega), ?_⟩
  calc (b.x1 - b.x0) * (b.y1 - b.y0) ≤ 60 * (b.y1 - b.y0) := Int.mul_le_mul_of_nonneg_right h3 (by omega)
    _ ≤ 60 * 60 := Int.mul_le_mul_of_nonneg_left h4 (by omega)
theorem mb_wrap {b : TBox} (h : maskBox b = true) : IntKind.i64.wrap (IntKind.i64.wrap (b.x1 - b.x0) * IntKind.i64.wrap (b.y1 - b.y0)) = (b.x1 - b.x0) * (b.y1 - b.y0) := by
  have := mb_facts h
  have := mb_prod h
  rw [wr_in (n := b.x1 - b.x0) (by omega), wr_in (n := b.y1 - b.y0) (by omega), wr_in (by omega)]
theorem zero_box {b : TBox} (h : b.isZero = true) : maskBox b = false := by
  simp only [TBox.isZero, Bool.and_eq_true, decide_eq_true_eq] at h
  have : b.empty = true := by rw [← Bool.not_eq_false, empty_f]; omega
  simp [maskBox, this]
theorem m_spec_MaskOk {m : TMask} (h : m.bits.length ≤ 9223372036854775807) : spec_MaskOk m = some (maskOk m) := by
  unfold spec_MaskOk maskOk
  by_cases h0 : m.bits.length = 0
  · rw [if_pos h0, h0]
    simp [ieq, andB, TBox.isZero]
  · rw [if_neg h0, iqf (by omega), cnd_false, m_spec_l11Box, bnd_some]
    cases h1 : maskBox m.box with
    | false => simp
    | true =>
      rw [cnd_true, mb_wrap h1]
      by_cases h2 : (m.bits.length : Int) = (m.box.x1 - m.box.x0) * (m.box.y1 - m.box.y0)
      · rw [h2, iqt, cnd_true, loopI_row (l := m.bits) (fun x => tin x 0 15) h (fun i hi => ?_) ?_]
        · cases m.bits.all (fun x => tin x 0 15) <;> simp
        · rw [spec_MaskOk_l0, ilt (by omega), cnd_true]
        · rw [spec_MaskOk_l0, ilf (by omega), cnd_false, idx_nat hi, bnd_some, m_spec_l01In, bnd_some]
      · rw [iqf h2, cnd_false]; simp [h2]
theorem m_impl_MaskOk {m : TMask} (h : m.bits.length ≤ 9223372036854775807) : impl_MaskOk m = some (maskOk m) := by
  unfold impl_MaskOk maskOk
  have e : andB (decide (m.box.x0 = 0)) (andB (decide (m.box.y0 = 0)) (andB (decide (m.box.x1 = 0)) (andB (decide (m.box.y1 = 0)) true))) = m.box.isZero := by simp [andB, TBox.isZero]
  rw [e]
  cases hz : m.box.isZero with
  | true =>
    rw [cnd_true]
    by_cases h0 : m.bits.length = 0
    · simp [h0, ieq]
    · simp [h0, zero_box hz, ieq]
  | false =>
    rw [cnd_false, m_impl_isMaskBox, bnd_some]
    cases h1 : maskBox m.box with
    | false => rw [cnd_false]; simp
    | true =>
      have := mb_prod h1
      rw [cnd_true, mb_wrap h1]
      by_cases h2 : (m.bits.length : Int) = (m.box.x1 - m.box.x0) * (m.box.y1 - m.box.y0)
      · rw [if_neg (by omega), h2, iqt, cnd_true, loopI_row (l := m.bits) (fun x => tin x 0 15) h (fun i hi => ?_) ?_]
        · cases m.bits.all (fun x => tin x 0 15) <;> simp
        · rw [impl_MaskOk_l0, ilt (by omega), cnd_true]
        · rw [impl_MaskOk_l0, ilf (by omega), cnd_false, idx_nat hi, bnd_some, m_impl_inRange, bnd_some]
      · rw [iqf h2, cnd_false]
        by_cases h0 : m.bits.length = 0
        · simp [h0]
        · simp [h0, h2]


/-! ## The first of a row that is asked for -/
/-! ## Caches -/
/-! ## Surfaces -/
def laidOk (c : TColor) : Bool := tin c.r 0 255 && tin c.g 0 255 && tin c.b 0 255 && tin c.a 0 255 && ile c.r c.a && ile c.g c.a && ile c.b c.a
def surfaceOk (s : TSurface) : Bool := tin s.w 1 12 && tin s.h 1 12 && decide ((s.pix.length : Int) = s.w * s.h) && s.pix.all laidOk
theorem m_spec_ColorOk (c : TColor) : spec_ColorOk c = some (tin c.r 0 255 && tin c.g 0 255 && tin c.b 0 255 && tin c.a 0 255) := by
  unfold spec_ColorOk
  simp only [m_spec_l01In, bnd_some]
  cases tin c.r 0 255 <;> cases tin c.g 0 255 <;> cases tin c.b 0 255 <;> simp
theorem m_impl_isByte (x : Int) : impl_isByte x = some (tin x 0 255) := by unfold impl_isByte; simp only [m_impl_inRange, bnd_some]
theorem m_impl_ColorOk (c : TColor) : impl_ColorOk c = some (tin c.r 0 255 && tin c.g 0 255 && tin c.b 0 255 && tin c.a 0 255) := by
  unfold impl_ColorOk
  simp only [m_impl_isByte, bnd_some]
  cases tin c.r 0 255 <;> cases tin c.g 0 255 <;> cases tin c.b 0 255 <;> simp
theorem m_spec_LaidOk (c : TColor) : spec_LaidOk c = some (laidOk c) := by
  unfold spec_LaidOk laidOk
  rw [m_spec_ColorOk, bnd_some]
  cases (tin c.r 0 255 && tin c.g 0 255 && tin c.b 0 255 && tin c.a 0 255) <;> simp
  cases ile c.r c.a <;> cases ile c.g c.a <;> simp
theorem m_impl_LaidOk (c : TColor) : impl_LaidOk c = some (laidOk c) := by
  unfold impl_LaidOk laidOk
  rw [m_impl_ColorOk, bnd_some]
  cases (tin c.r 0 255 && tin c.g 0 255 && tin c.b 0 255 && tin c.a 0 255) <;> simp
  cases ile c.r c.a <;> cases ile c.g c.a <;> simp
theorem wh_bd {w h : Int} (hw : tin w 1 12 = true) (hh : tin h 1 12 = true) : 1 ≤ w * h ∧ w * h ≤ 144 := by
  rw [tin_t] at hw hh
  refine ⟨?_, ?_⟩
  · calc (1 : Int) = 1 * 1 := rfl
      _ ≤ w * 1 := Int.mul_le_mul_of_nonneg_right hw.1 (by omega)
      _ ≤ w * h := Int.mul_le_mul_of_nonneg_left hh.1 (by omega)
  · calc w * h ≤ 12 * h := Int.mul_le_mul_of_nonneg_right hw.2 (by omega)
      _ ≤ 12 * 12 := Int.mul_le_mul_of_nonneg_left hh.2 (by omega)
theorem m_spec_SurfaceOk {s : TSurface} (h : s.pix.length ≤ 9223372036854775807) : spec_SurfaceOk s = some (surfaceOk s) := by
  unfold spec_SurfaceOk surfaceOk
  simp only [m_spec_l01In, bnd_some]
  cases h1 : tin s.w 1 12 <;> simp only [cnd_true, cnd_false, Bool.false_and, Bool.true_and]
  cases h2 : tin s.h 1 12 <;> simp only [cnd_true, cnd_false, Bool.false_and, Bool.true_and]
  have := wh_bd h1 h2
  rw [wr_in (by omega)]
  by_cases h3 : (s.pix.length : Int) = s.w * s.h
  · have key := loopI_row (l := s.pix) (f := spec_SurfaceOk_l0 s) laidOk h (fun i hi => by rw [spec_SurfaceOk_l0, ilf (by omega), cnd_false, idx_nat hi, bnd_some, m_spec_LaidOk, bnd_some]) (by rw [spec_SurfaceOk_l0, ilt (by omega), cnd_true])
    rw [key, h3, iqt, cnd_true]
    cases s.pix.all laidOk <;> simp
  · rw [iqf h3, cnd_false]; simp [h3]
theorem m_impl_SurfaceOk {s : TSurface} (h : s.pix.length ≤ 9223372036854775807) : impl_SurfaceOk s = some (surfaceOk s) := by
  unfold impl_SurfaceOk surfaceOk
  simp only [m_impl_isSide, bnd_some]
  cases h1 : tin s.w 1 12 <;> simp only [cnd_true, cnd_false, Bool.false_and, Bool.true_and]
  cases h2 : tin s.h 1 12 <;> simp only [cnd_true, cnd_false, Bool.false_and, Bool.true_and]
  have := wh_bd h1 h2
  rw [wr_in (by omega)]
  by_cases h3 : (s.pix.length : Int) = s.w * s.h
  · have key := loopI_row (l := s.pix) (f := impl_SurfaceOk_l0 s) laidOk h (fun i hi => by rw [impl_SurfaceOk_l0, ilf (by omega), cnd_false, idx_nat hi, bnd_some, m_impl_LaidOk, bnd_some]) (by rw [impl_SurfaceOk_l0, ilt (by omega), cnd_true])
    rw [key, h3, iqt, cnd_true]
    cases s.pix.all laidOk <;> simp
  · rw [iqf h3, cnd_false]; simp [h3]
theorem so_facts {s : TSurface} (h : surfaceOk s = true) : tin s.w 1 12 = true ∧ tin s.h 1 12 = true ∧ (s.pix.length : Int) = s.w * s.h ∧ ∀ c ∈ s.pix, laidOk c = true := by
  simp only [surfaceOk, Bool.and_eq_true, decide_eq_true_eq, List.all_eq_true] at h
  exact ⟨h.1.1.1, h.1.1.2, h.1.2, h.2⟩

/-! ## Loops from a number to another one -/
theorem in_wh {w h x y : Int} (hw : 0 ≤ w ∧ w ≤ 12) (hh : 0 ≤ h ∧ h ≤ 12) (hx : 0 ≤ x ∧ x < w) (hy : 0 ≤ y ∧ y < h) : 0 ≤ y * w ∧ y * w ≤ 144 ∧ y * w + x < w * h := by
  have h1 : y * w ≤ (h - 1) * w := Int.mul_le_mul_of_nonneg_right (by omega) (by omega)
  have h2 : 0 ≤ y * w := Int.mul_nonneg hy.1 hw.1
  have h3 : y * w ≤ 12 * w := Int.mul_le_mul_of_nonneg_right (by omega) hw.1
  have h4 : (h - 1) * w = w * h - w := by rw [Int.sub_mul, Int.one_mul, Int.mul_comm]
  omega

/-! ## Sparing -/
/-! ## Marks -/
def marked {α : Type} (mk : Int → α) (c k : Int) (n : Nat) : List α := (List.range n).map fun i : Nat => mk (k + c * (i : Int))
theorem marked_len {α : Type} {mk : Int → α} {c k : Int} {n : Nat} : (marked mk c k n).length = n := by simp [marked]
theorem cmul {c : Int} {i n : Nat} (hc : 0 ≤ c ∧ c ≤ 64) (hi : i ≤ n) (hn : n ≤ 1048576) : 0 ≤ c * (i : Int) ∧ c * (i : Int) ≤ 67108864 := by
  refine ⟨Int.mul_nonneg hc.1 (by omega), ?_⟩
  calc c * (i : Int) ≤ 64 * (i : Int) := Int.mul_le_mul_of_nonneg_right hc.2 (by omega)
    _ ≤ 67108864 := by omega
theorem csucc {c : Int} {i : Nat} : c * ((i + 1 : Nat) : Int) = c * (i : Int) + c := by
  rw [show ((i + 1 : Nat) : Int) = (i : Int) + 1 by omega, Int.mul_add, Int.mul_one]
theorem mark_loop {α : Type} (c : Int) (mk : Int → α) {f : Int × Int × List α → Option ((Int × Int × List α) ⊕ (List α × Int))} {a : List α} {k0 : Int} (hc : 0 ≤ c ∧ c ≤ 64) (h0 : 0 ≤ k0 ∧ k0 ≤ 1099511627776) (ha : a.length ≤ 1048576)
    (he : ∀ (k : Int) (l : List α), f (k, (l.length : Int), l) = some (.inr (l, k)))
    (hf : ∀ (k : Int) (i : Nat) (l : List α), i < l.length → l.length ≤ 1048576 → 0 ≤ k → k ≤ 4398046511104 → f (k, (i : Int), l) = some (.inl (k + c, ((i + 1 : Nat) : Int), l.set i (mk k)))) :
    loopI f (k0, 0, a) = some (marked mk c k0 a.length, k0 + c * (a.length : Int)) := by
  have key := loopI_n (f := f) (fun i => (k0 + c * (i : Int), (i : Int), marked mk c k0 i ++ a.drop i)) a.length (r := (marked mk c k0 a.length, k0 + c * (a.length : Int))) (fun i hi => ?_) ?_
  · have e : (k0 + c * ((0 : Nat) : Int), ((0 : Nat) : Int), marked mk c k0 0 ++ a.drop 0) = (k0, 0, a) := by simp [marked]
    rwa [e] at key
  · obtain ⟨b1, b2⟩ := cmul (n := a.length) hc (Nat.le_of_lt hi) ha
    have hl : (marked mk c k0 i ++ a.drop i).length = a.length := by simp [marked_len]; omega
    rw [hf _ i _ (by omega) (by omega) (by omega) (by omega)]
    have e1 : k0 + c * (i : Int) + c = k0 + c * ((i + 1 : Nat) : Int) := by rw [csucc]; omega
    have e2 : (marked mk c k0 i ++ a.drop i).set i (mk (k0 + c * (i : Int))) = marked mk c k0 (i + 1) ++ a.drop (i + 1) := by
      have h1 : a.drop i = a[i] :: a.drop (i + 1) := List.drop_eq_getElem_cons hi
      rw [List.set_append_right _ _ (by rw [marked_len]; omega), marked_len, Nat.sub_self, h1, List.set_cons_zero]
      unfold marked
      rw [List.range_succ, List.map_append, List.append_assoc]
      rfl
    rw [e1, e2]
  · have e : marked mk c k0 a.length ++ a.drop a.length = marked mk c k0 a.length := by simp
    try dsimp only
    rw [e]
    have := he (k0 + c * (a.length : Int)) (marked mk c k0 a.length)
    rwa [marked_len] at this
theorem held_loop {α : Type} (c : Int) (mk : Int → α) {f : Int × Int → Option ((Int × Int) ⊕ (Int ⊕ Unit))} {n : Nat} {k0 : Int} (hc : 0 ≤ c ∧ c ≤ 64) (h0 : 0 ≤ k0 ∧ k0 ≤ 1099511627776) (hn : n ≤ 1048576)
    (he : ∀ k : Int, f (k, (n : Int)) = some (.inr (.inl k)))
    (hf : ∀ (k : Int) (i : Nat) (x : α), (marked mk c k0 n)[i]? = some x → i < n → x = mk k → 0 ≤ k → k ≤ 4398046511104 → f (k, (i : Int)) = some (.inl (k + c, ((i + 1 : Nat) : Int)))) :
    loopI f (k0, 0) = some (.inl (k0 + c * (n : Int))) := by
  have key := loopI_n (f := f) (fun i => (k0 + c * (i : Int), (i : Int))) n (r := .inl (k0 + c * (n : Int))) (fun i hi => ?_) (he _)
  · have e : (k0 + c * ((0 : Nat) : Int), ((0 : Nat) : Int)) = (k0, (0 : Int)) := by simp
    rwa [e] at key
  · obtain ⟨b1, b2⟩ := cmul (n := n) hc (Nat.le_of_lt hi) hn
    rw [hf (k0 + c * (i : Int)) i (mk (k0 + c * (i : Int))) (by unfold marked; rw [List.getElem?_map, List.getElem?_range hi]; rfl) hi rfl (by omega) (by omega)]
    rw [csucc, Int.add_assoc]
theorem idx_set {α : Type} {l : List α} {i : Nat} {x : α} (h : i < l.length) : idx (l.set i x) (i : Int) = some x := by
  refine idx_some ?_
  rw [List.getElem?_set_self h]
theorem m_markIntS {k : Int} {l : List Int} (hk : 0 ≤ k ∧ k ≤ 1099511627776) (hl : l.length ≤ 1048576) : laws_markIntS k l = some (k + 1 * (l.length : Int), marked (fun k => k) 1 k l.length) := by
  unfold laws_markIntS
  rw [mark_loop (f := laws_markIntS_l0) 1 (fun k => k) (by omega) hk hl (fun k l => by rw [laws_markIntS_l0, ilt (by omega), cnd_true]) (fun k i l hi hl h0 h1 => by
    rw [laws_markIntS_l0, ilf (by omega), cnd_false, idx_nat hi, bnd_some, nam_eq, Int.toNat_natCast, wr_in (n := k + 1) (by omega), wr_in (by omega)]; rfl)]
  rfl
theorem m_markColorS {k : Int} {l : List TColor} (hk : 0 ≤ k ∧ k ≤ 1099511627776) (hl : l.length ≤ 1048576) : laws_markColorS k l = some (k + 4 * (l.length : Int), marked (fun k => ⟨k, k + 1, k + 1 + 1, k + 1 + 1 + 1⟩) 4 k l.length) := by
  unfold laws_markColorS
  rw [mark_loop (f := laws_markColorS_l0) 4 (fun k => (⟨k, k + 1, k + 1 + 1, k + 1 + 1 + 1⟩ : TColor)) (by omega) hk hl (fun k l => by rw [laws_markColorS_l0, ilt (by omega), cnd_true]) (fun k i l hi hl h0 h1 => by
    rw [laws_markColorS_l0, ilf (by omega), cnd_false, idx_nat hi, bnd_some, wr_in (n := k + 1) (by omega), wr_in (n := k + 1 + 1) (by omega), wr_in (n := k + 1 + 1 + 1) (by omega), wr_in (n := k + 1 + 1 + 1 + 1) (by omega), wr_in (n := (i : Int) + 1) (by omega)]
    simp only [nam_eq, Int.toNat_natCast]
    rw [idx_set hi, bnd_some, List.set_set, idx_set hi, bnd_some, List.set_set, idx_set hi, bnd_some, List.set_set]
    congr 2
    · congr 1; omega)]
  rfl
theorem m_heldColorS {k : Int} {n : Nat} (hk : 0 ≤ k ∧ k ≤ 1099511627776) (hl : n ≤ 1048576) : laws_heldColorS (marked (fun k => ⟨k, k + 1, k + 1 + 1, k + 1 + 1 + 1⟩) 4 k n) k = some (k + 4 * (n : Int)) := by
  unfold laws_heldColorS
  rw [held_loop (f := laws_heldColorS_l0 (marked (fun k => ⟨k, k + 1, k + 1 + 1, k + 1 + 1 + 1⟩) 4 k n)) 4 (fun k => (⟨k, k + 1, k + 1 + 1, k + 1 + 1 + 1⟩ : TColor)) (n := n) (by omega) hk hl (fun k => by rw [laws_heldColorS_l0, marked_len, ilt (by omega), cnd_true]) (fun k i x hx hi he h0 h1 => by
    rw [laws_heldColorS_l0, marked_len, ilf (by omega), cnd_false, idx_some hx, bnd_some, he, wr_in (n := k + 1) (by omega), wr_in (n := k + 1 + 1) (by omega), wr_in (n := k + 1 + 1 + 1) (by omega), wr_in (n := k + 1 + 1 + 1 + 1) (by omega), wr_in (n := (i : Int) + 1) (by omega)]
    simp only [iqt, cnd_true]
    congr 2
    · congr 1; omega)]
  rfl

/-! ## TilesOf -/
/-! ## Painting a part of a surface -/
section
variable {α : Type}
/-- Is a place in the rows that are done, or in the row at work, left of x? -/
def inPart (w x0 x1 y0 y x : Int) (k : Nat) : Bool := decide ((y0 ≤ (k : Int) / w ∧ (k : Int) / w < y ∧ x0 ≤ (k : Int) % w ∧ (k : Int) % w < x1) ∨ ((k : Int) / w = y ∧ x0 ≤ (k : Int) % w ∧ (k : Int) % w < x ∧ (k : Int) % w < x1))
def inRect (w x0 x1 y0 y1 : Int) (k : Nat) : Bool := decide (y0 ≤ (k : Int) / w ∧ (k : Int) / w < y1 ∧ x0 ≤ (k : Int) % w ∧ (k : Int) % w < x1)
def ptd (P : Nat → Bool) (H : Nat → α → α) (p : List α) : List α := p.mapIdx fun k c => if P k then H k c else c
theorem ptd_len {P : Nat → Bool} {H : Nat → α → α} {p : List α} : (ptd P H p).length = p.length := by simp [ptd]
theorem ptd_get {P : Nat → Bool} {H : Nat → α → α} {p : List α} {k : Nat} (hk : k < p.length) : (ptd P H p)[k]? = some (if P k then H k p[k] else p[k]) := by
  unfold ptd; rw [List.getElem?_mapIdx, List.getElem?_eq_getElem hk]; rfl
theorem ptd_set {P Q : Nat → Bool} {H : Nat → α → α} {p : List α} {j : Nat} (hj : j < p.length) (hP : P j = false) (hQ : ∀ k, k < p.length → Q k = (P k || decide (k = j))) : (ptd P H p).set j (H j p[j]) = ptd Q H p := by
  refine List.ext_getElem? fun k => ?_
  by_cases hk : k < p.length
  · rw [ptd_get hk, List.getElem?_set, ptd_len]
    by_cases hkj : j = k
    · subst hkj; rw [if_pos rfl, if_pos hj, hQ _ hk]; simp
    · rw [if_neg hkj, ptd_get hk, hQ _ hk]
      have : decide (k = j) = false := by simp; omega
      rw [this, Bool.or_false]
  · rw [List.getElem?_eq_none (by rw [List.length_set, ptd_len]; omega), List.getElem?_eq_none (by rw [ptd_len]; omega)]
theorem ptd_congr {P Q : Nat → Bool} {H G : Nat → α → α} {p : List α} (h : ∀ k (hk : k < p.length), P k = Q k) (hg : ∀ k (hk : k < p.length), Q k = true → H k p[k] = G k p[k]) : ptd P H p = ptd Q G p := by
  refine List.ext_getElem? fun k => ?_
  by_cases hk : k < p.length
  · rw [ptd_get hk, ptd_get hk, h k hk]
    cases hq : Q k with
    | true => rw [if_pos rfl, if_pos rfl, hg k hk hq]
    | false => rfl
  · rw [List.getElem?_eq_none (by rw [ptd_len]; omega), List.getElem?_eq_none (by rw [ptd_len]; omega)]
theorem div_at {w x y : Int} (hw : 0 < w) (hx : 0 ≤ x ∧ x < w) : (y * w + x) / w = y ∧ (y * w + x) % w = x := by
  constructor
  · rw [Int.add_comm, Int.add_mul_ediv_right _ _ (by omega), Int.ediv_eq_zero_of_lt hx.1 hx.2]; omega
  · rw [Int.add_comm, Int.add_mul_emod_self_right, Int.emod_eq_of_lt hx.1 hx.2]
theorem place_at {w x y : Int} {k : Nat} (hw : 0 < w) (h1 : (k : Int) / w = y) (h2 : (k : Int) % w = x) : (k : Int) = y * w + x := by
  have := Int.mul_ediv_add_emod (k : Int) w
  rw [h1, h2, Int.mul_comm] at this
  exact this.symm
theorem paint2 {w h x0 x1 y0 y1 : Int} {p : List α} {H : Nat → α → α} {f0 : Int → Int × List α → Option ((Int × List α) ⊕ List α)} {f1 : Int × List α → Option ((Int × List α) ⊕ List α)}
    (hw : 1 ≤ w ∧ w ≤ 12) (hh : 1 ≤ h ∧ h ≤ 12) (hx : 0 ≤ x0 ∧ x1 ≤ w) (hy : 0 ≤ y0 ∧ y1 ≤ h) (hp : (p.length : Int) = w * h)
    (h0 : ∀ y x l c, y0 ≤ y → y < y1 → x0 ≤ x → x < x1 → l.length = p.length → l[(y * w + x).toNat]? = some c → p[(y * w + x).toNat]? = some c → f0 y (x, l) = some (.inl (x + 1, l.set (y * w + x).toNat (H (y * w + x).toNat c))))
    (e0 : ∀ y x l, x1 ≤ x → f0 y (x, l) = some (.inr l))
    (h1 : ∀ y l, y0 ≤ y → y < y1 → f1 (y, l) = bnd (loopI (f0 y) (x0, l)) fun l => some (.inl (y + 1, l)))
    (e1 : ∀ y l, y1 ≤ y → f1 (y, l) = some (.inr l)) :
    loopI f1 (y0, p) = some (ptd (inRect w x0 x1 y0 y1) H p) := by
  have row : ∀ y, y0 ≤ y → y < y1 → loopI (f0 y) (x0, ptd (inPart w x0 x1 y0 y x0) H p) = some (ptd (inPart w x0 x1 y0 (y + 1) x0) H p) := by
    intro y hy0 hy1
    have key := loopI_n (f := f0 y) (fun i : Nat => (x0 + (i : Int), ptd (inPart w x0 x1 y0 y (x0 + (i : Int))) H p)) (x1 - x0).toNat (r := ptd (inPart w x0 x1 y0 (y + 1) x0) H p) (fun i hi => ?_) ?_
    · have e : (x0 + ((0 : Nat) : Int), ptd (inPart w x0 x1 y0 y (x0 + ((0 : Nat) : Int))) H p) = (x0, ptd (inPart w x0 x1 y0 y x0) H p) := by
        rw [show x0 + ((0 : Nat) : Int) = x0 by omega]
      rwa [e] at key
    · obtain ⟨b1, b2, b3⟩ := in_wh (w := w) (h := h) (x := x0 + (i : Int)) (y := y) ⟨by omega, hw.2⟩ ⟨by omega, hh.2⟩ ⟨by omega, by omega⟩ ⟨by omega, by omega⟩
      have hlt : (y * w + (x0 + (i : Int))).toNat < p.length := by omega
      have hcast : (((y * w + (x0 + (i : Int))).toNat : Nat) : Int) = y * w + (x0 + (i : Int)) := by omega
      obtain ⟨d1, d2⟩ := div_at (w := w) (x := x0 + (i : Int)) (y := y) (by omega) ⟨by omega, by omega⟩
      have hP : inPart w x0 x1 y0 y (x0 + (i : Int)) (y * w + (x0 + (i : Int))).toNat = false := by
        unfold inPart; rw [hcast, d1, d2]; simp; try omega
      have hg : (ptd (inPart w x0 x1 y0 y (x0 + (i : Int))) H p)[(y * w + (x0 + (i : Int))).toNat]? = some p[(y * w + (x0 + (i : Int))).toNat] := by rw [ptd_get hlt, hP]; rfl
      rw [h0 y _ _ _ hy0 hy1 (by omega) (by omega) ptd_len hg (List.getElem?_eq_getElem hlt)]
      rw [ptd_set (Q := inPart w x0 x1 y0 y (x0 + ((i + 1 : Nat) : Int))) hlt hP (fun k hk => ?_)]
      · congr 3; try omega
      · unfold inPart
        rw [← Bool.decide_or]
        refine decide_eq_decide.2 ?_
        constructor
        · rintro (h | ⟨h2, h3, h4, h5⟩)
          · exact .inl (.inl h)
          · by_cases h6 : (k : Int) % w < x0 + (i : Int)
            · exact .inl (.inr ⟨h2, h3, h6, h5⟩)
            · right
              have := place_at (k := k) (x := x0 + (i : Int)) (by omega) h2 (by omega)
              omega
        · rintro ((h | ⟨h2, h3, h4, h5⟩) | h)
          · exact .inl h
          · exact .inr ⟨h2, h3, by omega, h5⟩
          · right
            have hk2 : (k : Int) = y * w + (x0 + (i : Int)) := by omega
            rw [hk2, d1, d2]
            exact ⟨rfl, by omega, by omega, by omega⟩
    · rw [e0 _ _ _ (by omega)]
      congr 2
      refine ptd_congr (fun k hk => ?_) (fun _ _ _ => rfl)
      unfold inPart
      refine decide_eq_decide.2 ?_
      constructor
      · rintro (⟨h2, h3, h4, h5⟩ | ⟨h2, h3, h4, h5⟩)
        · exact .inl ⟨h2, by omega, h4, h5⟩
        · exact .inl ⟨by omega, by omega, h3, h5⟩
      · rintro (⟨h2, h3, h4, h5⟩ | ⟨h2, h3, h4, h5⟩)
        · by_cases h6 : (k : Int) / w < y
          · exact .inl ⟨h2, h6, h4, h5⟩
          · exact .inr ⟨by omega, h4, by omega, h5⟩
        · omega
  have key := loopI_n (f := f1) (fun j : Nat => (y0 + (j : Int), ptd (inPart w x0 x1 y0 (y0 + (j : Int)) x0) H p)) (y1 - y0).toNat (r := ptd (inRect w x0 x1 y0 y1) H p) (fun j hj => ?_) ?_
  · have e : (y0 + ((0 : Nat) : Int), ptd (inPart w x0 x1 y0 (y0 + ((0 : Nat) : Int)) x0) H p) = (y0, p) := by
      rw [show y0 + ((0 : Nat) : Int) = y0 by omega]
      congr 1
      refine List.ext_getElem? fun k => ?_
      by_cases hk : k < p.length
      · rw [ptd_get hk, List.getElem?_eq_getElem hk]
        have : inPart w x0 x1 y0 y0 x0 k = false := by unfold inPart; simp; omega
        rw [this]; rfl
      · rw [List.getElem?_eq_none (by rw [ptd_len]; omega), List.getElem?_eq_none (by omega)]
    rwa [e] at key
  · rw [h1 _ _ (by omega) (by omega), row _ (by omega) (by omega), bnd_some]
    congr 3
    · omega
    · rw [show y0 + ((j + 1 : Nat) : Int) = y0 + (j : Int) + 1 by omega]
  · rw [e1 _ _ (by omega)]
    congr 2
    refine ptd_congr (fun k hk => ?_) (fun _ _ _ => rfl)
    unfold inPart inRect
    refine decide_eq_decide.2 ?_
    constructor
    · rintro (⟨h2, h3, h4, h5⟩ | ⟨h2, h3, h4, h5⟩)
      · exact ⟨h2, by omega, h4, h5⟩
      · omega
    · rintro ⟨h2, h3, h4, h5⟩
      exact .inl ⟨h2, by omega, h4, h5⟩
end

/-! ## Colours: the program's words are the reference's -/
theorem s_Clamp (a b c : Int) : impl_Clamp a b c = spec_Clamp a b c := rfl
theorem s_RoundDiv (a b : Int) : impl_RoundDiv a b = spec_RoundDiv a b := rfl
theorem s_Times255 (a b : Int) : impl_Times255 a b = spec_Times255 a b := rfl
theorem t_Clamp (a b c : Int) : ∃ r, spec_Clamp a b c = some r := by
  unfold spec_Clamp; cases ile b a <;> cases ile a c <;> exact ⟨_, rfl⟩
theorem t_FloorDiv (a b : Int) : ∃ r, spec_FloorDiv a b = some r := by
  unfold spec_FloorDiv
  cases h : ile 1 b
  · exact ⟨_, rfl⟩
  · rw [ile_t] at h
    rw [cnd_true, chkP_pos (by omega)]
    cases ile 0 (a.tmod b) <;> exact ⟨_, rfl⟩
theorem t_RoundDiv (a b : Int) : ∃ r, spec_RoundDiv a b = some r := by
  unfold spec_RoundDiv
  cases ile 1 b
  · exact ⟨_, rfl⟩
  · obtain ⟨v, e⟩ := t_FloorDiv a b
    rw [cnd_true, e, bnd_some]
    cases ile (IntKind.i64.wrap (b - IntKind.i64.wrap (a - IntKind.i64.wrap (v * b)))) (IntKind.i64.wrap (a - IntKind.i64.wrap (v * b))) <;> exact ⟨_, rfl⟩
theorem t_Times255 (a b : Int) : ∃ r, spec_Times255 a b = some r := by
  unfold spec_Times255
  obtain ⟨v, e⟩ := t_Clamp a 0 255
  obtain ⟨w, f⟩ := t_Clamp b 0 255
  rw [e, bnd_some, f, bnd_some]
  obtain ⟨u, g⟩ := t_RoundDiv (IntKind.i64.wrap (v * w)) 255
  rw [g]; exact ⟨_, rfl⟩
theorem t_cut (x : Int) : cnd (ile x 255) (some x) (some 255) = some (min x 255) := by
  cases h : ile x 255
  · rw [ile_f] at h; rw [cnd_false]; congr 1; omega
  · rw [ile_t] at h; rw [cnd_true]; congr 1; omega
theorem t_l13Part (m s d sa da : Int) : ∃ r, spec_l13Part m s d sa da = some r := by
  unfold spec_l13Part
  simp only [t_cut]
  obtain ⟨a, ea⟩ := t_Times255 d (IntKind.i64.wrap (255 - sa))
  obtain ⟨b, eb⟩ := t_RoundDiv (IntKind.i64.wrap ((IntKind.i64.wrap ((IntKind.i64.wrap (s * d)) + (IntKind.i64.wrap (s * (IntKind.i64.wrap (255 - da)))))) + (IntKind.i64.wrap (d * (IntKind.i64.wrap (255 - sa)))))) 255
  obtain ⟨c, ec⟩ := t_RoundDiv (IntKind.i64.wrap (s * d)) 255
  rw [ea, eb, ec]
  simp only [bnd_some]
  cases ieq m 1 <;> cases ieq m 2 <;> cases ieq m 3 <;> cases ieq m 4 <;> cases ieq m 5 <;> exact ⟨_, rfl⟩
theorem s_part {m s d sa da : Int} (hm : tin m 1 5 = true) : impl_Blend_1 s d (IntKind.i64.wrap (255 - sa)) m (IntKind.i64.wrap (255 - da)) = spec_l13Part m s d sa da := by
  unfold impl_Blend_1 spec_l13Part
  simp only [t_cut]
  rw [s_Times255]
  obtain ⟨a, ea⟩ := t_Times255 d (IntKind.i64.wrap (255 - sa))
  rw [ea, bnd_some, bnd_some]
  rw [tin_t] at hm
  by_cases h1 : m = 1
  · subst h1; rw [iqt, cnd_true, cnd_true, Int.add_comm a s]
  rw [iqf h1, cnd_false, cnd_false]
  by_cases h2 : m = 2
  · subst h2; rw [iqt, cnd_true, cnd_true, s_RoundDiv]
  rw [iqf h2, cnd_false, cnd_false]
  by_cases h3 : m = 3
  · subst h3; rw [iqt, cnd_true, cnd_true, s_RoundDiv]
  rw [iqf h3, cnd_false, cnd_false]
  by_cases h4 : m = 4
  · subst h4; rw [iqt, cnd_true, cnd_true]
  rw [iqf h4, cnd_false, cnd_false]
  have h5 : m = 5 := by omega
  subst h5; rw [iqt, cnd_true, bnd_some]
theorem t_Blend (m : Int) (s d : TColor) : ∃ r, spec_Blend m s d = some r := by
  unfold spec_Blend
  rw [m_spec_LaidOk, m_spec_LaidOk, bnd_some, bnd_some]
  obtain ⟨a, ea⟩ := t_l13Part m s.r d.r s.a d.a
  obtain ⟨b, eb⟩ := t_l13Part m s.g d.g s.a d.a
  obtain ⟨c, ec⟩ := t_l13Part m s.b d.b s.a d.a
  obtain ⟨e, ee⟩ := t_l13Part m s.a d.a s.a d.a
  rw [ea, eb, ec, ee]
  cases laidOk s <;> cases laidOk d <;> exact ⟨_, rfl⟩
theorem laid_facts {c : TColor} (h : laidOk c = true) : (0 ≤ c.r ∧ c.r ≤ 255) ∧ (0 ≤ c.g ∧ c.g ≤ 255) ∧ (0 ≤ c.b ∧ c.b ≤ 255) ∧ (0 ≤ c.a ∧ c.a ≤ 255) ∧ c.r ≤ c.a ∧ c.g ≤ c.a ∧ c.b ≤ c.a := by
  simp only [laidOk, Bool.and_eq_true, tin_t, ile_t] at h
  omega
theorem part_no {m s d sa da : Int} (hm : tin m 1 5 = false) (hd : d ≤ 255) : spec_l13Part m s d sa da = some d := by
  have h : ¬ (1 ≤ m ∧ m ≤ 5) := by rw [← tin_t, hm]; simp
  unfold spec_l13Part
  rw [iqf (by omega), iqf (by omega), iqf (by omega), iqf (by omega), iqf (by omega)]
  simp only [cnd_false]
  rw [ilt hd, cnd_true]
theorem s_Blend (m : Int) (s d : TColor) : impl_Blend m s d = spec_Blend m s d := by
  unfold impl_Blend spec_Blend impl_isMode
  rw [m_impl_inRange, bnd_some, bnd_some, m_impl_LaidOk, m_impl_LaidOk, m_spec_LaidOk, m_spec_LaidOk]
  simp only [bnd_some]
  cases hs : laidOk s
  · simp only [cnd_false]; cases tin m 1 5 <;> rfl
  cases hd : laidOk d
  · simp only [cnd_false, cnd_true]; cases tin m 1 5 <;> rfl
  simp only [cnd_true]
  cases hm : tin m 1 5
  · obtain ⟨h1, h2, h3, h4, _⟩ := laid_facts hd
    rw [cnd_false, part_no hm h1.2, part_no hm h2.2, part_no hm h3.2, part_no hm h4.2]; rfl
  · rw [cnd_true]
    unfold impl_each_Blend_1
    rw [s_part hm, s_part hm, s_part hm, s_part hm]
    obtain ⟨a, ea⟩ := t_l13Part m s.r d.r s.a d.a
    obtain ⟨b, eb⟩ := t_l13Part m s.g d.g s.a d.a
    obtain ⟨c, ec⟩ := t_l13Part m s.b d.b s.a d.a
    obtain ⟨e, ee⟩ := t_l13Part m s.a d.a s.a d.a
    rw [ea, eb, ec, ee]; rfl
theorem t_Fade (c : TColor) (n : Int) : ∃ r, spec_Fade c n = some r := by
  unfold spec_Fade
  rw [m_spec_LaidOk, m_spec_l01In, bnd_some, bnd_some]
  obtain ⟨a, ea⟩ := t_Times255 c.r n
  obtain ⟨b, eb⟩ := t_Times255 c.g n
  obtain ⟨d, ed⟩ := t_Times255 c.b n
  obtain ⟨e, ee⟩ := t_Times255 c.a n
  rw [ea, eb, ed, ee]
  cases laidOk c <;> cases tin n 0 255 <;> exact ⟨_, rfl⟩
theorem s_Fade (c : TColor) (n : Int) : impl_Fade c n = spec_Fade c n := by
  unfold impl_Fade spec_Fade
  rw [m_impl_isByte, bnd_some, m_impl_LaidOk, m_spec_LaidOk, m_spec_l01In]
  simp only [bnd_some]
  cases laidOk c <;> cases tin n 0 255 <;> simp only [cnd_true, cnd_false]
  unfold impl_each_Fade_1 impl_Fade_1
  rw [s_Times255, s_Times255, s_Times255, s_Times255]
  obtain ⟨a, ea⟩ := t_Times255 c.r n
  obtain ⟨b, eb⟩ := t_Times255 c.g n
  obtain ⟨d, ed⟩ := t_Times255 c.b n
  obtain ⟨e, ee⟩ := t_Times255 c.a n
  rw [ea, eb, ed, ee]; rfl

/-! ## LayOver -/
theorem full_rect {w h : Int} {n : Nat} (hw : 1 ≤ w ∧ w ≤ 12) (hh : 1 ≤ h ∧ h ≤ 12) (hn : (n : Int) = w * h) (k : Nat) (hk : k < n) : inRect w 0 w 0 h k = true := by
  unfold inRect
  have h1 : 0 ≤ (k : Int) / w := Int.ediv_nonneg (by omega) (by omega)
  have h2 : 0 ≤ (k : Int) % w := Int.emod_nonneg _ (by omega)
  have h3 : (k : Int) % w < w := Int.emod_lt_of_pos _ (by omega)
  have h4 : (k : Int) / w < h := by
    refine Int.ediv_lt_of_lt_mul (by omega) ?_
    rw [Int.mul_comm h w]; omega
  simp [h1, h2, h3, h4]
theorem surf_gd {s : TSurface} (h : s.pix.length ≤ 1048576) : gd_Surface s := ⟨h, fun _ _ => trivial⟩
theorem m_markSurface {w h k : Int} {l : List TColor} (hk : 0 ≤ k ∧ k ≤ 1099511627776) (hl : l.length ≤ 1048576) : laws_markSurface w h k l = some (k + 4 * (l.length : Int), marked (fun k => ⟨k, k + 1, k + 1 + 1, k + 1 + 1 + 1⟩) 4 k l.length) := by
  unfold laws_markSurface; rw [m_markColorS hk hl]; rfl
theorem m_heldSurface {w h k : Int} {n : Nat} (hk : 0 ≤ k ∧ k ≤ 1099511627776) (hl : n ≤ 1048576) : laws_heldSurface ⟨w, h, marked (fun k => ⟨k, k + 1, k + 1 + 1, k + 1 + 1 + 1⟩) 4 k n⟩ k = some (k + 4 * (n : Int)) := by
  unfold laws_heldSurface; dsimp only; rw [m_heldColorS hk hl, bnd_some, ilt (by omega), cnd_true]
/-! ## Paints -/
instance decCol : DecidableEq TColor := fun a b => decidable_of_iff (a.r = b.r ∧ a.g = b.g ∧ a.b = b.b ∧ a.a = b.a) (by cases a; cases b; simp)
instance decPt : DecidableEq TPoint := fun a b => decidable_of_iff (a.x = b.x ∧ a.y = b.y) (by cases a; cases b; simp)
theorem s_PointOk (p : TPoint) : impl_PointOk p = spec_PointOk p := by
  unfold impl_PointOk spec_PointOk impl_isFar
  rw [m_impl_inRange, m_spec_l01In, m_impl_inRange, m_spec_l01In]; rfl
theorem t_PointOk (p : TPoint) : spec_PointOk p = some (tin p.x (-8388608) 8388608 && tin p.y (-8388608) 8388608) := by
  unfold spec_PointOk
  rw [m_spec_l01In, bnd_some, m_spec_l01In]
  cases tin p.x (-8388608) 8388608 <;> simp
def pointOk (p : TPoint) : Bool := tin p.x (-8388608) 8388608 && tin p.y (-8388608) 8388608
def colOk (c : TColor) : Bool := tin c.r 0 255 && tin c.g 0 255 && tin c.b 0 255 && tin c.a 0 255
def paintOk (p : TPaint) : Bool := colOk p.first && if p.kind = 1 then decide (p.last = ⟨0, 0, 0, 0⟩) && decide (p.from_ = ⟨0, 0⟩) && decide (p.to = ⟨0, 0⟩)
  else decide (p.kind = 2) && colOk p.last && pointOk p.from_ && pointOk p.to && !decide (p.from_ = p.to)
theorem col_eq {c d : TColor} : andB (decide (c.r = d.r)) (andB (decide (c.g = d.g)) (andB (decide (c.b = d.b)) (andB (decide (c.a = d.a)) true))) = decide (c = d) := by
  cases c; cases d; simp [andB, Bool.decide_and]
theorem pt_eq {c d : TPoint} : andB (decide (c.x = d.x)) (andB (decide (c.y = d.y)) true) = decide (c = d) := by
  cases c; cases d; simp [andB, Bool.decide_and]
theorem m_spec_PaintOk (p : TPaint) : spec_PaintOk p = some (paintOk p) := by
  unfold spec_PaintOk paintOk
  rw [m_spec_ColorOk, bnd_some]
  have e1 := col_eq (c := p.last) (d := ⟨0, 0, 0, 0⟩)
  have e2 := pt_eq (c := p.from_) (d := ⟨0, 0⟩)
  have e3 := pt_eq (c := p.to) (d := ⟨0, 0⟩)
  have e4 := pt_eq (c := p.from_) (d := p.to)
  dsimp only at e1 e2 e3
  rw [e1, e2, e3, e4, m_spec_ColorOk, t_PointOk, t_PointOk]
  show cnd (colOk p.first) _ _ = _
  cases colOk p.first
  · rfl
  rw [cnd_true, Bool.true_and]
  by_cases h1 : p.kind = 1
  · rw [h1, iqt, cnd_true, if_pos rfl]
    cases decide (p.last = ⟨0, 0, 0, 0⟩) <;> simp only [cnd_true, cnd_false, Bool.false_and, Bool.true_and]
    cases decide (p.from_ = ⟨0, 0⟩) <;> simp
  · rw [iqf h1, cnd_false, if_neg h1]
    by_cases h2 : p.kind = 2
    · rw [h2, iqt, cnd_true]
      simp only [bnd_some, decide_true, Bool.true_and]
      show cnd (colOk p.last) _ _ = _
      cases colOk p.last <;> simp only [cnd_true, cnd_false, Bool.false_and, Bool.true_and]
      show cnd (pointOk p.from_) _ _ = _
      cases pointOk p.from_ <;> simp only [cnd_true, cnd_false, Bool.false_and, Bool.true_and]
      show cnd (pointOk p.to) _ _ = _
      cases pointOk p.to <;> simp
    · rw [iqf h2, cnd_false]; simp [h2]
theorem m_impl_PaintOk (p : TPaint) : impl_PaintOk p = some (paintOk p) := by
  unfold impl_PaintOk paintOk
  have e1 := col_eq (c := p.last) (d := ⟨0, 0, 0, 0⟩)
  have e2 := pt_eq (c := p.from_) (d := ⟨0, 0⟩)
  have e3 := pt_eq (c := p.to) (d := ⟨0, 0⟩)
  have e4 := pt_eq (c := p.from_) (d := p.to)
  dsimp only at e1 e2 e3
  by_cases h1 : p.kind = 1
  · rw [h1, iqt, cnd_true, m_impl_ColorOk, bnd_some, if_pos rfl]
    show cnd (colOk p.first) _ _ = _
    cases colOk p.first
    · rfl
    rw [cnd_true, Bool.true_and]
    congr 1
    rw [← e1, ← e2, ← e3]
    simp only [andB, decide_true, Bool.true_and, Bool.and_true, Bool.and_assoc]
  · rw [iqf h1, cnd_false, if_neg h1]
    by_cases h2 : p.kind = 2
    · rw [h2, iqt, cnd_true, e4, m_impl_ColorOk, m_impl_ColorOk, s_PointOk, s_PointOk, t_PointOk, t_PointOk]
      simp only [bnd_some, decide_true, Bool.true_and]
      show cnd (colOk p.first) _ _ = _
      cases colOk p.first <;> simp only [cnd_true, cnd_false, Bool.false_and, Bool.true_and]
      show cnd (colOk p.last) _ _ = _
      cases colOk p.last <;> simp only [cnd_true, cnd_false, Bool.false_and, Bool.true_and]
      show cnd (pointOk p.from_) _ _ = _
      cases pointOk p.from_ <;> simp only [cnd_true, cnd_false, Bool.false_and, Bool.true_and]
      show cnd (pointOk p.to) _ _ = _
      cases pointOk p.to <;> simp
    · rw [iqf h2, cnd_false]; simp [h2]
theorem s_Laid (c : TColor) : impl_Laid c = spec_Laid c := by
  unfold impl_Laid spec_Laid
  rw [m_impl_ColorOk, m_spec_ColorOk, bnd_some, bnd_some, s_Times255, s_Times255, s_Times255]
theorem t_Laid (c : TColor) : ∃ r, spec_Laid c = some r := by
  unfold spec_Laid
  rw [m_spec_ColorOk, bnd_some]
  obtain ⟨a, ea⟩ := t_Times255 c.r c.a
  obtain ⟨b, eb⟩ := t_Times255 c.g c.a
  obtain ⟨d, ed⟩ := t_Times255 c.b c.a
  rw [ea, eb, ed]
  cases (tin c.r 0 255 && tin c.g 0 255 && tin c.b 0 255 && tin c.a 0 255) <;> exact ⟨_, rfl⟩
theorem t_PartOf {p : TPaint} (h : paintOk p = true) (hk : p.kind = 2) (x y : Int) : impl_partOf p x y = spec_PartOf p x y ∧ ∃ r, spec_PartOf p x y = some r := by
  unfold impl_partOf spec_PartOf impl_taken
  rw [hk, iqt, cnd_true, m_spec_PaintOk, bnd_some, h, cnd_true]
  have e : IntKind.i64.wrap (0 - 2000) = -2000 := by decide
  rw [e, s_Clamp, s_Clamp]
  obtain ⟨a, ea⟩ := t_Clamp x (-2000) 2000
  obtain ⟨b, eb⟩ := t_Clamp y (-2000) 2000
  rw [ea, eb]
  simp only [bnd_some]
  refine ⟨rfl, ?_⟩
  obtain ⟨c, ec⟩ := t_FloorDiv (IntKind.i64.wrap (256 * (IntKind.i64.wrap ((IntKind.i64.wrap ((IntKind.i64.wrap ((IntKind.i64.wrap ((IntKind.i64.wrap (256 * a)) + 128)) - p.from_.x)) * (IntKind.i64.wrap (p.to.x - p.from_.x)))) + (IntKind.i64.wrap ((IntKind.i64.wrap ((IntKind.i64.wrap ((IntKind.i64.wrap (256 * b)) + 128)) - p.from_.y)) * (IntKind.i64.wrap (p.to.y - p.from_.y)))))))) (IntKind.i64.wrap ((IntKind.i64.wrap ((IntKind.i64.wrap (p.to.x - p.from_.x)) * (IntKind.i64.wrap (p.to.x - p.from_.x)))) + (IntKind.i64.wrap ((IntKind.i64.wrap (p.to.y - p.from_.y)) * (IntKind.i64.wrap (p.to.y - p.from_.y))))))
  rw [ec, bnd_some]
  obtain ⟨d, ed⟩ := t_Clamp c 0 256
  rw [ed]; exact ⟨_, rfl⟩
theorem t_Mix (a b t : Int) : ∃ r, spec_l12Mix a b t = some r := by
  unfold spec_l12Mix
  obtain ⟨r, e⟩ := t_RoundDiv (IntKind.i64.wrap ((IntKind.i64.wrap ((IntKind.i64.wrap (256 - t)) * a)) + (IntKind.i64.wrap (t * b)))) 256
  rw [e]; exact ⟨_, rfl⟩
theorem s_Mix (a b t : Int) : impl_ColorAt_1 a b t = spec_l12Mix a b t := rfl
theorem t_ColorAt (p : TPaint) (x y : Int) : impl_ColorAt p x y = spec_ColorAt p x y ∧ ∃ r, spec_ColorAt p x y = some r := by
  unfold impl_ColorAt spec_ColorAt
  rw [m_impl_PaintOk, m_spec_PaintOk, bnd_some, bnd_some]
  cases h : paintOk p with
  | false => exact ⟨rfl, _, rfl⟩
  | true =>
    rw [cnd_true, cnd_true, s_Laid]
    by_cases h1 : p.kind = 1
    · rw [h1, iqt, cnd_true, cnd_true]
      obtain ⟨r, e⟩ := t_Laid p.first
      rw [e]; exact ⟨rfl, _, rfl⟩
    · have h2 : p.kind = 2 := by
        simp only [paintOk, if_neg h1, Bool.and_eq_true, decide_eq_true_eq] at h
        exact h.2.1.1.1.1
      rw [iqf h1, cnd_false, cnd_false]
      obtain ⟨e1, r, e2⟩ := t_PartOf h h2 x y
      rw [e1, e2, bnd_some, bnd_some]
      unfold impl_each_ColorAt_1
      rw [s_Mix, s_Mix, s_Mix, s_Mix]
      obtain ⟨a, ea⟩ := t_Mix p.first.r p.last.r r
      obtain ⟨b, eb⟩ := t_Mix p.first.g p.last.g r
      obtain ⟨c, ec⟩ := t_Mix p.first.b p.last.b r
      obtain ⟨d, ed⟩ := t_Mix p.first.a p.last.a r
      rw [ea, eb, ec, ed]
      simp only [bnd_some]
      rw [s_Laid]
      obtain ⟨q, e⟩ := t_Laid ⟨a, b, c, d⟩
      rw [e]; exact ⟨rfl, _, rfl⟩
theorem s_CountOf {n : Int} (h : tin n 0 15 = true) : impl_CountOf n = spec_CountOf n ∧ ∃ r, spec_CountOf n = some r := by
  unfold impl_CountOf spec_CountOf
  rw [m_impl_inRange, m_spec_l01In, bnd_some, bnd_some, h, cnd_true, cnd_true]
  refine ⟨?_, _, rfl⟩
  rw [tin_t] at h
  obtain ⟨k, hk, hk2⟩ : ∃ k : Nat, n = (k : Int) ∧ k < 16 := ⟨n.toNat, by omega, by omega⟩
  subst hk
  congr 1
  revert k
  decide
theorem s_Thin (c : TColor) (n : Int) : impl_Thin c n = spec_Thin c n := by
  unfold impl_Thin spec_Thin
  rw [m_impl_inRange, m_spec_l01In, m_impl_LaidOk, m_spec_LaidOk]
  simp only [bnd_some]
  cases laidOk c <;> cases tin n 0 4 <;> simp only [cnd_true, cnd_false]
  unfold impl_each_Thin_1 impl_Thin_1
  rw [s_RoundDiv, s_RoundDiv, s_RoundDiv, s_RoundDiv]
  obtain ⟨a, ea⟩ := t_RoundDiv (IntKind.i64.wrap (c.r * n)) 4
  obtain ⟨b, eb⟩ := t_RoundDiv (IntKind.i64.wrap (c.g * n)) 4
  obtain ⟨d, ed⟩ := t_RoundDiv (IntKind.i64.wrap (c.b * n)) 4
  obtain ⟨e, ee⟩ := t_RoundDiv (IntKind.i64.wrap (c.a * n)) 4
  rw [ea, eb, ed, ee]; rfl
theorem t_Thin (c : TColor) (n : Int) : ∃ r, spec_Thin c n = some r := by
  unfold spec_Thin
  rw [m_spec_LaidOk, m_spec_l01In]
  obtain ⟨a, ea⟩ := t_RoundDiv (IntKind.i64.wrap (c.r * n)) 4
  obtain ⟨b, eb⟩ := t_RoundDiv (IntKind.i64.wrap (c.g * n)) 4
  obtain ⟨d, ed⟩ := t_RoundDiv (IntKind.i64.wrap (c.b * n)) 4
  obtain ⟨e, ee⟩ := t_RoundDiv (IntKind.i64.wrap (c.a * n)) 4
  rw [ea, eb, ed, ee]
  simp only [bnd_some]
  cases laidOk c <;> cases tin n 0 4 <;> exact ⟨_, rfl⟩

/-! ## PaintMask -/
theorem s_bits (m : TMask) (x y : Int) : impl_Mask_bitsAt m x y = spec_l11Bits m x y := rfl
theorem t_bits {m : TMask} (h : maskOk m = true) (x y : Int) : ∃ v, spec_l11Bits m x y = some v ∧ tin v 0 15 = true ∧ (inBox m.box ⟨x, y⟩ = false → v = 0) := by
  unfold spec_l11Bits
  rw [m_spec_InBox, bnd_some]
  cases hb : inBox m.box ⟨x, y⟩ with
  | false => exact ⟨0, rfl, by decide, fun _ => rfl⟩
  | true =>
    rw [cnd_true]
    simp only [inBox, decide_eq_true_eq] at hb
    unfold maskOk at h
    have hne : ¬ m.bits.length = 0 := by
      intro h0
      rw [if_pos h0] at h
      simp only [TBox.isZero, Bool.and_eq_true, decide_eq_true_eq] at h
      omega
    rw [if_neg hne] at h
    simp only [Bool.and_eq_true, decide_eq_true_eq, List.all_eq_true] at h
    obtain ⟨⟨hm, hl⟩, ha⟩ := h
    have hf := mb_facts hm
    have hp := mb_prod hm
    have k1 : (y - m.box.y0) * (m.box.x1 - m.box.x0) ≤ (m.box.y1 - m.box.y0 - 1) * (m.box.x1 - m.box.x0) := Int.mul_le_mul_of_nonneg_right (by omega) (by omega)
    have k2 : 0 ≤ (y - m.box.y0) * (m.box.x1 - m.box.x0) := Int.mul_nonneg (by omega) (by omega)
    have k3 : (m.box.y1 - m.box.y0 - 1) * (m.box.x1 - m.box.x0) = (m.box.x1 - m.box.x0) * (m.box.y1 - m.box.y0) - (m.box.x1 - m.box.x0) := by rw [Int.sub_mul, Int.one_mul, Int.mul_comm]
    rw [wr_in (n := y - m.box.y0) (by omega), wr_in (n := m.box.x1 - m.box.x0) (by omega), wr_in (n := (y - m.box.y0) * (m.box.x1 - m.box.x0)) (by omega), wr_in (n := (y - m.box.y0) * (m.box.x1 - m.box.x0) + x) (by omega), wr_in (by omega)]
    obtain ⟨v, hv, hmem⟩ := idx_of (l := m.bits) (i := (y - m.box.y0) * (m.box.x1 - m.box.x0) + x - m.box.x0) (by omega) (by omega)
    rw [hv]
    exact ⟨v, rfl, ha v hmem, fun h => by cases h⟩
noncomputable def ink0 (p : TPaint) (m : TMask) (mode fade x y : Int) (old : TColor) : Option TColor := bnd (spec_l11Bits m x y) fun v => cnd (ieq v 0) (some old) (bnd (spec_ColorAt p x y) fun c => bnd (spec_CountOf v) fun n => bnd (spec_Thin c n) fun t => bnd (spec_Fade t fade) fun f => spec_Blend mode f old)
noncomputable def ink1 (p : TPaint) (m : TMask) (mode fade x y : Int) (old : TColor) : TColor := (ink0 p m mode fade x y old).getD old
theorem ink_eq {p : TPaint} {m : TMask} {mode fade x y : Int} {old : TColor} (h : maskOk m = true) : ink0 p m mode fade x y old = some (ink1 p m mode fade x y old) ∧ (inBox m.box ⟨x, y⟩ = false → ink1 p m mode fade x y old = old) ∧ impl_PaintMask_1 x y old m mode p fade = ink0 p m mode fade x y old := by
  obtain ⟨v, e, hv, hb⟩ := t_bits h x y
  unfold ink1 ink0 impl_PaintMask_1 impl_inked
  rw [s_bits, e]
  simp only [bnd_some]
  obtain ⟨e1, c, e2⟩ := t_ColorAt p x y
  obtain ⟨e3, n, e4⟩ := s_CountOf hv
  rw [e1, e2, e3, e4]
  simp only [bnd_some]
  rw [s_Thin]
  obtain ⟨t, e5⟩ := t_Thin c n
  rw [e5]
  simp only [bnd_some]
  rw [s_Fade]
  obtain ⟨f, e6⟩ := t_Fade t fade
  rw [e6]
  simp only [bnd_some]
  rw [s_Blend]
  obtain ⟨r, e7⟩ := t_Blend mode f old
  rw [e7]
  refine ⟨?_, fun hx => ?_, ?_⟩
  · cases ieq v 0 <;> rfl
  · rw [hb hx, iqt]; rfl
  · cases ieq v 0 <;> rfl
noncomputable def inkH (w : Int) (p : TPaint) (m : TMask) (mode fade : Int) (k : Nat) (old : TColor) : TColor := ink1 p m mode fade ((k : Int) % w) ((k : Int) / w) old
noncomputable def paintMask (s : TSurface) (m : TMask) (p : TPaint) (mode fade : Int) : TSurface := if surfaceOk s && maskOk m && paintOk p then ⟨s.w, s.h, ptd (fun _ => true) (inkH s.w p m mode fade) s.pix⟩ else s
theorem meet_in {w h : Int} (hw : 1 ≤ w ∧ w ≤ 12) (hh : 1 ≤ h ∧ h ≤ 12) (b : TBox) : 0 ≤ (meet b ⟨0, 0, w, h⟩).x0 ∧ (meet b ⟨0, 0, w, h⟩).x1 ≤ w ∧ 0 ≤ (meet b ⟨0, 0, w, h⟩).y0 ∧ (meet b ⟨0, 0, w, h⟩).y1 ≤ h ∧
    ∀ x y, 0 ≤ x → x < w → 0 ≤ y → y < h → ((meet b ⟨0, 0, w, h⟩).y0 ≤ y ∧ y < (meet b ⟨0, 0, w, h⟩).y1 ∧ (meet b ⟨0, 0, w, h⟩).x0 ≤ x ∧ x < (meet b ⟨0, 0, w, h⟩).x1 ↔ inBox b ⟨x, y⟩ = true) := by
  unfold meet
  dsimp only
  cases he : TBox.empty ⟨max b.x0 0, max b.y0 0, min b.x1 w, min b.y1 h⟩ with
  | true =>
    have hne : ¬ (max b.x0 0 < min b.x1 w ∧ max b.y0 0 < min b.y1 h) := by
      intro h'
      have : TBox.empty ⟨max b.x0 0, max b.y0 0, min b.x1 w, min b.y1 h⟩ = false := by rw [empty_f]; exact h'
      rw [he] at this; cases this
    simp only [if_true, TBox.zero, inBox, decide_eq_true_eq]
    refine ⟨by omega, by omega, by omega, by omega, fun x y _ _ _ _ => ?_⟩
    constructor
    · intro h'; omega
    · intro h'; exfalso; apply hne; omega
  | false =>
    rw [empty_f] at he
    simp only [Bool.false_eq_true, if_false, inBox, decide_eq_true_eq]
    refine ⟨by omega, by omega, by omega, by omega, fun x y _ _ _ _ => ?_⟩
    constructor <;> intro h' <;> omega
theorem k_in {w h : Int} {n k : Nat} (hw : 1 ≤ w ∧ w ≤ 12) (hn : (n : Int) = w * h) (hk : k < n) : 0 ≤ (k : Int) % w ∧ (k : Int) % w < w ∧ 0 ≤ (k : Int) / w ∧ (k : Int) / w < h := by
  refine ⟨Int.emod_nonneg _ (by omega), Int.emod_lt_of_pos _ (by omega), Int.ediv_nonneg (by omega) (by omega), ?_⟩
  refine Int.ediv_lt_of_lt_mul (by omega) ?_
  rw [Int.mul_comm h w]; omega
theorem m_impl_PaintMask {s : TSurface} {m : TMask} {p : TPaint} {mode fade : Int} (hs : s.pix.length ≤ 1048576) (hb : m.bits.length ≤ 1048576) : impl_PaintMask s m p mode fade = some ((paintMask s m p mode fade).w, (paintMask s m p mode fade).h, (paintMask s m p mode fade).pix) := by
  unfold impl_PaintMask impl_copySurface slices_Clone_Color paintMask
  rw [chkP_pos (by omega), bnd_some, bnd_some]
  dsimp only
  rw [m_impl_SurfaceOk (by omega), bnd_some]
  cases h1 : surfaceOk s
  · simp
  rw [cnd_true, m_impl_MaskOk (by omega), bnd_some]
  cases h2 : maskOk m
  · simp
  rw [cnd_true, m_impl_PaintOk, bnd_some]
  cases h3 : paintOk p
  · simp
  rw [cnd_true]
  simp only [Bool.and_self, if_true]
  obtain ⟨sw, sh, sp, _⟩ := so_facts h1
  rw [tin_t] at sw sh
  obtain ⟨r1, r2, r3, r4, r5⟩ := meet_in sw sh m.box
  unfold impl_Surface_paint_PaintMask_1 impl_Surface_box
  rw [bnd_some]
  try dsimp only
  rw [m_impl_MeetBox, bnd_some]
  try dsimp only
  have key := paint2 (w := s.w) (h := s.h) (x0 := (meet m.box ⟨0, 0, s.w, s.h⟩).x0) (x1 := (meet m.box ⟨0, 0, s.w, s.h⟩).x1) (y0 := (meet m.box ⟨0, 0, s.w, s.h⟩).y0) (y1 := (meet m.box ⟨0, 0, s.w, s.h⟩).y1) (p := s.pix) (H := inkH s.w p m mode fade)
    (f0 := fun y => impl_Surface_paint_PaintMask_1_l0 s.w s.h m mode p fade (meet m.box ⟨0, 0, s.w, s.h⟩) y) (f1 := impl_Surface_paint_PaintMask_1_l1 s.w s.h m mode p fade (meet m.box ⟨0, 0, s.w, s.h⟩))
    sw sh ⟨r1, r2⟩ ⟨r3, r4⟩ sp (fun y x l c y0 y1 x0 x1 hl hc _ => by
      obtain ⟨b1, b2, b3⟩ := in_wh (w := s.w) (h := s.h) (x := x) (y := y) ⟨by omega, sw.2⟩ ⟨by omega, sh.2⟩ ⟨by omega, by omega⟩ ⟨by omega, by omega⟩
      have hcast : (((y * s.w + x).toNat : Nat) : Int) = y * s.w + x := by omega
      obtain ⟨d1, d2⟩ := div_at (w := s.w) (x := x) (y := y) (by omega) ⟨by omega, by omega⟩
      have hi : idx l (y * s.w + x) = some c := by unfold idx; rw [if_pos (by omega)]; exact hc
      obtain ⟨i1, i2, i3⟩ := ink_eq (p := p) (mode := mode) (fade := fade) (x := x) (y := y) (old := c) h2
      try dsimp only
      rw [impl_Surface_paint_PaintMask_1_l0, ilf (by omega), cnd_false, wr_in (n := y * s.w) (by omega), wr_in (n := y * s.w + x) (by omega), hi, bnd_some, i3, i1, bnd_some, nam_eq, wr_in (n := x + 1) (by omega)]
      unfold inkH
      rw [hcast, d1, d2])
    (fun y x l hx => by (try dsimp only); rw [impl_Surface_paint_PaintMask_1_l0, ilt (by omega), cnd_true])
    (fun y l y0 y1 => by rw [impl_Surface_paint_PaintMask_1_l1, ilf (by omega), cnd_false, wr_in (n := y + 1) (by omega)])
    (fun y l hy => by rw [impl_Surface_paint_PaintMask_1_l1, ilt (by omega), cnd_true])
  rw [key, bnd_some, bnd_some]
  congr 3
  refine List.ext_getElem? fun k => ?_
  by_cases hk : k < s.pix.length
  · rw [ptd_get hk, ptd_get hk]
    obtain ⟨k1, k2, k3, k4⟩ := k_in sw sp hk
    cases hr : inRect s.w (meet m.box ⟨0, 0, s.w, s.h⟩).x0 (meet m.box ⟨0, 0, s.w, s.h⟩).x1 (meet m.box ⟨0, 0, s.w, s.h⟩).y0 (meet m.box ⟨0, 0, s.w, s.h⟩).y1 k with
    | true => rfl
    | false =>
      have hx : inBox m.box ⟨(k : Int) % s.w, (k : Int) / s.w⟩ = false := by
        rw [← Bool.not_eq_true, ← r5 _ _ k1 k2 k3 k4]
        simpa [inRect] using hr
      have := (ink_eq (p := p) (mode := mode) (fade := fade) (old := s.pix[k]) h2).2.1 hx
      unfold inkH
      rw [this]; rfl
  · rw [List.getElem?_eq_none (by rw [ptd_len]; omega), List.getElem?_eq_none (by rw [ptd_len]; omega)]
theorem m_spec_PaintMask {s : TSurface} {m : TMask} {p : TPaint} {mode fade : Int} (hs : s.pix.length ≤ 1048576) (hb : m.bits.length ≤ 1048576) : spec_PaintMask s m p mode fade = some (paintMask s m p mode fade) := by
  unfold spec_PaintMask spec_l14Copy paintMask
  rw [chkP_pos (by omega), nam_eq, bnd_some]
  dsimp only
  rw [m_spec_SurfaceOk (by omega), bnd_some]
  cases h1 : surfaceOk s
  · simp
  rw [cnd_true, m_spec_MaskOk (by omega), bnd_some]
  cases h2 : maskOk m
  · simp
  rw [cnd_true, m_spec_PaintOk, bnd_some]
  cases h3 : paintOk p
  · simp
  rw [cnd_true]
  simp only [Bool.and_self, if_true, List.nil_append]
  obtain ⟨sw, sh, sp, _⟩ := so_facts h1
  rw [tin_t] at sw sh
  have key := paint2 (w := s.w) (h := s.h) (x0 := 0) (x1 := s.w) (y0 := 0) (y1 := s.h) (p := s.pix) (H := inkH s.w p m mode fade)
    (f0 := fun y => spec_PaintMask_l0 s m p mode fade s.w s.h y) (f1 := spec_PaintMask_l1 s m p mode fade s.w s.h)
    sw sh (by omega) (by omega) sp (fun y x l c y0 y1 x0 x1 hl hc hc2 => by
      obtain ⟨b1, b2, b3⟩ := in_wh (w := s.w) (h := s.h) (x := x) (y := y) ⟨by omega, sw.2⟩ ⟨by omega, sh.2⟩ ⟨by omega, by omega⟩ ⟨by omega, by omega⟩
      have hcast : (((y * s.w + x).toNat : Nat) : Int) = y * s.w + x := by omega
      obtain ⟨d1, d2⟩ := div_at (w := s.w) (x := x) (y := y) (by omega) ⟨by omega, by omega⟩
      have hi : idx l (y * s.w + x) = some c := by unfold idx; rw [if_pos (by omega)]; exact hc
      have hj : idx s.pix (y * s.w + x) = some c := by unfold idx; rw [if_pos (by omega)]; exact hc2
      obtain ⟨i1, i2, i3⟩ := ink_eq (p := p) (mode := mode) (fade := fade) (x := x) (y := y) (old := c) h2
      have hH : inkH s.w p m mode fade (y * s.w + x).toNat c = ink1 p m mode fade x y c := by unfold inkH; rw [hcast, d1, d2]
      rw [hH]
      try dsimp only
      rw [spec_PaintMask_l0, ilf (by omega), cnd_false]
      unfold ink0 at i1
      obtain ⟨v, ev, _, _⟩ := t_bits h2 x y
      rw [ev, bnd_some] at i1 ⊢
      cases hv : ieq v 0 with
      | true =>
        rw [hv, cnd_true] at i1
        rw [cnd_true, wr_in (n := x + 1) (by omega)]
        simp only [Option.some.injEq] at i1
        rw [← i1]
        congr 3
        obtain ⟨hq, hq2⟩ := List.getElem?_eq_some_iff.1 hc
        rw [← hq2, List.set_getElem_self]
      | false =>
        rw [hv, cnd_false] at i1
        rw [cnd_false]
        obtain ⟨q, eq⟩ := (t_ColorAt p x y).2
        rw [eq, bnd_some] at i1 ⊢
        cases hn : spec_CountOf v with
        | none => rw [hn] at i1; cases i1
        | some n =>
          rw [hn, bnd_some] at i1
          rw [bnd_some]
          obtain ⟨t, et⟩ := t_Thin q n
          rw [et, bnd_some] at i1 ⊢
          obtain ⟨f, ef⟩ := t_Fade t fade
          rw [ef, bnd_some] at i1 ⊢
          rw [wr_in (n := y * s.w) (by omega), wr_in (n := y * s.w + x) (by omega), hj, bnd_some, i1, bnd_some, hi, bnd_some, nam_eq, wr_in (n := x + 1) (by omega)])
    (fun y x l hx => by (try dsimp only); rw [spec_PaintMask_l0, ilt (by omega), cnd_true])
    (fun y l y0 y1 => by rw [spec_PaintMask_l1, ilf (by omega), cnd_false, wr_in (n := y + 1) (by omega)])
    (fun y l hy => by rw [spec_PaintMask_l1, ilt (by omega), cnd_true])
  rw [key, bnd_some, ptd_congr (Q := fun _ => true) (fun k hk => full_rect sw sh sp k hk) (fun _ _ _ => rfl)]
theorem paintMask_len (s : TSurface) (m : TMask) (p : TPaint) (mode fade : Int) : (paintMask s m p mode fade).pix.length = s.pix.length := by
  unfold paintMask; split
  · exact ptd_len
  · rfl
theorem m_markMask {b : TBox} {k : Int} {l : List Int} (hk : 0 ≤ k ∧ k ≤ 1099511627776) (hl : l.length ≤ 1048576) : laws_markMask b k l = some (k + 1 * (l.length : Int), marked (fun k => k) 1 k l.length) := by
  unfold laws_markMask; rw [m_markIntS hk hl]; rfl
theorem m_FnExactPaintMask {s : TSurface} {m : TMask} {p : TPaint} {mode fade : Int} (ha : ok_Surface s) (hb : ok_Mask m) (_ : ok_Paint p) (_ : okN .i64 mode) (_ : okN .i64 fade) : laws_FnExactPaintMask s m p mode fade = some true := by
  obtain ⟨v, e, l, _, g⟩ := f_laws_szSurface ha (left := 1048576) (by omega) (by omega)
  unfold laws_FnExactPaintMask
  rw [e, bnd_some]
  by_cases hv : 0 ≤ v
  case neg => rw [ilf (by omega), cnd_false]
  obtain ⟨v', e', _, _, g'⟩ := f_laws_szMask hb hv (by omega)
  rw [ilt hv, cnd_true, e', bnd_some]
  by_cases hv' : 0 ≤ v'
  case neg => rw [ilf (by omega), cnd_false]
  have ga := g hv; have gb := g' hv'
  have la : s.pix.length ≤ 1048576 := ga.1
  have lb : m.bits.length ≤ 1048576 := gb.1
  rw [ilt hv', cnd_true, f_laws_toSurface ga, bnd_some]
  try dsimp only
  rw [f_laws_toMask gb, bnd_some]
  try dsimp only
  rw [f_laws_toPaint, bnd_some, m_spec_PaintMask (s := ⟨s.w, s.h, s.pix⟩) (m := ⟨m.box, m.bits⟩) la lb, bnd_some, m_impl_PaintMask (s := ⟨s.w, s.h, s.pix⟩) (m := ⟨m.box, m.bits⟩) la lb, bnd_some]
  try dsimp only
  rw [f_laws_eqSurface (a := ⟨(paintMask ⟨s.w, s.h, s.pix⟩ ⟨m.box, m.bits⟩ p mode fade).w, (paintMask ⟨s.w, s.h, s.pix⟩ ⟨m.box, m.bits⟩ p mode fade).h, (paintMask ⟨s.w, s.h, s.pix⟩ ⟨m.box, m.bits⟩ p mode fade).pix⟩) (surf_gd (by rw [paintMask_len]; exact la)), bnd_some, cnd_true,
    f_laws_eqSurface (surf_gd la), bnd_some, cnd_true, f_laws_eqMask (a := ⟨m.box, m.bits⟩) gb, bnd_some, cnd_true, m_markSurface (by omega) la, bnd_some]
  try dsimp only
  rw [m_markMask (by omega) lb, bnd_some]
  try dsimp only
  rw [ilt (by omega), cnd_true, m_markSurface (by omega) (by rw [paintMask_len]; exact la), bnd_some]
  try dsimp only
  rw [m_heldSurface (by omega) (by rw [paintMask_len]; exact la), bnd_some, ilt (by omega), cnd_true, iqt, cnd_true]

/-! ## What blending yields -/
/-! ## Draws: each is told -/
/-! ## Lines and masks of drawn paths: each is told -/
end Go.Proofs.Ytoafihhhdnmliaa.Am
