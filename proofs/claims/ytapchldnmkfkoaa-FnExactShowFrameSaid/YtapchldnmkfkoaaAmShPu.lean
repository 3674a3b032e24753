import Derived.Test.YtapchldnmkfkoaaAmShMo
import Derived.Test.YtapchldnmkfkoaaAmRo
import Derived.Test.YtapchldnmkfkoaaAmLw
set_option linter.unusedVariables false
set_option linter.unusedSimpArgs false
set_option linter.unusedSectionVars false
namespace Go.Proofs.Ytapchldnmkfkoaa.Am
open Go Go.Proofs
def ok_Color (x : TColor) : Prop := (okN .i64) x.r ∧ (okN .i64) x.g ∧ (okN .i64) x.b ∧ (okN .i64) x.a
theorem dm_Color : Dm (.struct [.int .i64, .int .i64, .int .i64, .int .i64]) eColor ok_Color := ⟨fun cs h => by
  rw [Dom] at h; simp only [DomL] at h
  obtain ⟨_, _, rfl, h0, _, _, rfl, h1, _, _, rfl, h2, _, _, rfl, h3, rfl⟩ := h
  obtain ⟨x0, rfl, k0⟩ := dm_int.c h0
  obtain ⟨x1, rfl, k1⟩ := dm_int.c h1
  obtain ⟨x2, rfl, k2⟩ := dm_int.c h2
  obtain ⟨x3, rfl, k3⟩ := dm_int.c h3
  exact ⟨⟨x0, x1, x2, x3⟩, by simp [elA, Ty.isS], k0, k1, k2, k3⟩⟩
def ok_Surface (x : TSurface) : Prop := (okN .i64) x.w ∧ (okN .i64) x.h ∧ (okL ok_Color) x.pix
theorem dm_Surface : Dm (.struct [.int .i64, .int .i64, .slice (.struct [.int .i64, .int .i64, .int .i64, .int .i64])]) eSurface ok_Surface := ⟨fun cs h => by
  rw [Dom] at h; simp only [DomL] at h
  obtain ⟨_, _, rfl, h0, _, _, rfl, h1, _, _, rfl, h2, rfl⟩ := h
  obtain ⟨x0, rfl, k0⟩ := dm_int.c h0
  obtain ⟨x1, rfl, k1⟩ := dm_int.c h1
  obtain ⟨x2, rfl, k2⟩ := (dm_sl dm_Color).c h2
  exact ⟨⟨x0, x1, x2⟩, by simp [elA, Ty.isS], k0, k1, k2⟩⟩
end Go.Proofs.Ytapchldnmkfkoaa.Am
namespace Go.Proofs.Ytapchldnmkfkoaa.Am
open Go Go.Proofs
set_option linter.unusedVariables false
set_option linter.unusedSimpArgs false
theorem f_laws_szColorS {a : List TColor} {left : Int} (ho : okL ok_Color a) (h0 : 0 ≤ left) (h1 : left ≤ 1048576) : ∃ v, laws_szColorS a left = some v ∧ szR v left (gdL tt a) := by
  unfold laws_szColorS; exact sz_row (maxL ho.1) h0 h1
def gd_Surface (x : TSurface) : Prop := (gdL tt) x.pix
theorem f_laws_szSurface {a : TSurface} {left : Int} (ho : ok_Surface a) (h0 : 0 ≤ left) (h1 : left ≤ 1048576) : ∃ v, laws_szSurface a left = some v ∧ szR v left (gd_Surface a) := by
  obtain ⟨o0, o1, o2⟩ := ho
  unfold laws_szSurface
  obtain ⟨v2, e2, l2, m2, g2⟩ := f_laws_szColorS o2 h0 (by omega)
  rw [e2, bnd_some]
  by_cases c2 : 0 ≤ v2
  case neg => rw [ilf (by omega), cnd_false]; exact ⟨-1, rfl, by omega, by omega, fun h => by omega⟩
  rw [ilt c2, cnd_true]
  exact ⟨v2, rfl, by omega, by omega, fun _ => g2 c2⟩
theorem f_laws_toColor {a : TColor} : laws_toColor a = some a := by
  unfold laws_toColor
  rfl
theorem f_laws_toColorS {a : List TColor} (hg : (gdL tt) a) : laws_toColorS a = some a := by
  unfold laws_toColorS
  rw [chkP_pos (ch_row hg.1 (by omega))]
  have h := to_loop (f := laws_toColorS_l0 a) (toE := laws_toColor) ((TColor.mk 0 0 0 0)) (fun x hx => f_laws_toColor ) (fun _ _ => rfl) hg.1
  simp only [nam_eq, h, bnd_some]
theorem f_laws_toSurface {a : TSurface} (hg : gd_Surface a) : laws_toSurface a = some a := by
  have h0 := hg
  unfold laws_toSurface
  simp only [bnd_some, f_laws_toColorS h0]
theorem f_laws_eqColor {a : TColor} : laws_eqColor a a = some true := by
  unfold laws_eqColor
  simp only [bnd_some, cnd_true, iqt, andB, decide_true, Bool.and_self, Bool.and_true]
theorem f_laws_eqColorS {a : List TColor} (hg : (gdL tt) a) : laws_eqColorS a a = some true := by
  unfold laws_eqColorS
  have h := eq_loop (f := laws_eqColorS_l0 a a) (eqE := laws_eqColor) (fun x hx => f_laws_eqColor ) (fun _ => rfl) hg.1
  rw [iqt, cnd_true, h]; rfl
theorem f_laws_eqSurface {a : TSurface} (hg : gd_Surface a) : laws_eqSurface a a = some true := by
  have h0 := hg
  unfold laws_eqSurface
  simp only [bnd_some, cnd_true, iqt, andB, decide_true, Bool.and_self, Bool.and_true, f_laws_eqColorS h0]
end Go.Proofs.Ytapchldnmkfkoaa.Am
namespace Go.Proofs.Ytapchldnmkfkoaa.Am
open Go Go.Proofs
set_option linter.unusedSimpArgs false
set_option linter.unusedVariables false
set_option maxRecDepth 100000
/-! ## Small words -/
def tin (x a b : Int) : Bool := ile a x && ile x b
theorem tin_t {x a b : Int} : tin x a b = true ↔ a ≤ x ∧ x ≤ b := by simp [tin, ile_t]
@[simp] theorem m_spec_l01In (x a b : Int) : spec_l01In x a b = some (tin x a b) := by
  unfold spec_l01In tin; cases ile a x <;> simp
@[simp] theorem m_impl_inRange (x a b : Int) : impl_inRange x a b = some (tin x a b) := by
  unfold impl_inRange tin; cases ile a x <;> simp
@[simp] theorem m_impl_isSide (x : Int) : impl_isSide x = some (tin x 1 12) := by unfold impl_isSide; simp
def tileCount (w h : Int) : Int := if tin w 1 12 && tin h 1 12 then ((w + 3) / 4) * ((h + 3) / 4) else 0
theorem four {w : Int} (h : tin w 1 12 = true) : (w + 3) / 4 = 1 ∨ (w + 3) / 4 = 2 ∨ (w + 3) / 4 = 3 := by rw [tin_t] at h; omega
theorem wr9 {w h : Int} (hw : tin w 1 12 = true) (hh : tin h 1 12 = true) : IntKind.i64.wrap ((w + 3) / 4 * ((h + 3) / 4)) = (w + 3) / 4 * ((h + 3) / 4) := by
  refine wr_in ?_
  rcases four hw with e | e | e <;> rcases four hh with f | f | f <;> rw [e, f] <;> decide
theorem up4 {w : Int} (h : tin w 1 12 = true) : IntKind.i64.wrap ((IntKind.i64.wrap (w + 3)).tdiv 4) = (w + 3) / 4 := by
  rw [tin_t] at h
  rw [wr_in (n := w + 3) (by omega), Int.tdiv_eq_ediv_of_nonneg (by omega), wr_in (by omega)]
theorem tc_bd (w h : Int) : 0 ≤ tileCount w h ∧ tileCount w h ≤ 9 := by
  unfold tileCount
  cases hw : tin w 1 12 <;> cases hh : tin h 1 12 <;> simp
  rcases four hw with e | e | e <;> rcases four hh with f | f | f <;> rw [e, f] <;> decide
@[simp] theorem tc_wrap (w h : Int) : IntKind.i64.wrap (tileCount w h - 1) = tileCount w h - 1 := by
  have := tc_bd w h
  exact wr_in (by omega)
theorem tb_facts {w h i : Int} (hi : tin i 0 (tileCount w h - 1) = true) : tin w 1 12 = true ∧ 0 ≤ i ∧ i ≤ 8 := by
  have := tc_bd w h
  rw [tin_t] at hi
  refine ⟨?_, by omega, by omega⟩
  cases hw : tin w 1 12 with
  | true => rfl
  | false =>
    have : tileCount w h = 0 := by simp [tileCount, hw]
    omega
theorem tb_x {r i : Int} (hr : r = 1 ∨ r = 2 ∨ r = 3) (h0 : 0 ≤ i) (h1 : i ≤ 8) : IntKind.i64.wrap (i.tmod r * 4) = i % r * 4 ∧ IntKind.i64.wrap (i % r * 4 + 4) = i % r * 4 + 4 ∧
    IntKind.i64.wrap (IntKind.i64.wrap (i.tdiv r) * 4) = i / r * 4 ∧ IntKind.i64.wrap (i / r * 4 + 4) = i / r * 4 + 4 := by
  rw [Int.tmod_eq_emod_of_nonneg h0, Int.tdiv_eq_ediv_of_nonneg h0]
  rcases hr with rfl | rfl | rfl
  · rw [wr_in (n := i / 1) (by omega)]; exact ⟨wr_in (by omega), wr_in (by omega), wr_in (by omega), wr_in (by omega)⟩
  · rw [wr_in (n := i / 2) (by omega)]; exact ⟨wr_in (by omega), wr_in (by omega), wr_in (by omega), wr_in (by omega)⟩
  · rw [wr_in (n := i / 3) (by omega)]; exact ⟨wr_in (by omega), wr_in (by omega), wr_in (by omega), wr_in (by omega)⟩
theorem four' {w : Int} (h : tin w 1 12 = true) : ¬ (w + 3) / 4 = 0 := by rcases four h with e | e | e <;> omega
/-! ## Draws -/
/-! ## Each square is in one tile -/
section
variable {a0 : List Int} {v3 v4 w h : Int}
end

/-! ## Loops that ask the same of all -/
theorem loopI_all {f : Int → Option (Int ⊕ (Unit ⊕ Unit))} (n : Nat) (p : Nat → Bool) (hn : n ≤ 9223372036854775807)
    (hs : ∀ i : Nat, i < n → f (i : Int) = cnd (p i) (some (.inl (IntKind.i64.wrap ((i : Int) + 1)))) (some (.inr (.inr ())))) (he : f (n : Int) = some (.inr (.inl ()))) :
    loopI f 0 = some (if (List.range n).all p then .inl () else .inr ()) := by
  have h := loopI_find (f := f) (fun i : Nat => (i : Int)) n (fun i => !(p i)) (fun _ => .inr ()) (r := .inl ()) (fun i hi => by
    rw [hs i hi, wr_in (by omega)]
    cases p i <;> simp) he
  have e : loopI f 0 = loopI f ((0 : Nat) : Int) := rfl
  rw [e, h]
  congr 1
  cases hq : (List.range n).find? (fun i => !(p i)) with
  | none =>
    rw [List.find?_eq_none] at hq
    have : (List.range n).all p = true := List.all_eq_true.2 fun x hx => by simpa using hq x hx
    rw [this]; rfl
  | some i =>
    have h1 := List.find?_some hq
    have h2 := List.mem_of_find?_eq_some hq
    have : (List.range n).all p = false := by
      rw [List.all_eq_false]; exact ⟨i, h2, by simpa using h1⟩
    rw [this]; rfl
theorem range_all {α : Type} {l : List α} {q : α → Bool} {p : Nat → Bool} (h : ∀ i (hi : i < l.length), p i = q l[i]) : (List.range l.length).all p = l.all q := by
  rw [Bool.eq_iff_iff, List.all_eq_true, List.all_eq_true]
  constructor
  · intro k x hx
    obtain ⟨i, hi, rfl⟩ := List.getElem_of_mem hx
    rw [← h i hi]; exact k i (List.mem_range.2 hi)
  · intro k i hi
    have hi := List.mem_range.1 hi
    rw [h i hi]; exact k _ (List.getElem_mem hi)
/-- Of a row, each element asked the same. -/
theorem loopI_row {α : Type} {l : List α} {f : Int → Option (Int ⊕ (Unit ⊕ Unit))} (q : α → Bool) (hn : l.length ≤ 9223372036854775807)
    (hs : ∀ (i : Nat) (h : i < l.length), f (i : Int) = cnd (q l[i]) (some (.inl (IntKind.i64.wrap ((i : Int) + 1)))) (some (.inr (.inr ())))) (he : f (l.length : Int) = some (.inr (.inl ()))) :
    loopI f 0 = some (if l.all q then .inl () else .inr ()) := by
  have h := loopI_all (f := f) l.length (fun i => if h : i < l.length then q l[i] else false) hn (fun i hi => by rw [hs i hi]; simp [hi]) he
  rw [h, range_all (q := q) (fun i hi => by simp [hi])]

/-! ## Masks -/
/-! ## The first of a row that is asked for -/
/-! ## Caches -/
/-! ## Surfaces -/
def laidOk (c : TColor) : Bool := tin c.r 0 255 && tin c.g 0 255 && tin c.b 0 255 && tin c.a 0 255 && ile c.r c.a && ile c.g c.a && ile c.b c.a
def surfaceOk (s : TSurface) : Bool := tin s.w 1 12 && tin s.h 1 12 && decide ((s.pix.length : Int) = s.w * s.h) && s.pix.all laidOk
theorem m_spec_ColorOk (c : TColor) : spec_ColorOk c = some (tin c.r 0 255 && tin c.g 0 255 && tin c.b 0 255 && tin c.a 0 255) := by
  unfold spec_ColorOk
  simp only [m_spec_l01In, bnd_some]
  cases tin c.r 0 255 <;> cases tin c.g 0 255 <;> cases tin c.b 0 255 <;> simp
theorem m_impl_isByte (x : Int) : impl_isByte x = some (tin x 0 255) := by unfold impl_isByte; simp only [m_impl_inRange, bnd_some]
theorem m_impl_ColorOk (c : TColor) : impl_ColorOk c = some (tin c.r 0 255 && tin c.g 0 255 && tin c.b 0 255 && tin c.a 0 255) := by
  unfold impl_ColorOk
  simp only [m_impl_isByte, bnd_some]
  cases tin c.r 0 255 <;> cases tin c.g 0 255 <;> cases tin c.b 0 255 <;> simp
theorem m_spec_LaidOk (c : TColor) : spec_LaidOk c = some (laidOk c) := by
  unfold spec_LaidOk laidOk
  rw [m_spec_ColorOk, bnd_some]
  cases (tin c.r 0 255 && tin c.g 0 255 && tin c.b 0 255 && tin c.a 0 255) <;> simp
  cases ile c.r c.a <;> cases ile c.g c.a <;> simp
theorem m_impl_LaidOk (c : TColor) : impl_LaidOk c = some (laidOk c) := by
  unfold impl_LaidOk laidOk
  rw [m_impl_ColorOk, bnd_some]
  cases (tin c.r 0 255 && tin c.g 0 255 && tin c.b 0 255 && tin c.a 0 255) <;> simp
  cases ile c.r c.a <;> cases ile c.g c.a <;> simp
theorem wh_bd {w h : Int} (hw : tin w 1 12 = true) (hh : tin h 1 12 = true) : 1 ≤ w * h ∧ w * h ≤ 144 := by
  rw [tin_t] at hw hh
  refine ⟨?_, ?_⟩
  · calc (1 : Int) = 1 * 1 := rfl
      _ ≤ w * 1 := Int.mul_le_mul_of_nonneg_right hw.1 (by omega)
      _ ≤ w * h := Int.mul_le_mul_of_nonneg_left hh.1 (by omega)
  · calc w * h ≤ 12 * h := Int.mul_le_mul_of_nonneg_right hw.2 (by omega)
      _ ≤ 12 * 12 := Int.mul_le_mul_of_nonneg_left hh.2 (by omega)
theorem m_spec_SurfaceOk {s : TSurface} (h : s.pix.length ≤ 9223372036854775807) : spec_SurfaceOk s = some (surfaceOk s) := by
  unfold spec_SurfaceOk surfaceOk
  simp only [m_spec_l01In, bnd_some]
  cases h1 : tin s.w 1 12 <;> simp only [cnd_true, cnd_false, Bool.false_and, Bool.true_and]
  cases h2 : tin s.h 1 12 <;> simp only [cnd_true, cnd_false, Bool.false_and, Bool.true_and]
  have := wh_bd h1 h2
  rw [wr_in (by omega)]
  by_cases h3 : (s.pix.length : Int) = s.w * s.h
  · have key := loopI_row (l := s.pix) (f := spec_SurfaceOk_l0 s) laidOk h (fun i hi => by rw [spec_SurfaceOk_l0, ilf (by omega), cnd_false, idx_nat hi, bnd_some, m_spec_LaidOk, bnd_some]) (by rw [spec_SurfaceOk_l0, ilt (by omega), cnd_true])
    rw [key, h3, iqt, cnd_true]
    cases s.pix.all laidOk <;> simp
  · rw [iqf h3, cnd_false]; simp [h3]
theorem m_impl_SurfaceOk {s : TSurface} (h : s.pix.length ≤ 9223372036854775807) : impl_SurfaceOk s = some (surfaceOk s) := by
  unfold impl_SurfaceOk surfaceOk
  simp only [m_impl_isSide, bnd_some]
  cases h1 : tin s.w 1 12 <;> simp only [cnd_true, cnd_false, Bool.false_and, Bool.true_and]
  cases h2 : tin s.h 1 12 <;> simp only [cnd_true, cnd_false, Bool.false_and, Bool.true_and]
  have := wh_bd h1 h2
  rw [wr_in (by omega)]
  by_cases h3 : (s.pix.length : Int) = s.w * s.h
  · have key := loopI_row (l := s.pix) (f := impl_SurfaceOk_l0 s) laidOk h (fun i hi => by rw [impl_SurfaceOk_l0, ilf (by omega), cnd_false, idx_nat hi, bnd_some, m_impl_LaidOk, bnd_some]) (by rw [impl_SurfaceOk_l0, ilt (by omega), cnd_true])
    rw [key, h3, iqt, cnd_true]
    cases s.pix.all laidOk <;> simp
  · rw [iqf h3, cnd_false]; simp [h3]
theorem so_facts {s : TSurface} (h : surfaceOk s = true) : tin s.w 1 12 = true ∧ tin s.h 1 12 = true ∧ (s.pix.length : Int) = s.w * s.h ∧ ∀ c ∈ s.pix, laidOk c = true := by
  simp only [surfaceOk, Bool.and_eq_true, decide_eq_true_eq, List.all_eq_true] at h
  exact ⟨h.1.1.1, h.1.1.2, h.1.2, h.2⟩

/-! ## Loops from a number to another one -/
/-! ## Sparing -/
/-! ## Marks -/
/-! ## TilesOf -/
/-! ## Painting a part of a surface -/
section
variable {α : Type}
end

/-! ## Colours: the program's words are the reference's -/
/-! ## LayOver -/
/-! ## Paints -/
instance decCol : DecidableEq TColor := fun a b => decidable_of_iff (a.r = b.r ∧ a.g = b.g ∧ a.b = b.b ∧ a.a = b.a) (by cases a; cases b; simp)
/-! ## PaintMask -/
/-! ## What blending yields -/
/-! ## Draws: each is told -/
/-! ## Lines and masks of drawn paths: each is told -/
/-! ## Masks of lines -/
/-! ## FnLayers -/
/-! ## FnPaintsOn -/
/-! ## Scenes: the program's word is the reference's -/
/-! ## EngineOk -/
/-! ## EngineNew -/
/-! ## FnSets: draws -/
/-! Copies -/
/-! Any scenes and nodes -/
/-! ## FnSets: the law -/
/-! Sameness -/
/-! Right scenes -/
/-! ## Masks drawn are right -/
/-! ## Rows: deleted from, put into -/
/-! ## Caches: right ones, remembered, recalled, forgotten -/
/-! ## Deleting by a test; what is first -/
/-! ## Scenes as maps of parents -/
/-! ## A node placed -/
section
end

/-! ## A node placed: the program and the reference -/
section
end

/-! ## FnPlaces: the law -/
section
end
/-! ## FnCreates: what is drawn is right -/
/-! ## FnCreates: nodes drawn -/
/-! ## FnCreates: a node more -/
/-! ## FnCreates: created and dropped -/
/-! ## FnExactShowFrame -/
def figN (n : Nat) : Nat := if n < 10 then 48 + n else 87 + n
def hx2 (x : UInt8) : List UInt8 := [UInt8.ofNat (figN (x.toNat / 16)), UInt8.ofNat (figN (x.toNat % 16))]
theorem fig_hi : ∀ b : Fin 256, idx ([48, 49, 50, 51, 52, 53, 54, 55, 56, 57, 97, 98, 99, 100, 101, 102] : List UInt8) (shrI .u8 (b.1 : Int) 4) = some (UInt8.ofNat (figN (b.1 / 16))) := by decide +kernel
theorem fig_lo : ∀ b : Fin 256, idx ([48, 49, 50, 51, 52, 53, 54, 55, 56, 57, 97, 98, 99, 100, 101, 102] : List UInt8) (andI .u8 (b.1 : Int) 15) = some (UInt8.ofNat (figN (b.1 % 16))) := by decide +kernel
theorem m_hexI (x : UInt8) : impl_Hex [x] = some (hx2 x, true) := by
  have h1 := fig_hi ⟨x.toNat, x.toNat_lt⟩
  have h2 := fig_lo ⟨x.toNat, x.toNat_lt⟩
  dsimp only at h1 h2
  have hs : impl_Hex_l0 [x] (0, []) = some (.inl (1, [((UInt8.ofNat (figN (x.toNat / 16))).toNat : Int), ((UInt8.ofNat (figN (x.toNat % 16))).toNat : Int)])) := by
    unfold impl_Hex_l0
    dsimp only
    rw [ilf (by simp), cnd_false, show idx [x] 0 = some x from rfl, bnd_some, h1, bnd_some, h2, bnd_some, chkP_pos (by simp)]
    rfl
  have he : ∀ r, impl_Hex_l0 [x] (1, r) = some (.inr r) := fun r => by
    unfold impl_Hex_l0
    dsimp only
    rw [ilt (by simp), cnd_true]
  unfold impl_Hex
  rw [ilt (by simp), cnd_true, chkP_pos (by rw [wr_in (by simp)]; simp), loopI_go hs, loopI_end (he _), bnd_some]
  rw [show toBs [((UInt8.ofNat (figN (x.toNat / 16))).toNat : Int), ((UInt8.ofNat (figN (x.toNat % 16))).toNat : Int)] = hx2 x from by unfold hx2 toBs; simp only [List.map_cons, List.map_nil, Int.toNat_natCast, UInt8.ofNat_toNat]]
theorem fig_sp {n : Nat} (h : n < 16) : spec_l01Figure (n : Int) = some (((UInt8.ofNat (figN n)).toNat : Nat) : Int) := by
  have : ∀ k : Fin 16, spec_l01Figure (k.1 : Int) = some (((UInt8.ofNat (figN k.1)).toNat : Nat) : Int) := by
    intro k
    unfold spec_l01Figure
    have h1 : ∀ k : Fin 16, (if (10 : Int) ≤ (k.1 : Int) then IntKind.u8.wrap (IntKind.i64.wrap ((IntKind.i64.wrap (97 + (k.1 : Int))) - 10)) else IntKind.u8.wrap (IntKind.i64.wrap (48 + (k.1 : Int)))) = (((UInt8.ofNat (figN k.1)).toNat : Nat) : Int) := by decide +kernel
    rw [← h1 k]
    by_cases hk : (10 : Int) ≤ (k.1 : Int)
    · rw [ilt hk, cnd_true, if_pos hk]
    · rw [ilf (by omega), cnd_false, if_neg hk]
  exact this ⟨n, h⟩
theorem m_hexS (x : UInt8) : spec_Hex [x] = some (hx2 x, true) := by
  have hx := x.toNat_lt
  have hw : IntKind.i64.wrap (x.toNat : Int) = (x.toNat : Int) := wr_in (by omega)
  have e1 : IntKind.i64.wrap (Int.tdiv (x.toNat : Int) 16) = ((x.toNat / 16 : Nat) : Int) := by
    rw [Int.tdiv_eq_ediv_of_nonneg (by omega), wr_in (by omega)]; omega
  have e2 : Int.tmod (x.toNat : Int) 16 = ((x.toNat % 16 : Nat) : Int) := by
    rw [Int.tmod_eq_emod_of_nonneg (by omega)]; omega
  have hs : spec_Hex_l0 [x] (0, []) = some (.inl (1, [((UInt8.ofNat (figN (x.toNat / 16))).toNat : Int), ((UInt8.ofNat (figN (x.toNat % 16))).toNat : Int)])) := by
    unfold spec_Hex_l0
    dsimp only
    rw [ilf (by simp), cnd_false, show idx [x] 0 = some x from rfl, bnd_some, hw, e1, fig_sp (by omega), bnd_some, e2, fig_sp (by omega), bnd_some, chkP_pos (by simp)]
    rfl
  have he : ∀ r, spec_Hex_l0 [x] (1, r) = some (.inr r) := fun r => by
    unfold spec_Hex_l0
    dsimp only
    rw [ilt (by simp), cnd_true]
  unfold spec_Hex
  rw [ilt (by simp), cnd_true, loopI_go hs, loopI_end (he _), bnd_some]
  rw [show toBs [((UInt8.ofNat (figN (x.toNat / 16))).toNat : Int), ((UInt8.ofNat (figN (x.toNat % 16))).toNat : Int)] = hx2 x from by unfold hx2 toBs; simp only [List.map_cons, List.map_nil, Int.toNat_natCast, UInt8.ofNat_toNat]]
def b8 (a : Int) : UInt8 := UInt8.ofNat (IntKind.u8.wrap a).toNat
/-- What the reference writes, from square i on. -/
def frm (W : Nat) : Nat → List Int → List UInt8
  | _, [] => []
  | i, a :: l => hx2 (b8 a) ++ ((if i % W + 1 = W then [10] else []) ++ frm W (i + 1) l)
theorem hx2_len (x : UInt8) : (hx2 x).length = 2 := rfl
theorem frm_showL {W : Nat} (h0 : 0 < W) (h1 : W ≤ 2147483647) : ∀ (l : List Int) (i : Nat) (acc : List UInt8), acc.length + 3 * l.length ≤ 1099511627776 → showL impl_Hex (W : Int) (i : Int) l acc = some (acc ++ frm W i l)
  | [], i, acc, _ => by simp [showL, frm]
  | a :: l, i, acc, h => by
    simp only [List.length_cons] at h
    have e : ((i : Int).tmod (W : Int) = (W : Int) - 1) ↔ i % W + 1 = W := by
      rw [Int.tmod_eq_emod_of_nonneg (by omega)]
      have : (i : Int) % (W : Int) = ((i % W : Nat) : Int) := by omega
      rw [this]; omega
    rw [showL, show UInt8.ofNat (IntKind.u8.wrap a).toNat = b8 a from rfl, m_hexI, bnd_some, chkP_pos ⟨by omega, by omega, by rw [hx2_len]; omega⟩]
    have hi : (i : Int) + 1 = ((i + 1 : Nat) : Int) := by omega
    rw [hi, frm]
    by_cases hc : i % W + 1 = W
    · rw [if_pos (e.2 hc), if_pos hc, frm_showL h0 h1 l _ _ (by simp [hx2_len]; omega)]
      simp
    · rw [if_neg (fun h => hc (e.1 h)), if_neg hc, frm_showL h0 h1 l _ _ (by simp [hx2_len]; omega)]
      simp
theorem frm_app {W : Nat} : ∀ (l m : List Int) (i : Nat), frm W i (l ++ m) = frm W i l ++ frm W (i + l.length) m
  | [], m, i => by simp [frm]
  | a :: l, m, i => by
    simp only [List.cons_append, frm, frm_app l m, List.length_cons, List.append_assoc]
    rw [show i + 1 + l.length = i + (l.length + 1) by omega]
theorem frm_row {W y : Nat} : ∀ (l : List Int) (j : Nat), j + l.length < W → frm W (y * W + j) l = l.flatMap fun a => hx2 (b8 a)
  | [], j, _ => by simp [frm]
  | a :: l, j, h => by
    simp only [List.length_cons] at h
    have e : (y * W + j) % W = j := by rw [Nat.mul_add_mod_self_right, Nat.mod_eq_of_lt (by omega)]
    rw [frm, e, if_neg (by omega), show y * W + j + 1 = y * W + (j + 1) by omega, frm_row l (j + 1) (by omega)]
    simp
theorem frm_full {W y : Nat} (h0 : 0 < W) {l : List Int} (hl : l.length = W) : frm W (y * W) l = (l.flatMap fun a => hx2 (b8 a)) ++ [10] := by
  rcases List.eq_nil_or_concat l with rfl | ⟨k, a, rfl⟩
  · simp at hl; omega
  · simp only [List.concat_eq_append, List.length_append, List.length_cons, List.length_nil] at hl ⊢
    have h1 := frm_row (W := W) (y := y) k 0 (by omega)
    simp only [Nat.add_zero] at h1
    have e : (y * W + k.length) % W = k.length := by rw [Nat.mul_add_mod_self_right, Nat.mod_eq_of_lt (by omega)]
    rw [frm_app, h1, frm, e, if_pos (by omega), frm]
    simp
theorem m_showI {s : TSurface} (hs : surfaceOk s = true) : impl_ShowFrame s = some (frm s.w.toNat 0 (s.pix.map fun x => x.a)) := by
  obtain ⟨h1, h2, h3, _⟩ := so_facts hs
  have hb := wh_bd h1 h2
  rw [tin_t] at h1 h2
  unfold impl_ShowFrame
  rw [m_impl_SurfaceOk (by omega), bnd_some, hs, cnd_true, chkP_pos (by omega)]
  have := frm_showL (W := s.w.toNat) (by omega) (by omega) (s.pix.map fun x => x.a) 0 [] (by simp; omega)
  rw [show ((s.w.toNat : Nat) : Int) = s.w by omega] at this
  rw [show ((0 : Nat) : Int) = 0 from rfl] at this
  rw [this, bnd_some]
  rfl
theorem m_showS {s : TSurface} (hs : surfaceOk s = true) : spec_ShowFrame s = some (frm s.w.toNat 0 (s.pix.map fun x => x.a)) := by
  obtain ⟨h1, h2, h3, _⟩ := so_facts hs
  have hb := wh_bd h1 h2
  rw [tin_t] at h1 h2
  obtain ⟨W, hW⟩ : ∃ W : Nat, s.w = (W : Int) := ⟨s.w.toNat, by omega⟩
  obtain ⟨H, hH⟩ : ∃ H : Nat, s.h = (H : Int) := ⟨s.h.toNat, by omega⟩
  rw [hW] at h1 h3 hb; rw [hH] at h2 h3 hb
  have hn : s.pix.length = W * H := by
    have : ((W * H : Nat) : Int) = (W : Int) * (H : Int) := by simp
    omega
  have hWt : s.w.toNat = W := by omega
  rw [hWt]
  obtain ⟨A, hA⟩ : ∃ A, A = s.pix.map fun x => x.a := ⟨_, rfl⟩
  have hAl : A.length = W * H := by rw [hA, List.length_map, hn]
  have hyw : ∀ y, y < H → y * W + W ≤ W * H := fun y hy => by
    have : (y + 1) * W ≤ H * W := Nat.mul_le_mul_right _ (by omega)
    rw [Nat.mul_comm W H, ← Nat.succ_mul]; exact this
  have hsmall : W * H ≤ 144 := by omega
  -- a row
  have inner : ∀ (y : Nat) (acc : List UInt8), y < H → acc.length ≤ 1000 → loopI (spec_ShowFrame_l0 s (y : Int)) (acc, 0) = some (acc ++ ((A.drop (y * W)).take W).flatMap fun a => hx2 (b8 a)) := by
    intro y acc hy hacc
    have hyw := hyw y hy
    have hfl : ∀ l : List Int, (l.flatMap fun a => hx2 (b8 a)).length = 2 * l.length := by
      intro l
      induction l with
      | nil => rfl
      | cons a l ih => simp only [List.flatMap_cons, List.length_append, hx2_len, ih, List.length_cons]; omega
    have key := loopI_n (f := spec_ShowFrame_l0 s (y : Int)) (fun j : Nat => (acc ++ ((A.drop (y * W)).take j).flatMap (fun a => hx2 (b8 a)), (j : Int))) W (r := acc ++ ((A.drop (y * W)).take W).flatMap fun a => hx2 (b8 a)) (fun j hj => ?_) ?_
    · simpa using key
    · unfold spec_ShowFrame_l0
      dsimp only
      have hlt : y * W + j < s.pix.length := by omega
      have hmul : (y : Int) * (W : Int) = ((y * W : Nat) : Int) := by simp
      rw [hW, ilf (by omega), cnd_false, hmul, wr_in (n := ((y * W : Nat) : Int)) (by omega), show ((y * W : Nat) : Int) + (j : Int) = ((y * W + j : Nat) : Int) by omega, wr_in (by omega), idx_nat hlt, bnd_some]
      rw [show toBs [IntKind.u8.wrap (s.pix[y * W + j]).a] = [b8 (s.pix[y * W + j]).a] from rfl, m_hexS, bnd_some]
      dsimp only
      have hta : (A.drop (y * W)).take (j + 1) = (A.drop (y * W)).take j ++ [(s.pix[y * W + j]).a] := by
        rw [List.take_succ_eq_append_getElem (by rw [List.length_drop]; omega)]
        congr 2
        rw [List.getElem_drop]
        simp [hA]
      rw [chkP_pos (by
        have h9 := hfl ((A.drop (y * W)).take j)
        rw [List.length_append, hx2_len, h9, List.length_take, List.length_drop]
        omega), wr_in (by omega), hta]
      simp
    · unfold spec_ShowFrame_l0
      dsimp only
      rw [hW, ilt (by omega), cnd_true]
  have hfl2 : ∀ (l : List Int) (i : Nat), (frm W i l).length ≤ 3 * l.length := by
    intro l
    induction l with
    | nil => intro i; simp [frm]
    | cons a l ih =>
      intro i
      have := ih (i + 1)
      simp only [frm, List.length_append, hx2_len, List.length_cons]
      split <;> simp <;> omega
  have outer := loopI_n (f := spec_ShowFrame_l1 s) (fun y : Nat => (frm W 0 (A.take (y * W)), (y : Int))) H (r := frm W 0 A) (fun y hy => ?_) ?_
  · unfold spec_ShowFrame
    rw [m_spec_SurfaceOk (by omega), bnd_some, hs, cnd_true]
    have e0 : frm W 0 (A.take (0 * W)) = [] := by simp [frm]
    rw [e0, show ((0 : Nat) : Int) = 0 from rfl] at outer
    rw [outer, bnd_some, hA]
  · have hyw := hyw y hy
    unfold spec_ShowFrame_l1
    dsimp only
    rw [hH, ilf (by omega), cnd_false, inner y _ hy (by have := hfl2 (A.take (y * W)) 0; rw [List.length_take] at this; omega), bnd_some]
    have hrow : frm W 0 (A.take ((y + 1) * W)) = frm W 0 (A.take (y * W)) ++ ((A.drop (y * W)).take W).flatMap (fun a => hx2 (b8 a)) ++ [10] := by
      have e : A.take ((y + 1) * W) = A.take (y * W) ++ (A.drop (y * W)).take W := by
        rw [Nat.succ_mul, List.take_add]
      have hl1 : (A.take (y * W)).length = y * W := by rw [List.length_take]; omega
      have hl2 : ((A.drop (y * W)).take W).length = W := by rw [List.length_take, List.length_drop]; omega
      rw [e, frm_app, hl1, Nat.zero_add, frm_full (by omega) hl2, List.append_assoc]
    have hq := hfl2 (A.take ((y + 1) * W)) 0
    rw [hrow] at hq
    rw [List.length_take, List.length_append] at hq
    rw [chkP_pos (by simp only [List.length_cons, List.length_nil] at hq ⊢; omega), wr_in (by omega), hrow]
    simp
  · unfold spec_ShowFrame_l1
    dsimp only
    rw [hH, ilt (by omega), cnd_true, List.take_of_length_le (by rw [hAl, Nat.mul_comm]; exact Nat.le_refl _)]
theorem m_FnExactShowFrame {s : TSurface} (h : ok_Surface s) : laws_FnExactShowFrame s = some true := by
  obtain ⟨v, e, _, _, g⟩ := f_laws_szSurface h (left := 1048576) (by omega) (by omega)
  unfold laws_FnExactShowFrame
  rw [e, bnd_some]
  by_cases hv : 0 ≤ v
  case neg => rw [ilf (by omega), cnd_false]
  have hg := g hv
  have hl : s.pix.length ≤ 1048576 := hg.1
  have key : ∃ r, spec_ShowFrame s = some r ∧ impl_ShowFrame s = some r := by
    cases hs : surfaceOk s with
    | true => exact ⟨_, m_showS hs, m_showI hs⟩
    | false =>
      refine ⟨[], ?_, ?_⟩
      · unfold spec_ShowFrame
        rw [m_spec_SurfaceOk (by omega), bnd_some, hs, cnd_false]
      · unfold impl_ShowFrame
        rw [m_impl_SurfaceOk (by omega), bnd_some, hs, cnd_false]
  obtain ⟨r, k1, k2⟩ := key
  rw [ilt hv, cnd_true, f_laws_toSurface hg, bnd_some, k1, bnd_some, k2, bnd_some, show sq' r r = true by simp [sq'], cnd_true, f_laws_eqSurface hg, bnd_some, cnd_true]

end Go.Proofs.Ytapchldnmkfkoaa.Am
