import Derived.Test.YtapchldnmkfkoaaAmRcMo
import Derived.Test.YtapchldnmkfkoaaAmRo
import Derived.Test.YtapchldnmkfkoaaAmLw
set_option linter.unusedVariables false
set_option linter.unusedSimpArgs false
set_option linter.unusedSectionVars false
namespace Go.Proofs.Ytapchldnmkfkoaa.Am
open Go Go.Proofs
def ok_Box (x : TBox) : Prop := (okN .i64) x.x0 ∧ (okN .i64) x.y0 ∧ (okN .i64) x.x1 ∧ (okN .i64) x.y1
theorem dm_Box : Dm (.struct [.int .i64, .int .i64, .int .i64, .int .i64]) eBox ok_Box := ⟨fun cs h => by
  rw [Dom] at h; simp only [DomL] at h
  obtain ⟨_, _, rfl, h0, _, _, rfl, h1, _, _, rfl, h2, _, _, rfl, h3, rfl⟩ := h
  obtain ⟨x0, rfl, k0⟩ := dm_int.c h0
  obtain ⟨x1, rfl, k1⟩ := dm_int.c h1
  obtain ⟨x2, rfl, k2⟩ := dm_int.c h2
  obtain ⟨x3, rfl, k3⟩ := dm_int.c h3
  exact ⟨⟨x0, x1, x2, x3⟩, by simp [elA, Ty.isS], k0, k1, k2, k3⟩⟩
def ok_Mask (x : TMask) : Prop := ok_Box x.box ∧ (okL (okN .i64)) x.bits
theorem dm_Mask : Dm (.struct [.struct [.int .i64, .int .i64, .int .i64, .int .i64], .slice (.int .i64)]) eMask ok_Mask := ⟨fun cs h => by
  rw [Dom] at h; simp only [DomL] at h
  obtain ⟨_, _, rfl, h0, _, _, rfl, h1, rfl⟩ := h
  obtain ⟨x0, rfl, k0⟩ := dm_Box.c h0
  obtain ⟨x1, rfl, k1⟩ := (dm_sl dm_int).c h1
  exact ⟨⟨x0, x1⟩, by simp [elA, Ty.isS], k0, k1⟩⟩
def ok_Kept (x : TKept) : Prop := (okN .i64) x.id ∧ ok_Mask x.mask
theorem dm_Kept : Dm (.struct [.int .i64, .struct [.struct [.int .i64, .int .i64, .int .i64, .int .i64], .slice (.int .i64)]]) eKept ok_Kept := ⟨fun cs h => by
  rw [Dom] at h; simp only [DomL] at h
  obtain ⟨_, _, rfl, h0, _, _, rfl, h1, rfl⟩ := h
  obtain ⟨x0, rfl, k0⟩ := dm_int.c h0
  obtain ⟨x1, rfl, k1⟩ := dm_Mask.c h1
  exact ⟨⟨x0, x1⟩, by simp [elA, Ty.isS], k0, k1⟩⟩
def ok_Cache (x : TCache) : Prop := (okN .i64) x.most ∧ (okL ok_Kept) x.list
theorem dm_Cache : Dm (.struct [.int .i64, .slice (.struct [.int .i64, .struct [.struct [.int .i64, .int .i64, .int .i64, .int .i64], .slice (.int .i64)]])]) eCache ok_Cache := ⟨fun cs h => by
  rw [Dom] at h; simp only [DomL] at h
  obtain ⟨_, _, rfl, h0, _, _, rfl, h1, rfl⟩ := h
  obtain ⟨x0, rfl, k0⟩ := dm_int.c h0
  obtain ⟨x1, rfl, k1⟩ := (dm_sl dm_Kept).c h1
  exact ⟨⟨x0, x1⟩, by simp [elA, Ty.isS], k0, k1⟩⟩
end Go.Proofs.Ytapchldnmkfkoaa.Am
namespace Go.Proofs.Ytapchldnmkfkoaa.Am
open Go Go.Proofs
set_option linter.unusedVariables false
set_option linter.unusedSimpArgs false
theorem f_laws_szIntS {a : List Int} {left : Int} (ho : okL (okN .i64) a) (h0 : 0 ≤ left) (h1 : left ≤ 1048576) : ∃ v, laws_szIntS a left = some v ∧ szR v left (gdL tt a) := by
  unfold laws_szIntS; exact sz_row (maxL ho.1) h0 h1
def gd_Mask (x : TMask) : Prop := (gdL tt) x.bits
theorem f_laws_szMask {a : TMask} {left : Int} (ho : ok_Mask a) (h0 : 0 ≤ left) (h1 : left ≤ 1048576) : ∃ v, laws_szMask a left = some v ∧ szR v left (gd_Mask a) := by
  obtain ⟨o0, o1⟩ := ho
  unfold laws_szMask
  obtain ⟨v1, e1, l1, m1, g1⟩ := f_laws_szIntS o1 h0 (by omega)
  rw [e1, bnd_some]
  by_cases c1 : 0 ≤ v1
  case neg => rw [ilf (by omega), cnd_false]; exact ⟨-1, rfl, by omega, by omega, fun h => by omega⟩
  rw [ilt c1, cnd_true]
  exact ⟨v1, rfl, by omega, by omega, fun _ => g1 c1⟩
def gd_Kept (x : TKept) : Prop := gd_Mask x.mask
theorem f_laws_szKept {a : TKept} {left : Int} (ho : ok_Kept a) (h0 : 0 ≤ left) (h1 : left ≤ 1048576) : ∃ v, laws_szKept a left = some v ∧ szR v left (gd_Kept a) := by
  obtain ⟨o0, o1⟩ := ho
  unfold laws_szKept
  obtain ⟨v1, e1, l1, m1, g1⟩ := f_laws_szMask o1 h0 (by omega)
  rw [e1, bnd_some]
  by_cases c1 : 0 ≤ v1
  case neg => rw [ilf (by omega), cnd_false]; exact ⟨-1, rfl, by omega, by omega, fun h => by omega⟩
  rw [ilt c1, cnd_true]
  exact ⟨v1, rfl, by omega, by omega, fun _ => g1 c1⟩
theorem f_laws_szKeptS {a : List TKept} {left : Int} (ho : okL ok_Kept a) (h0 : 0 ≤ left) (h1 : left ≤ 1048576) : ∃ v, laws_szKeptS a left = some v ∧ szR v left ((gdL gd_Kept) a) := by
  unfold laws_szKeptS
  have hl := maxL ho.1
  rw [wr_in (by omega)]
  by_cases h : 0 ≤ left - (a.length : Int)
  · rw [ilt h, cnd_true]
    obtain ⟨v, ⟨v1, v2, v3⟩, e⟩ := sz_loop (szE := laws_szKept) (g := gd_Kept) (f := laws_szKeptS_l0 a) (left := left - (a.length : Int)) (fun x hx left => f_laws_szKept (ho.2 x hx)) (fun _ _ => rfl) h (by omega) (by omega)
    refine ⟨v, ?_, by omega, v2, v3⟩
    rcases e with ⟨e, _⟩ | ⟨e, rfl⟩ <;> rw [e] <;> rfl
  · rw [ilf (by omega), cnd_false]
    exact ⟨_, rfl, by omega, by omega, fun h => by omega⟩
def gd_Cache (x : TCache) : Prop := (gdL gd_Kept) x.list
theorem f_laws_szCache {a : TCache} {left : Int} (ho : ok_Cache a) (h0 : 0 ≤ left) (h1 : left ≤ 1048576) : ∃ v, laws_szCache a left = some v ∧ szR v left (gd_Cache a) := by
  obtain ⟨o0, o1⟩ := ho
  unfold laws_szCache
  obtain ⟨v1, e1, l1, m1, g1⟩ := f_laws_szKeptS o1 h0 (by omega)
  rw [e1, bnd_some]
  by_cases c1 : 0 ≤ v1
  case neg => rw [ilf (by omega), cnd_false]; exact ⟨-1, rfl, by omega, by omega, fun h => by omega⟩
  rw [ilt c1, cnd_true]
  exact ⟨v1, rfl, by omega, by omega, fun _ => g1 c1⟩
theorem f_laws_toBox {a : TBox} : laws_toBox a = some a := by
  unfold laws_toBox
  rfl
theorem f_laws_toIntS {a : List Int} (hg : (gdL tt) a) : laws_toIntS a = some a := by
  unfold laws_toIntS
  rw [chkP_pos (ch_row hg.1 (by omega))]
  have h := to_loop (f := laws_toIntS_l0 a) (toE := some) (0) (fun _ _ => rfl) (fun _ _ => rfl) hg.1
  simp only [nam_eq, h, bnd_some]
theorem f_laws_toMask {a : TMask} (hg : gd_Mask a) : laws_toMask a = some (a.box, a.bits) := by
  have h0 := hg
  unfold laws_toMask
  simp only [bnd_some, f_laws_toBox, f_laws_toIntS h0]
theorem f_laws_toKept {a : TKept} (hg : gd_Kept a) : laws_toKept a = some (a.id, a.mask.box, a.mask.bits) := by
  have h0 := hg
  unfold laws_toKept
  simp only [bnd_some, f_laws_toMask h0]
theorem f_laws_toKeptS {a : List TKept} (hg : (gdL gd_Kept) a) : laws_toKeptS a = some a := by
  unfold laws_toKeptS
  rw [chkP_pos (ch_row hg.1 (by omega))]
  have h := to_loop (f := laws_toKeptS_l0 a) (toE := fun v => bnd (laws_toKept v) fun (r0, r1, r2) => some (TKept.mk r0 (TMask.mk (TBox.mk r1.x0 r1.y0 r1.x1 r1.y1) r2))) ((TKept.mk 0 (TMask.mk (TBox.mk 0 0 0 0) []))) (fun x hx => by rw [f_laws_toKept (hg.2 x hx)]; rfl) (fun _ _ => congrArg (cnd _ _) (congrArg (bnd _) (funext fun v => by cases laws_toKept v <;> rfl))) hg.1
  simp only [nam_eq, h, bnd_some]
theorem f_laws_toCache {a : TCache} (hg : gd_Cache a) : laws_toCache a = some (a.most, a.list) := by
  have h0 := hg
  unfold laws_toCache
  simp only [bnd_some, f_laws_toKeptS h0]
theorem f_laws_eqBox {a : TBox} : laws_eqBox a a = some true := by
  unfold laws_eqBox
  simp only [bnd_some, cnd_true, iqt, andB, decide_true, Bool.and_self, Bool.and_true]
theorem f_laws_eqIntS {a : List Int} (hg : (gdL tt) a) : laws_eqIntS a a = some true := by
  unfold laws_eqIntS
  have h := eq_loop (f := laws_eqIntS_l0 a a) (eqE := (fun x y => some (ieq x y))) (fun _ _ => by simp [ieq, sq']) (fun _ => rfl) hg.1
  rw [iqt, cnd_true, h]; rfl
theorem f_laws_eqMask {a : TMask} (hg : gd_Mask a) : laws_eqMask a a = some true := by
  have h0 := hg
  unfold laws_eqMask
  simp only [bnd_some, cnd_true, iqt, andB, decide_true, Bool.and_self, Bool.and_true, f_laws_eqBox, f_laws_eqIntS h0]
theorem f_laws_eqKept {a : TKept} (hg : gd_Kept a) : laws_eqKept a a = some true := by
  have h0 := hg
  unfold laws_eqKept
  simp only [bnd_some, cnd_true, iqt, andB, decide_true, Bool.and_self, Bool.and_true, f_laws_eqMask h0]
theorem f_laws_eqKeptS {a : List TKept} (hg : (gdL gd_Kept) a) : laws_eqKeptS a a = some true := by
  unfold laws_eqKeptS
  have h := eq_loop (f := laws_eqKeptS_l0 a a) (eqE := laws_eqKept) (fun x hx => f_laws_eqKept (hg.2 x hx)) (fun _ => rfl) hg.1
  rw [iqt, cnd_true, h]; rfl
theorem f_laws_eqCache {a : TCache} (hg : gd_Cache a) : laws_eqCache a a = some true := by
  have h0 := hg
  unfold laws_eqCache
  simp only [bnd_some, cnd_true, iqt, andB, decide_true, Bool.and_self, Bool.and_true, f_laws_eqKeptS h0]
end Go.Proofs.Ytapchldnmkfkoaa.Am
namespace Go.Proofs.Ytapchldnmkfkoaa.Am
open Go Go.Proofs
set_option linter.unusedSimpArgs false
set_option linter.unusedVariables false
set_option maxRecDepth 100000
/-! ## Small words -/
def tin (x a b : Int) : Bool := ile a x && ile x b
theorem tin_t {x a b : Int} : tin x a b = true ↔ a ≤ x ∧ x ≤ b := by simp [tin, ile_t]
@[simp] theorem m_spec_l01In (x a b : Int) : spec_l01In x a b = some (tin x a b) := by
  unfold spec_l01In tin; cases ile a x <;> simp
@[simp] theorem m_impl_inRange (x a b : Int) : impl_inRange x a b = some (tin x a b) := by
  unfold impl_inRange tin; cases ile a x <;> simp
def tileCount (w h : Int) : Int := if tin w 1 12 && tin h 1 12 then ((w + 3) / 4) * ((h + 3) / 4) else 0
theorem four {w : Int} (h : tin w 1 12 = true) : (w + 3) / 4 = 1 ∨ (w + 3) / 4 = 2 ∨ (w + 3) / 4 = 3 := by rw [tin_t] at h; omega
theorem wr9 {w h : Int} (hw : tin w 1 12 = true) (hh : tin h 1 12 = true) : IntKind.i64.wrap ((w + 3) / 4 * ((h + 3) / 4)) = (w + 3) / 4 * ((h + 3) / 4) := by
  refine wr_in ?_
  rcases four hw with e | e | e <;> rcases four hh with f | f | f <;> rw [e, f] <;> decide
theorem up4 {w : Int} (h : tin w 1 12 = true) : IntKind.i64.wrap ((IntKind.i64.wrap (w + 3)).tdiv 4) = (w + 3) / 4 := by
  rw [tin_t] at h
  rw [wr_in (n := w + 3) (by omega), Int.tdiv_eq_ediv_of_nonneg (by omega), wr_in (by omega)]
def TBox.empty (b : TBox) : Bool := ile b.x1 b.x0 || ile b.y1 b.y0
def TBox.zero : TBox := ⟨0, 0, 0, 0⟩
def meet (a b : TBox) : TBox :=
  let c : TBox := ⟨max a.x0 b.x0, max a.y0 b.y0, min a.x1 b.x1, min a.y1 b.y1⟩
  if c.empty then .zero else c
@[simp] theorem m_impl_Empty (b : TBox) : impl_Empty b = some b.empty := by
  unfold impl_Empty TBox.empty; cases ile b.x1 b.x0 <;> simp
@[simp] theorem m_spec_Empty (b : TBox) : spec_Empty b = some b.empty := by
  unfold spec_Empty TBox.empty; cases ile b.x1 b.x0 <;> simp
def tileBox (w h i : Int) : TBox :=
  if tin i 0 (tileCount w h - 1) then
    let x := i % ((w + 3) / 4) * 4
    let y := i / ((w + 3) / 4) * 4
    meet ⟨x, y, x + 4, y + 4⟩ ⟨0, 0, w, h⟩
  else .zero
theorem tc_bd (w h : Int) : 0 ≤ tileCount w h ∧ tileCount w h ≤ 9 := by
  unfold tileCount
  cases hw : tin w 1 12 <;> cases hh : tin h 1 12 <;> simp
  rcases four hw with e | e | e <;> rcases four hh with f | f | f <;> rw [e, f] <;> decide
@[simp] theorem tc_wrap (w h : Int) : IntKind.i64.wrap (tileCount w h - 1) = tileCount w h - 1 := by
  have := tc_bd w h
  exact wr_in (by omega)
theorem tb_facts {w h i : Int} (hi : tin i 0 (tileCount w h - 1) = true) : tin w 1 12 = true ∧ 0 ≤ i ∧ i ≤ 8 := by
  have := tc_bd w h
  rw [tin_t] at hi
  refine ⟨?_, by omega, by omega⟩
  cases hw : tin w 1 12 with
  | true => rfl
  | false =>
    have : tileCount w h = 0 := by simp [tileCount, hw]
    omega
theorem tb_x {r i : Int} (hr : r = 1 ∨ r = 2 ∨ r = 3) (h0 : 0 ≤ i) (h1 : i ≤ 8) : IntKind.i64.wrap (i.tmod r * 4) = i % r * 4 ∧ IntKind.i64.wrap (i % r * 4 + 4) = i % r * 4 + 4 ∧
    IntKind.i64.wrap (IntKind.i64.wrap (i.tdiv r) * 4) = i / r * 4 ∧ IntKind.i64.wrap (i / r * 4 + 4) = i / r * 4 + 4 := by
  rw [Int.tmod_eq_emod_of_nonneg h0, Int.tdiv_eq_ediv_of_nonneg h0]
  rcases hr with rfl | rfl | rfl
  · rw [wr_in (n := i / 1) (by omega)]; exact ⟨wr_in (by omega), wr_in (by omega), wr_in (by omega), wr_in (by omega)⟩
  · rw [wr_in (n := i / 2) (by omega)]; exact ⟨wr_in (by omega), wr_in (by omega), wr_in (by omega), wr_in (by omega)⟩
  · rw [wr_in (n := i / 3) (by omega)]; exact ⟨wr_in (by omega), wr_in (by omega), wr_in (by omega), wr_in (by omega)⟩
theorem four' {w : Int} (h : tin w 1 12 = true) : ¬ (w + 3) / 4 = 0 := by rcases four h with e | e | e <;> omega
/-! ## Draws -/
/-! ## Each square is in one tile -/
section
variable {a0 : List Int} {v3 v4 w h : Int}
end

/-! ## Loops that ask the same of all -/
theorem loopI_all {f : Int → Option (Int ⊕ (Unit ⊕ Unit))} (n : Nat) (p : Nat → Bool) (hn : n ≤ 9223372036854775807)
    (hs : ∀ i : Nat, i < n → f (i : Int) = cnd (p i) (some (.inl (IntKind.i64.wrap ((i : Int) + 1)))) (some (.inr (.inr ())))) (he : f (n : Int) = some (.inr (.inl ()))) :
    loopI f 0 = some (if (List.range n).all p then .inl () else .inr ()) := by
  have h := loopI_find (f := f) (fun i : Nat => (i : Int)) n (fun i => !(p i)) (fun _ => .inr ()) (r := .inl ()) (fun i hi => by
    rw [hs i hi, wr_in (by omega)]
    cases p i <;> simp) he
  have e : loopI f 0 = loopI f ((0 : Nat) : Int) := rfl
  rw [e, h]
  congr 1
  cases hq : (List.range n).find? (fun i => !(p i)) with
  | none =>
    rw [List.find?_eq_none] at hq
    have : (List.range n).all p = true := List.all_eq_true.2 fun x hx => by simpa using hq x hx
    rw [this]; rfl
  | some i =>
    have h1 := List.find?_some hq
    have h2 := List.mem_of_find?_eq_some hq
    have : (List.range n).all p = false := by
      rw [List.all_eq_false]; exact ⟨i, h2, by simpa using h1⟩
    rw [this]; rfl
theorem range_all {α : Type} {l : List α} {q : α → Bool} {p : Nat → Bool} (h : ∀ i (hi : i < l.length), p i = q l[i]) : (List.range l.length).all p = l.all q := by
  rw [Bool.eq_iff_iff, List.all_eq_true, List.all_eq_true]
  constructor
  · intro k x hx
    obtain ⟨i, hi, rfl⟩ := List.getElem_of_mem hx
    rw [← h i hi]; exact k i (List.mem_range.2 hi)
  · intro k i hi
    have hi := List.mem_range.1 hi
    rw [h i hi]; exact k _ (List.getElem_mem hi)
/-- Of a row, each element asked the same. -/
theorem loopI_row {α : Type} {l : List α} {f : Int → Option (Int ⊕ (Unit ⊕ Unit))} (q : α → Bool) (hn : l.length ≤ 9223372036854775807)
    (hs : ∀ (i : Nat) (h : i < l.length), f (i : Int) = cnd (q l[i]) (some (.inl (IntKind.i64.wrap ((i : Int) + 1)))) (some (.inr (.inr ())))) (he : f (l.length : Int) = some (.inr (.inl ()))) :
    loopI f 0 = some (if l.all q then .inl () else .inr ()) := by
  have h := loopI_all (f := f) l.length (fun i => if h : i < l.length then q l[i] else false) hn (fun i hi => by rw [hs i hi]; simp [hi]) he
  rw [h, range_all (q := q) (fun i hi => by simp [hi])]

/-! ## Masks -/
def TBox.isZero (b : TBox) : Bool := decide (b.x0 = 0) && (decide (b.y0 = 0) && (decide (b.x1 = 0) && (decide (b.y1 = 0))))
def maskBox (b : TBox) : Bool := !b.empty && tin b.x0 (-2000) 2000 && tin b.y0 (-2000) 2000 && tin b.x1 (-2000) 2000 && tin b.y1 (-2000) 2000 && ile (b.x1 - b.x0) 60 && ile (b.y1 - b.y0) 60
def maskOk (m : TMask) : Bool := if m.bits.length = 0 then m.box.isZero else maskBox m.box && decide ((m.bits.length : Int) = (m.box.x1 - m.box.x0) * (m.box.y1 - m.box.y0)) && m.bits.all fun x => tin x 0 15
theorem empty_f {b : TBox} : b.empty = false ↔ b.x0 < b.x1 ∧ b.y0 < b.y1 := by simp [TBox.empty, ile_f]
theorem mb_facts {b : TBox} (h : maskBox b = true) : b.x0 < b.x1 ∧ b.y0 < b.y1 ∧ -2000 ≤ b.x0 ∧ b.x1 ≤ 2000 ∧ -2000 ≤ b.y0 ∧ b.y1 ≤ 2000 ∧ b.x1 - b.x0 ≤ 60 ∧ b.y1 - b.y0 ≤ 60 := by
  simp only [maskBox, Bool.and_eq_true, Bool.not_eq_true', empty_f, tin_t, ile_t] at h
  omega
theorem m_spec_l11Box (b : TBox) : spec_l11Box b = some (maskBox b) := by
  unfold spec_l11Box maskBox
  simp only [m_spec_Empty, m_spec_l01In, bnd_some]
  cases h0 : b.empty <;> simp only [cnd_true, cnd_false, Bool.not_true, Bool.not_false, Bool.false_and, Bool.true_and]
  cases h1 : tin b.x0 (-2000) 2000 <;> simp only [cnd_true, cnd_false, Bool.false_and, Bool.true_and]
  cases h2 : tin b.y0 (-2000) 2000 <;> simp only [cnd_true, cnd_false, Bool.false_and, Bool.true_and]
  cases h3 : tin b.x1 (-2000) 2000 <;> simp only [cnd_true, cnd_false, Bool.false_and, Bool.true_and]
  cases h4 : tin b.y1 (-2000) 2000 <;> simp only [cnd_true, cnd_false, Bool.false_and, Bool.true_and]
  rw [tin_t] at h1 h2 h3 h4
  rw [wr_in (by omega), wr_in (by omega)]
  cases h5 : ile (b.x1 - b.x0) 60 <;> simp
theorem m_impl_isMaskBox (b : TBox) : impl_isMaskBox b = some (maskBox b) := by
  unfold impl_isMaskBox maskBox
  simp only [m_impl_Empty, bnd_some]
  cases h0 : b.empty <;> simp only [cnd_true, cnd_false, Bool.not_true, Bool.not_false, Bool.false_and, Bool.true_and]
  rw [empty_f] at h0
  cases h1 : ile (-2000) b.x0 <;> simp only [cnd_true, cnd_false]
  · rw [ile_f] at h1
    have : tin b.x0 (-2000) 2000 = false := by rw [← Bool.not_eq_true, tin_t]; omega
    simp [this]
  cases h2 : ile (-2000) b.y0 <;> simp only [cnd_true, cnd_false]
  · rw [ile_f] at h2
    have : tin b.y0 (-2000) 2000 = false := by rw [← Bool.not_eq_true, tin_t]; omega
    simp [this]
  cases h3 : ile b.x1 2000 <;> simp only [cnd_true, cnd_false]
  · rw [ile_f] at h3
    have : tin b.x1 (-2000) 2000 = false := by rw [← Bool.not_eq_true, tin_t]; omega
    simp [this]
  cases h4 : ile b.y1 2000 <;> simp only [cnd_true, cnd_false]
  · rw [ile_f] at h4
    have : tin b.y1 (-2000) 2000 = false := by rw [← Bool.not_eq_true, tin_t]; omega
    simp [this]
  rw [ile_t] at h1 h2 h3 h4
  have t1 : tin b.x0 (-2000) 2000 = true := by rw [tin_t]; omega
  have t2 : tin b.y0 (-2000) 2000 = true := by rw [tin_t]; omega
  have t3 : tin b.x1 (-2000) 2000 = true := by rw [tin_t]; omega
  have t4 : tin b.y1 (-2000) 2000 = true := by rw [tin_t]; omega
  rw [wr_in (by omega), wr_in (by omega)]
  cases h5 : ile (b.x1 - b.x0) 60 <;> simp [t1, t2, t3, t4]
theorem mb_prod {b : TBox} (h : maskBox b = true) : 0 < (b.x1 - b.x0) * (b.y1 - b.y0) ∧ (b.x1 - b.x0) * (b.y1 - b.y0) ≤ 3600 := by
  obtain ⟨h1, h2, _, _, _, _, h3, h4⟩ := mb_facts h
  refine ⟨Int.mul_pos (by omega) (by omega), ?_⟩
  calc (b.x1 - b.x0) * (b.y1 - b.y0) ≤ 60 * (b.y1 - b.y0) := Int.mul_le_mul_of_nonneg_right h3 (by omega)
    _ ≤ 60 * 60 := Int.mul_le_mul_of_nonneg_left h4 (by omega)
theorem mb_wrap {b : TBox} (h : maskBox b = true) : IntKind.i64.wrap (IntKind.i64.wrap (b.x1 - b.x0) * IntKind.i64.wrap (b.y1 - b.y0)) = (b.x1 - b.x0) * (b.y1 - b.y0) := by
  have := mb_facts h
  have := mb_prod h
  rw [wr_in (n := b.x1 - b.x0) (by omega), wr_in (n := b.y1 - b.y0) (by omega), wr_in (by omega)]
theorem zero_box {b : TBox} (h : b.isZero = true) : maskBox b = false := by
  simp only [TBox.isZero, Bool.and_eq_true, decide_eq_true_eq] at h
  have : b.empty = true := by rw [← Bool.not_eq_false, empty_f]; omega
  simp [maskBox, this]
theorem m_spec_MaskOk {m : TMask} (h : m.bits.length ≤ 9223372036854775807) : spec_MaskOk m = some (maskOk m) := by
  unfold spec_MaskOk maskOk
  by_cases h0 : m.bits.length = 0
  · rw [if_pos h0, h0]
    simp [ieq, andB, TBox.isZero]
  · rw [if_neg h0, iqf (by omega), cnd_false, m_spec_l11Box, bnd_some]
    cases h1 : maskBox m.box with
    | false => simp
    | true =>
      rw [cnd_true, mb_wrap h1]
      by_cases h2 : (m.bits.length : Int) = (m.box.x1 - m.box.x0) * (m.box.y1 - m.box.y0)
      · rw [h2, iqt, cnd_true, loopI_row (l := m.bits) (fun x => tin x 0 15) h (fun i hi => ?_) ?_]
        · cases m.bits.all (fun x => tin x 0 15) <;> simp
        · rw [spec_MaskOk_l0, ilt (by omega), cnd_true]
        · rw [spec_MaskOk_l0, ilf (by omega), cnd_false, idx_nat hi, bnd_some, m_spec_l01In, bnd_some]
      · rw [iqf h2, cnd_false]; simp [h2]
theorem m_impl_MaskOk {m : TMask} (h : m.bits.length ≤ 9223372036854775807) : impl_MaskOk m = some (maskOk m) := by
  unfold impl_MaskOk maskOk
  have e : andB (decide (m.box.x0 = 0)) (andB (decide (m.box.y0 = 0)) (andB (decide (m.box.x1 = 0)) (andB (decide (m.box.y1 = 0)) true))) = m.box.isZero := by simp [andB, TBox.isZero]
  rw [e]
  cases hz : m.box.isZero with
  | true =>
    rw [cnd_true]
    by_cases h0 : m.bits.length = 0
    · simp [h0, ieq]
    · simp [h0, zero_box hz, ieq]
  | false =>
    rw [cnd_false, m_impl_isMaskBox, bnd_some]
    cases h1 : maskBox m.box with
    | false => rw [cnd_false]; simp
    | true =>
      have := mb_prod h1
      rw [cnd_true, mb_wrap h1]
      by_cases h2 : (m.bits.length : Int) = (m.box.x1 - m.box.x0) * (m.box.y1 - m.box.y0)
      · rw [if_neg (by omega), h2, iqt, cnd_true, loopI_row (l := m.bits) (fun x => tin x 0 15) h (fun i hi => ?_) ?_]
        · cases m.bits.all (fun x => tin x 0 15) <;> simp
        · rw [impl_MaskOk_l0, ilt (by omega), cnd_true]
        · rw [impl_MaskOk_l0, ilf (by omega), cnd_false, idx_nat hi, bnd_some, m_impl_inRange, bnd_some]
      · rw [iqf h2, cnd_false]
        by_cases h0 : m.bits.length = 0
        · simp [h0]
        · simp [h0, h2]


/-! ## The first of a row that is asked for -/
def fst {α : Type} (q : α → Bool) (l : List α) : Int := match l.findIdx? q with | some i => (i : Int) | none => -1
theorem loopI_index {α ρ : Type} {l : List α} {f : Int → Option (Int ⊕ ρ)} (q : α → Bool) (a : ρ) (b : Int → ρ) (hn : l.length ≤ 9223372036854775807)
    (hs : ∀ (i : Nat) (h : i < l.length), f (i : Int) = cnd (q l[i]) (some (.inr (b (i : Int)))) (some (.inl (IntKind.i64.wrap ((i : Int) + 1))))) (he : f (l.length : Int) = some (.inr a)) :
    loopI f 0 = some (match l.findIdx? q with | some i => b (i : Int) | none => a) := by
  have h := loopI_find (f := f) (fun i : Nat => (i : Int)) l.length (fun i => match l[i]? with | some x => q x | none => false) (fun i => b (i : Int)) (r := a) (fun i hi => by
    rw [hs i hi, wr_in (by omega), List.getElem?_eq_getElem hi]
    cases h : q l[i] <;> simp [h]) he
  have e : loopI f 0 = loopI f ((0 : Nat) : Int) := rfl
  rw [e, h]
  have : (List.range l.length).find? (fun i => match l[i]? with | some x => q x | none => false) = l.findIdx? q := by
    cases hq : l.findIdx? q with
    | none =>
      rw [List.findIdx?_eq_none_iff] at hq
      rw [List.find?_eq_none]
      intro i hi
      have hi := List.mem_range.1 hi
      rw [List.getElem?_eq_getElem hi]
      simp [hq _ (List.getElem_mem hi)]
    | some i =>
      rw [List.findIdx?_eq_some_iff_getElem] at hq
      obtain ⟨h1, h2, h3⟩ := hq
      rw [List.find?_range_eq_some]
      refine ⟨by rw [List.getElem?_eq_getElem h1]; exact h2, by simpa using h1, fun j hj => ?_⟩
      have := h3 j hj
      rw [List.getElem?_eq_getElem (by omega)]
      simpa using this
  rw [this]
  cases l.findIdx? q <;> rfl
theorem fst_eq {α : Type} {q : α → Bool} {l : List α} {i : Nat} (hi : i < l.length) (hq : q l[i] = true) : fst q l = (i : Int) ↔ ∀ k (hk : k < i), q l[k] = false := by
  unfold fst
  cases h : l.findIdx? q with
  | none =>
    rw [List.findIdx?_eq_none_iff] at h
    have := h _ (List.getElem_mem hi)
    rw [hq] at this; cases this
  | some j =>
    rw [List.findIdx?_eq_some_iff_getElem] at h
    obtain ⟨h1, h2, h3⟩ := h
    show (j : Int) = (i : Int) ↔ _
    constructor
    · intro e k hk
      have : j = i := by omega
      have := h3 k (by omega)
      simpa using this
    · intro e
      have : ¬ j < i := fun hj => by have := e j hj; rw [h2] at this; cases this
      have : ¬ i < j := fun hj => h3 i hj hq
      show (j : Int) = i
      omega

/-! ## Caches -/
def firstId (l : List TKept) (id : Int) : Int := fst (fun k => ieq k.id id) l
theorem m_keptAt {c : TCache} {id : Int} (h : c.list.length ≤ 9223372036854775807) : impl_Cache_keptAt c id = some (firstId c.list id) := by
  unfold impl_Cache_keptAt slices_IndexFunc_Kept_Cache_keptAt_1
  rw [loopI_index (l := c.list) (fun k => ieq k.id id) (.inl ()) .inr h (fun i hi => ?_) ?_]
  · unfold firstId fst
    cases List.findIdx? (fun k : TKept => ieq k.id id) c.list <;> rfl
  · rw [slices_IndexFunc_Kept_Cache_keptAt_1_l0, ilt (by omega), cnd_true]
  · rw [slices_IndexFunc_Kept_Cache_keptAt_1_l0, ilf (by omega), cnd_false, idx_nat hi, bnd_some, impl_Cache_keptAt_1, bnd_some]
def keptOk (k : TKept) : Bool := tin k.id 1 99 && maskOk k.mask
def keptP (l : List TKept) (i : Nat) : Bool := match l[i]? with
  | some x => keptOk x && decide (firstId l x.id = (i : Int))
  | none => false
def cacheOk (c : TCache) : Bool := tin c.most 1 8 && ile (c.list.length : Int) c.most && (List.range c.list.length).all (keptP c.list)
def okRows (l : List TKept) : Prop := l.length ≤ 9223372036854775807 ∧ ∀ x ∈ l, x.mask.bits.length ≤ 9223372036854775807
theorem m_impl_CacheOk {c : TCache} (h : okRows c.list) : impl_CacheOk c = some (cacheOk c) := by
  unfold impl_CacheOk cacheOk
  rw [loopI_all c.list.length (keptP c.list) h.1 (fun i hi => ?_) ?_]
  · cases (List.range c.list.length).all (keptP c.list) <;> simp
    cases h1 : tin c.most 1 8 <;> simp
  · rw [impl_CacheOk_l0, ilt (by omega), cnd_true]
  · rw [impl_CacheOk_l0, ilf (by omega), cnd_false, idx_nat hi, bnd_some, m_impl_inRange, bnd_some]
    unfold keptP keptOk
    rw [List.getElem?_eq_getElem hi]
    dsimp only
    cases h1 : tin (c.list[i]).id 1 99 <;> simp only [cnd_true, cnd_false, Bool.false_and, Bool.true_and]
    rw [m_keptAt h.1, bnd_some]
    by_cases h2 : firstId c.list (c.list[i]).id = (i : Int)
    · rw [h2, iqt, cnd_true, m_impl_MaskOk (h.2 _ (List.getElem_mem hi)), bnd_some]; simp
    · rw [iqf h2, cnd_false]; simp [h2]
theorem kept_l0 {c : TCache} {i : Nat} (hi : i < c.list.length) (hn : c.list.length ≤ 9223372036854775807) :
    loopI (spec_CacheOk_l0 c (i : Int)) 0 = some (if decide (firstId c.list (c.list[i]).id = (i : Int)) then .inl () else .inr ()) := by
  have key := loopI_all (f := spec_CacheOk_l0 c (i : Int)) i (fun k => match c.list[k]? with | some y => !(ieq y.id (c.list[i]).id) | none => true) (by omega) (fun k hk => by
      rw [spec_CacheOk_l0, ilf (by omega), cnd_false, idx_nat (by omega), bnd_some, idx_nat hi, bnd_some, List.getElem?_eq_getElem (by omega)]
      dsimp only
      cases ieq (c.list[k]).id (c.list[i]).id <;> rfl) (by rw [spec_CacheOk_l0, ilt (by omega), cnd_true])
  have e : ((List.range i).all fun k => match c.list[k]? with | some y => !(ieq y.id (c.list[i]).id) | none => true) = decide (firstId c.list (c.list[i]).id = (i : Int)) := ?_
  · rw [key, e]
  rw [Bool.eq_iff_iff, List.all_eq_true, decide_eq_true_eq]
  unfold firstId
  rw [fst_eq hi (by simp [ieq])]
  constructor
  · intro h k hk
    have := h k (List.mem_range.2 hk)
    rw [List.getElem?_eq_getElem (by omega)] at this
    simpa using this
  · intro h k hk
    have hk := List.mem_range.1 hk
    rw [List.getElem?_eq_getElem (by omega)]
    simpa using h k hk
theorem m_spec_CacheOk {c : TCache} (h : okRows c.list) : spec_CacheOk c = some (cacheOk c) := by
  unfold spec_CacheOk cacheOk
  rw [m_spec_l01In, bnd_some]
  cases h1 : tin c.most 1 8 <;> simp only [cnd_true, cnd_false, Bool.false_and, Bool.true_and]
  cases h2 : ile (c.list.length : Int) c.most <;> simp only [cnd_true, cnd_false, Bool.false_and, Bool.true_and]
  rw [loopI_all c.list.length (keptP c.list) h.1 (fun i hi => ?_) ?_]
  · cases (List.range c.list.length).all (keptP c.list) <;> simp
  · rw [spec_CacheOk_l1, ilt (by omega), cnd_true]
  · rw [spec_CacheOk_l1, ilf (by omega), cnd_false, idx_nat hi, bnd_some, m_spec_l01In, bnd_some]
    unfold keptP keptOk
    rw [List.getElem?_eq_getElem hi]
    dsimp only
    cases h1 : tin (c.list[i]).id 1 99 <;> simp only [cnd_true, cnd_false, Bool.false_and, Bool.true_and]
    rw [m_spec_MaskOk (h.2 _ (List.getElem_mem hi)), bnd_some]
    cases h3 : maskOk (c.list[i]).mask <;> simp only [cnd_true, cnd_false, Bool.false_and, Bool.true_and]
    rw [kept_l0 hi h.1]
    cases decide (firstId c.list (c.list[i]).id = (i : Int)) <;> rfl
/-! ## Surfaces -/
/-! ## Loops from a number to another one -/
/-! ## Sparing -/
/-! ## Marks -/
def marked {α : Type} (mk : Int → α) (c k : Int) (n : Nat) : List α := (List.range n).map fun i : Nat => mk (k + c * (i : Int))
theorem marked_len {α : Type} {mk : Int → α} {c k : Int} {n : Nat} : (marked mk c k n).length = n := by simp [marked]
theorem cmul {c : Int} {i n : Nat} (hc : 0 ≤ c ∧ c ≤ 64) (hi : i ≤ n) (hn : n ≤ 1048576) : 0 ≤ c * (i : Int) ∧ c * (i : Int) ≤ 67108864 := by
  refine ⟨Int.mul_nonneg hc.1 (by omega), ?_⟩
  calc c * (i : Int) ≤ 64 * (i : Int) := Int.mul_le_mul_of_nonneg_right hc.2 (by omega)
    _ ≤ 67108864 := by omega
theorem csucc {c : Int} {i : Nat} : c * ((i + 1 : Nat) : Int) = c * (i : Int) + c := by
  rw [show ((i + 1 : Nat) : Int) = (i : Int) + 1 by omega, Int.mul_add, Int.mul_one]
theorem mark_loop {α : Type} (c : Int) (mk : Int → α) {f : Int × Int × List α → Option ((Int × Int × List α) ⊕ (List α × Int))} {a : List α} {k0 : Int} (hc : 0 ≤ c ∧ c ≤ 64) (h0 : 0 ≤ k0 ∧ k0 ≤ 1125899906842624) (ha : a.length ≤ 1048576)
    (he : ∀ (k : Int) (l : List α), f (k, (l.length : Int), l) = some (.inr (l, k)))
    (hf : ∀ (k : Int) (i : Nat) (l : List α), i < l.length → l.length ≤ 1048576 → 0 ≤ k → k ≤ 4503599627370496 → f (k, (i : Int), l) = some (.inl (k + c, ((i + 1 : Nat) : Int), l.set i (mk k)))) :
    loopI f (k0, 0, a) = some (marked mk c k0 a.length, k0 + c * (a.length : Int)) := by
  have key := loopI_n (f := f) (fun i => (k0 + c * (i : Int), (i : Int), marked mk c k0 i ++ a.drop i)) a.length (r := (marked mk c k0 a.length, k0 + c * (a.length : Int))) (fun i hi => ?_) ?_
  · have e : (k0 + c * ((0 : Nat) : Int), ((0 : Nat) : Int), marked mk c k0 0 ++ a.drop 0) = (k0, 0, a) := by simp [marked]
    rwa [e] at key
  · obtain ⟨b1, b2⟩ := cmul (n := a.length) hc (Nat.le_of_lt hi) ha
    have hl : (marked mk c k0 i ++ a.drop i).length = a.length := by simp [marked_len]; omega
    rw [hf _ i _ (by omega) (by omega) (by omega) (by omega)]
    have e1 : k0 + c * (i : Int) + c = k0 + c * ((i + 1 : Nat) : Int) := by rw [csucc]; omega
    have e2 : (marked mk c k0 i ++ a.drop i).set i (mk (k0 + c * (i : Int))) = marked mk c k0 (i + 1) ++ a.drop (i + 1) := by
      have h1 : a.drop i = a[i] :: a.drop (i + 1) := List.drop_eq_getElem_cons hi
      rw [List.set_append_right _ _ (by rw [marked_len]; omega), marked_len, Nat.sub_self, h1, List.set_cons_zero]
      unfold marked
      rw [List.range_succ, List.map_append, List.append_assoc]
      rfl
    rw [e1, e2]
  · have e : marked mk c k0 a.length ++ a.drop a.length = marked mk c k0 a.length := by simp
    try dsimp only
    rw [e]
    have := he (k0 + c * (a.length : Int)) (marked mk c k0 a.length)
    rwa [marked_len] at this
theorem held_loop {α : Type} (c : Int) (mk : Int → α) {f : Int × Int → Option ((Int × Int) ⊕ (Int ⊕ Unit))} {n : Nat} {k0 : Int} (hc : 0 ≤ c ∧ c ≤ 64) (h0 : 0 ≤ k0 ∧ k0 ≤ 1125899906842624) (hn : n ≤ 1048576)
    (he : ∀ k : Int, f (k, (n : Int)) = some (.inr (.inl k)))
    (hf : ∀ (k : Int) (i : Nat) (x : α), (marked mk c k0 n)[i]? = some x → i < n → x = mk k → 0 ≤ k → k ≤ 4503599627370496 → f (k, (i : Int)) = some (.inl (k + c, ((i + 1 : Nat) : Int)))) :
    loopI f (k0, 0) = some (.inl (k0 + c * (n : Int))) := by
  have key := loopI_n (f := f) (fun i => (k0 + c * (i : Int), (i : Int))) n (r := .inl (k0 + c * (n : Int))) (fun i hi => ?_) (he _)
  · have e : (k0 + c * ((0 : Nat) : Int), ((0 : Nat) : Int)) = (k0, (0 : Int)) := by simp
    rwa [e] at key
  · obtain ⟨b1, b2⟩ := cmul (n := n) hc (Nat.le_of_lt hi) hn
    rw [hf (k0 + c * (i : Int)) i (mk (k0 + c * (i : Int))) (by unfold marked; rw [List.getElem?_map, List.getElem?_range hi]; rfl) hi rfl (by omega) (by omega)]
    rw [csucc, Int.add_assoc]
theorem m_markIntS {k : Int} {l : List Int} (hk : 0 ≤ k ∧ k ≤ 1125899906842624) (hl : l.length ≤ 1048576) : laws_markIntS k l = some (k + 1 * (l.length : Int), marked (fun k => k) 1 k l.length) := by
  unfold laws_markIntS
  rw [mark_loop (f := laws_markIntS_l0) 1 (fun k => k) (by omega) hk hl (fun k l => by rw [laws_markIntS_l0, ilt (by omega), cnd_true]) (fun k i l hi hl h0 h1 => by
    rw [laws_markIntS_l0, ilf (by omega), cnd_false, idx_nat hi, bnd_some, nam_eq, Int.toNat_natCast, wr_in (n := k + 1) (by omega), wr_in (by omega)]; rfl)]
  rfl
theorem m_heldIntS {k : Int} {n : Nat} (hk : 0 ≤ k ∧ k ≤ 1125899906842624) (hl : n ≤ 1048576) : laws_heldIntS (marked (fun k => k) 1 k n) k = some (k + 1 * (n : Int)) := by
  unfold laws_heldIntS
  rw [held_loop (f := laws_heldIntS_l0 (marked (fun k => k) 1 k n)) 1 (fun k => k) (n := n) (by omega) hk hl (fun k => by rw [laws_heldIntS_l0, marked_len, ilt (by omega), cnd_true]) (fun k i x hx hi he h0 h1 => by
    rw [laws_heldIntS_l0, marked_len, ilf (by omega), cnd_false, idx_some hx, bnd_some, he, iqt, cnd_true, wr_in (n := k + 1) (by omega), wr_in (by omega)]; rfl)]
  rfl
/-! ## TilesOf -/
/-! ## Painting a part of a surface -/
section
variable {α : Type}
end

/-! ## Colours: the program's words are the reference's -/
/-! ## LayOver -/
/-! ## Paints -/
/-! ## PaintMask -/
/-! ## What blending yields -/
/-! ## Draws: each is told -/
/-! ## Lines and masks of drawn paths: each is told -/
/-! ## Masks of lines -/
/-! ## FnLayers -/
/-! ## FnPaintsOn -/
/-! ## Scenes: the program's word is the reference's -/
/-! ## EngineOk -/
/-! ## EngineNew -/
/-! ## FnSets: draws -/
/-! Copies -/
theorem copy_loop {α : Type} {l : List α} {f : Int × List α → Option ((Int × List α) ⊕ (List α))} (hs : ∀ (i : Nat) (h : i < l.length), f ((i : Int), l.take i) = some (.inl (((i + 1 : Nat) : Int), l.take i ++ [l[i]]))) (he : f ((l.length : Int), l) = some (.inr l)) : loopI f (0, []) = some l := by
  have key := loopI_n (f := f) (fun i => ((i : Int), l.take i)) l.length (r := l) (fun i hi => ?_) (by (try dsimp only); rw [List.take_length]; exact he)
  · exact key
  · try dsimp only
    rw [hs i hi, List.take_add_one, List.getElem?_eq_getElem hi]; rfl
/-! Any scenes and nodes -/
/-! ## FnSets: the law -/
/-! Sameness -/
/-! Right scenes -/
/-! ## Masks drawn are right -/
/-! ## Rows: deleted from, put into -/
/-! ## Caches: right ones, remembered, recalled, forgotten -/
theorem find_nodup {l : List TKept} (hn : (l.map (·.id)).Nodup) {i : Nat} (hi : i < l.length) : firstId l l[i].id = (i : Int) := by
  unfold firstId
  rw [fst_eq hi (by simp [ieq])]
  intro k hk
  have : l[k].id ≠ l[i].id := fun e => by
    have h1 : (l.map (·.id))[k]'(by rw [List.length_map]; omega) = (l.map (·.id))[i]'(by rw [List.length_map]; omega) := by simpa using e
    have := (List.getElem_inj hn).1 h1
    omega
  simp [ieq, this]
theorem cacheOk_iff {m : Int} {l : List TKept} : cacheOk ⟨m, l⟩ = true ↔ (1 ≤ m ∧ m ≤ 8) ∧ (l.length : Int) ≤ m ∧ (∀ k ∈ l, keptOk k = true) ∧ (l.map (·.id)).Nodup := by
  unfold cacheOk
  simp only [Bool.and_eq_true, tin_t, ile_t, List.all_eq_true, List.mem_range, and_assoc]
  refine and_congr Iff.rfl (and_congr Iff.rfl (and_congr Iff.rfl ?_))
  constructor
  · intro h
    refine ⟨fun k hk => ?_, ?_⟩
    · obtain ⟨i, hi, rfl⟩ := List.getElem_of_mem hk
      have := h i hi
      unfold keptP at this
      rw [List.getElem?_eq_getElem hi] at this
      simp only [Bool.and_eq_true] at this
      exact this.1
    · unfold List.Nodup
      rw [List.pairwise_iff_getElem]
      intro i j hi hj hij e
      rw [List.length_map] at hi hj
      simp only [List.getElem_map] at e
      have a := h i hi
      have b := h j hj
      unfold keptP at a b
      rw [List.getElem?_eq_getElem hi] at a
      rw [List.getElem?_eq_getElem hj] at b
      simp only [Bool.and_eq_true, decide_eq_true_eq] at a b
      rw [e] at a
      have := a.2.symm.trans b.2
      omega
  · rintro ⟨h1, h2⟩ i hi
    unfold keptP
    rw [List.getElem?_eq_getElem hi]
    simp only [Bool.and_eq_true, decide_eq_true_eq]
    exact ⟨h1 _ (List.getElem_mem hi), find_nodup h2 hi⟩
/-- What a mask put ahead of all makes of a row. -/
def frontL (k : TKept) (m : Int) (l : List TKept) : List TKept := (k :: (if 0 ≤ firstId l k.id then l.take (firstId l k.id).toNat ++ l.drop ((firstId l k.id).toNat + 1) else l)).take m.toNat
/-! ## Deleting by a test; what is first -/
theorem fst_cases {α : Type} (q : α → Bool) (l : List α) : (fst q l = -1 ∧ ∀ x ∈ l, q x = false) ∨ ∃ (i : Nat) (hi : i < l.length), fst q l = (i : Int) ∧ q l[i] = true ∧ ∀ (k : Nat) (hk : k < i), q l[k] = false := by
  unfold fst
  cases h : l.findIdx? q with
  | none => exact .inl ⟨rfl, List.findIdx?_eq_none_iff.1 h⟩
  | some i =>
    obtain ⟨hi, h1, h2⟩ := List.findIdx?_eq_some_iff_getElem.1 h
    exact .inr ⟨i, hi, rfl, h1, fun k hk => by simpa using h2 k hk⟩
theorem filter_take_succ {α : Type} {p : α → Bool} {l : List α} {j : Nat} (hj : j < l.length) : (l.take (j + 1)).filter p = (l.take j).filter p ++ (if p l[j] then [l[j]] else []) := by
  rw [List.take_add_one, List.getElem?_eq_getElem hj, List.filter_append]
  congr 1
  simp only [Option.toList, List.filter_cons, List.filter_nil]
theorem front_eq {k : TKept} {m : Int} {l : List TKept} (hn : (l.map (·.id)).Nodup) : frontL k m l = (k :: l.filter (fun y => !ieq y.id k.id)).take m.toNat := by
  unfold frontL
  congr 2
  unfold firstId
  rcases fst_cases (fun y : TKept => ieq y.id k.id) l with ⟨h1, h2⟩ | ⟨i, hi, h1, h2, h3⟩
  · rw [h1, if_neg (by omega)]
    exact (List.filter_eq_self.2 fun a ha => by simp [h2 a ha]).symm
  · rw [h1, if_pos (by omega), Int.toNat_natCast]
    have e : l = l.take i ++ l[i] :: l.drop (i + 1) := by
      rw [List.getElem_cons_drop, List.take_append_drop]
    have hne : ∀ (j : Nat) (hj : j < l.length), j ≠ i → ieq l[j].id k.id = false := fun j hj hji => by
      have hki : l[i].id = k.id := by simpa [ieq] using h2
      rw [← hki]
      refine iqf fun e => hji ?_
      have h1 : (l.map (·.id))[j]'(by rw [List.length_map]; omega) = (l.map (·.id))[i]'(by rw [List.length_map]; omega) := by simpa using e
      exact (List.getElem_inj hn).1 h1
    conv => rhs; rw [e]
    rw [List.filter_append, List.filter_cons, h2]
    simp only [Bool.not_true, Bool.false_eq_true, if_false]
    congr 1
    · symm
      refine List.filter_eq_self.2 fun a ha => ?_
      obtain ⟨j, hj, rfl⟩ := List.getElem_of_mem ha
      rw [List.length_take] at hj
      rw [List.getElem_take, hne j (by omega) (by omega)]; rfl
    · symm
      refine List.filter_eq_self.2 fun a ha => ?_
      obtain ⟨j, hj, rfl⟩ := List.getElem_of_mem ha
      rw [List.length_drop] at hj
      rw [List.getElem_drop, hne _ (by omega) (by omega)]; rfl
/-! ## Scenes as maps of parents -/
/-! ## A node placed -/
section
end

/-! ## A node placed: the program and the reference -/
section
end

/-! ## FnPlaces: the law -/
section
end
/-! ## FnCreates: what is drawn is right -/
/-! ## FnCreates: nodes drawn -/
/-! ## FnCreates: a node more -/
/-! ## FnCreates: created and dropped -/
/-! ## FnExactShowFrame -/
/-! ## Marks of rows of things that hold rows -/
theorem mh_loop {α : Type} {f : Int × Int × List α → Option ((Int × Int × List α) ⊕ (List α × Int))} {g : List α → Int × Int → Option ((Int × Int) ⊕ (Int ⊕ Unit))} (a : List α) (C : Nat)
    (hl : a.length ≤ 1048576) (hC : C ≤ 16777216)
    (fe : ∀ k l, f (k, (l.length : Int), l) = some (.inr (l, k))) (ge : ∀ k l, g l (k, (l.length : Int)) = some (.inr (.inl k)))
    (st : ∀ x ∈ a, ∀ k : Int, 0 ≤ k → k ≤ 562949953421312 → ∃ (y : α) (k' : Int), k ≤ k' ∧ k' ≤ k + (C : Int) ∧
      (∀ (i : Nat) (l : List α), i < 1048576 → l[i]? = some x → f (k, (i : Int), l) = some (.inl (k', ((i + 1 : Nat) : Int), l.set i y))) ∧
      (∀ (i : Nat) (l : List α), i < 1048576 → l[i]? = some y → g l (k, (i : Int)) = some (.inl (k', ((i + 1 : Nat) : Int)))))
    {k0 : Int} (h0 : 0 ≤ k0) (h1 : k0 ≤ 1048576) : ∃ (L : List α) (k : Int), (k0 ≤ k ∧ k ≤ k0 + 17592186044416) ∧ L.length = a.length ∧ loopI f (k0, 0, a) = some (L, k) ∧ loopI (g L) (k0, 0) = some (.inl k) := by
  have key : ∀ n, n ≤ a.length → ∃ (D : List α) (k : Int), D.length = n ∧ k0 ≤ k ∧ k ≤ k0 + (C : Int) * (n : Int) ∧ loopI f (k0, 0, a) = loopI f (k, (n : Int), D ++ a.drop n) ∧
      ∀ L : List α, L.take n = D → loopI (g L) (k0, 0) = loopI (g L) (k, (n : Int)) := by
    intro n
    induction n with
    | zero => exact fun _ => ⟨[], k0, rfl, by omega, by omega, by simp, fun _ _ => rfl⟩
    | succ n ih =>
      intro hn
      obtain ⟨D, k, e1, e2, e3, e4, e5⟩ := ih (by omega)
      have hb : (C : Int) * (n : Int) ≤ 16777216 * 1048576 := Int.mul_le_mul (by omega) (by omega) (by omega) (by omega)
      have hs : (C : Int) * ((n + 1 : Nat) : Int) = (C : Int) * (n : Int) + (C : Int) := by rw [Int.natCast_add, Int.mul_add]; simp
      obtain ⟨y, k', y1, y2, y3, y4⟩ := st a[n] (List.getElem_mem (by omega)) k (by omega) (by omega)
      have hd : a.drop n = a[n] :: a.drop (n + 1) := List.drop_eq_getElem_cons (by omega)
      have hg : (D ++ a.drop n)[n]? = some a[n] := by rw [List.getElem?_append_right (by omega), e1, Nat.sub_self, hd]; rfl
      refine ⟨D ++ [y], k', by simp [e1], by omega, by rw [hs]; omega, ?_, fun L hL => ?_⟩
      · rw [e4, loopI_go (y3 n _ (by omega) hg), hd, List.set_append_right _ _ (by omega), e1, Nat.sub_self, List.set_cons_zero]
        simp
      · have hL1 : L.take n = D := by
          have := congrArg (List.take n) hL
          rw [List.take_take, Nat.min_eq_left (by omega), List.take_append_of_le_length (by omega), ← e1, List.take_length] at this
          rw [← e1]; exact this
        have hL2 : L[n]? = some y := by
          have := congrArg (fun l => l[n]?) hL
          simp only [List.getElem?_take] at this
          rw [if_pos (by omega), List.getElem?_append_right (by omega), e1, Nat.sub_self] at this
          exact this
        rw [e5 L hL1, loopI_go (y4 n L (by omega) hL2)]
  obtain ⟨D, k, e1, e2, e3, e4, e5⟩ := key a.length (Nat.le_refl _)
  have hb : (C : Int) * (a.length : Int) ≤ 16777216 * 1048576 := Int.mul_le_mul (by omega) (by omega) (by omega) (by omega)
  refine ⟨D, k, ⟨e2, by omega⟩, e1, ?_, ?_⟩
  · rw [e4, List.drop_length, List.append_nil, ← e1, loopI_end (fe k D)]
  · rw [e5 D (by rw [← e1, List.take_length]), ← e1, loopI_end (ge k D)]
def inM (k : Int) (n : Nat) : List Int := marked (fun k => k) 1 k n
theorem inM_m {k : Int} {l : List Int} (h0 : 0 ≤ k) (h1 : k ≤ 1125899906842624) (hl : l.length ≤ 1048576) : laws_markIntS k l = some (k + l.length, inM k l.length) := by
  rw [m_markIntS ⟨h0, h1⟩ hl, Int.one_mul]; rfl
theorem inM_h {k : Int} {n : Nat} (h0 : 0 ≤ k) (h1 : k ≤ 1125899906842624) (hl : n ≤ 1048576) : laws_heldIntS (inM k n) k = some (k + n) := by
  unfold inM; rw [m_heldIntS ⟨h0, h1⟩ hl, Int.one_mul]
/-! ## FnExactCreateNode -/
/-! ## FnExactSetNode -/
/-! ## Caches marked; FnExactForget -/
structure KB (x : TKept) : Prop where
  b : x.mask.bits.length ≤ 1048576
structure CB (l : List TKept) : Prop where
  n : l.length ≤ 1048576
  x : ∀ k ∈ l, KB k
theorem keptS_st {x : TKept} (hx : KB x) {k : Int} (h0 : 0 ≤ k) (h1 : k ≤ 562949953421312) : ∃ (y : TKept) (k' : Int), k ≤ k' ∧ k' ≤ k + ((16777216 : Nat) : Int) ∧
      (∀ (i : Nat) (l : List TKept), i < 1048576 → l[i]? = some x → laws_markKeptS_l0 (k, (i : Int), l) = some (.inl (k', ((i + 1 : Nat) : Int), l.set i y))) ∧
      (∀ (i : Nat) (l : List TKept), i < 1048576 → l[i]? = some y → laws_heldKeptS_l0 l (k, (i : Int)) = some (.inl (k', ((i + 1 : Nat) : Int)))) := by
  have v1 := hx.b
  obtain ⟨p, hp⟩ : ∃ p, p = k + 5 + (x.mask.bits.length : Int) := ⟨_, rfl⟩
  refine ⟨⟨k, ⟨⟨k + 1, k + 2, k + 3, k + 4⟩, inM (k + 5) x.mask.bits.length⟩⟩, p, by omega, by omega, fun i l hi hl => ?_, fun i l hi hl => ?_⟩
  · have hb := (List.getElem?_eq_some_iff.1 hl).1
    rw [laws_markKeptS_l0, ilf (by omega), cnd_false, idx_some hl, bnd_some]
    simp (disch := omega) only [wr_in, Int.add_assoc, Int.reduceAdd]
    rw [inM_m (by omega) (by omega) v1, bnd_some]
    dsimp only
    rw [← hp, Int.toNat_natCast]; rfl
  · have hb := (List.getElem?_eq_some_iff.1 hl).1
    rw [laws_heldKeptS_l0, ilf (by omega), cnd_false, idx_some hl, bnd_some]
    simp (disch := omega) only [wr_in, Int.add_assoc, Int.reduceAdd, iqt, cnd_true]
    rw [inM_h (by omega) (by omega) v1, bnd_some, ← hp, ilt (by omega), cnd_true]
    rfl
theorem keptS_mh {a : List TKept} (hl : CB a) (m : Int) : ∃ (L : List TKept) (k : Int), (1 ≤ k ∧ k ≤ 562949953421312) ∧ L.length = a.length ∧ laws_markCache m 1 a = some (k, L) ∧ laws_heldCache ⟨m, L⟩ 1 = some k := by
  obtain ⟨L, k, e1, e2, e3, e4⟩ := mh_loop (f := laws_markKeptS_l0) (g := laws_heldKeptS_l0) a 16777216 hl.n (by omega) (fun k l => by rw [laws_markKeptS_l0, ilt (by omega), cnd_true]) (fun k l => by rw [laws_heldKeptS_l0, ilt (by omega), cnd_true]) (fun x h k h0 h1 => keptS_st (hl.x x h) h0 h1) (k0 := 1) (by omega) (by omega)
  refine ⟨L, k, by omega, e2, ?_, ?_⟩
  · unfold laws_markCache laws_markKeptS; rw [e3]; rfl
  · unfold laws_heldCache laws_heldKeptS; dsimp only; rw [e4, bnd_some, bnd_some, ilt (by omega), cnd_true]
theorem o_copyMask {m : TMask} (h : m.bits.length ≤ 1048576) : impl_copyMask m = some (m.box, m.bits) := by
  unfold impl_copyMask slices_Clone_int
  rw [chkP_pos (by omega), bnd_some]
theorem o_sCopyMask {m : TMask} (h : m.bits.length ≤ 1048576) : spec_l21CopyMask m = some (m.box, m.bits) := by
  unfold spec_l21CopyMask
  rw [chkP_pos (by omega), nam_eq]
  simp
theorem o_copyCache {m : Int} {l : List TKept} (h : CB l) : impl_copyCache ⟨m, l⟩ = some (m, l) := by
  have hn := h.n
  unfold impl_copyCache
  rw [copy_loop (l := l) (f := impl_copyCache_l0 ⟨m, l⟩) (fun i hi => by
    rw [impl_copyCache_l0, ilf (by dsimp only; omega), cnd_false, idx_nat hi, bnd_some, o_copyMask (h.x _ (List.getElem_mem hi)).b, bnd_some]; dsimp only
    rw [chkP_pos (by rw [List.length_take]; omega), wr_in (by omega)]; rfl) (by rw [impl_copyCache_l0, ilt (by dsimp only; omega), cnd_true])]
  rfl
theorem o_l21Copy {m : Int} {l : List TKept} (h : CB l) : spec_l21Copy ⟨m, l⟩ = some (m, l) := by
  have hn := h.n
  unfold spec_l21Copy
  rw [copy_loop (l := l) (f := spec_l21Copy_l0 ⟨m, l⟩) (fun i hi => by
    rw [spec_l21Copy_l0, ilf (by dsimp only; omega), cnd_false, idx_nat hi, bnd_some, o_sCopyMask (h.x _ (List.getElem_mem hi)).b, bnd_some]; dsimp only
    rw [chkP_pos (by rw [List.length_take]; omega), wr_in (by omega)]; rfl) (by rw [spec_l21Copy_l0, ilt (by dsimp only; omega), cnd_true])]
  rfl
theorem cb_gd {c : TCache} (h : gd_Cache c) : CB c.list := ⟨h.1, fun y hy => ⟨(h.2 y hy).1⟩⟩
theorem gd_cb {m : Int} {l : List TKept} (h : CB l) : gd_Cache ⟨m, l⟩ := ⟨h.n, fun y hy => ⟨(h.x y hy).b, fun _ _ => trivial⟩⟩
theorem CB.filter {l : List TKept} (h : CB l) (p : TKept → Bool) : CB (l.filter p) := ⟨Nat.le_trans (List.length_filter_le _ _) h.n, fun k hk => h.x k (List.mem_filter.1 hk).1⟩
/-! ## FnExactDropNode -/
/-! ## A mask put ahead of all, told in full -/
theorem eraseP_at {α : Type} {p : α → Bool} : ∀ {l : List α} {i : Nat} (hi : i < l.length), p l[i] = true → (∀ (k : Nat) (hk : k < i), p (l[k]'(by omega)) = false) → l.eraseP p = l.take i ++ l.drop (i + 1)
  | [], i, hi, _, _ => by simp at hi
  | x :: l, 0, _, h, _ => by simp only [List.getElem_cons_zero] at h; simp [List.eraseP_cons_of_pos h]
  | x :: l, i + 1, hi, h, hk => by
    have h0 := hk 0 (by omega)
    simp only [List.getElem_cons_zero] at h0
    rw [List.eraseP_cons_of_neg (by simp [h0])]
    simp only [List.getElem_cons_succ] at h
    rw [eraseP_at (l := l) (i := i) (by simpa using hi) h (fun k hk' => by
      have := hk (k + 1) (by omega)
      simpa using this)]
    simp
/-! ## FnExactRemember -/
theorem front_P {k : TKept} {m : Int} {l : List TKept} : frontL k m l = (k :: l.eraseP (fun y => ieq y.id k.id)).take m.toNat := by
  unfold frontL
  congr 2
  rcases fst_cases (fun y : TKept => ieq y.id k.id) l with ⟨h1, h2⟩ | ⟨i, hi, h1, h2, h3⟩
  · have h1' : firstId l k.id = -1 := h1
    rw [h1', if_neg (by omega)]
    exact (List.eraseP_of_forall_not fun a ha => by simp [h2 a ha]).symm
  · have h1' : firstId l k.id = (i : Int) := h1
    rw [h1', if_pos (by omega), Int.toNat_natCast]
    exact (eraseP_at (p := fun y => ieq y.id k.id) hi h2 h3).symm
theorem CB.rows {l : List TKept} (h : CB l) : okRows l := ⟨by have := h.n; omega, fun x hx => by have := (h.x x hx).b; omega⟩
theorem CB.front {k : TKept} {m : Int} {l : List TKept} (h : CB l) (h8 : l.length ≤ 100) (hk : KB k) : CB (frontL k m l) := by
  rw [front_P]
  have hs : ((k :: l.eraseP (fun y => ieq y.id k.id)).take m.toNat).Sublist (k :: l) := (List.take_sublist _ _).trans (List.eraseP_sublist.cons_cons _)
  refine ⟨by have := hs.length_le; simp only [List.length_cons] at this; omega, fun x hx => ?_⟩
  rcases List.mem_cons.1 (hs.subset hx) with rfl | hx
  · exact hk
  · exact h.x x hx
theorem o_First {m id : Int} {l : List TKept} {mk : TMask} (h : cacheOk ⟨m, l⟩ = true) (hf : CB (frontL ⟨id, mk⟩ m l)) : spec_l21First ⟨m, l⟩ id mk = some (m, frontL ⟨id, mk⟩ m l) := by
  have hc := h
  rw [cacheOk_iff] at hc
  obtain ⟨h1, h2, h3, h4⟩ := hc
  unfold spec_l21First
  have key := loopI_n (f := spec_l21First_l0 ⟨m, l⟩ id) (fun i => ((i : Int), ((⟨id, mk⟩ : TKept) :: (l.take i).filter (fun y => !ieq y.id id)).take m.toNat)) l.length (r := frontL ⟨id, mk⟩ m l) (fun i hi => ?_) ?_
  · have e0 : ((⟨id, mk⟩ : TKept) :: (l.take 0).filter (fun y => !ieq y.id id)).take m.toNat = [⟨id, mk⟩] := by
      rw [List.take_zero, List.filter_nil]; exact List.take_of_length_le (by simp; omega)
    have e : loopI (spec_l21First_l0 ⟨m, l⟩ id) (0, [⟨id, mk⟩]) = some (frontL ⟨id, mk⟩ m l) := by
      have := key
      rw [e0] at this
      exact this
    rw [e, bnd_some]
    try dsimp only
    rw [o_l21Copy hf, bnd_some]
  · try dsimp only
    rw [spec_l21First_l0]
    try dsimp only
    rw [ilf (by omega), cnd_false, idx_nat hi, bnd_some, wr_in (by omega)]
    rw [filter_take_succ hi]
    cases hq : ieq l[i].id id with
    | true => rw [cnd_true]; simp
    | false =>
      rw [cnd_false]
      simp only [Bool.not_false, if_true]
      obtain ⟨L, hL⟩ : ∃ L, L = (⟨id, mk⟩ : TKept) :: (l.take i).filter (fun y => !ieq y.id id) := ⟨_, rfl⟩
      rw [← List.cons_append, ← hL]
      by_cases hf : m.toNat ≤ L.length
      · rw [ilt (by rw [List.length_take]; omega), cnd_true, List.take_append_of_le_length hf]; simp
      · have hlen : L.length ≤ 100 := by
          rw [hL, List.length_cons]
          have a1 := List.length_filter_le (fun y : TKept => !ieq y.id id) (l.take i)
          rw [List.length_take] at a1; omega
        rw [List.take_of_length_le (by omega : L.length ≤ m.toNat), ilf (by omega), cnd_false, chkP_pos (by omega), nam_eq, List.take_of_length_le (by rw [List.length_append]; simp; omega)]
        simp
  · rw [spec_l21First_l0]
    try dsimp only
    rw [ilt (by omega), cnd_true, List.take_length, front_eq h4]
/-! ## FnExactRecall -/
structure RecR (r : Int × TBox × Bool × List TKept × List Int) : Prop where
  c : CB r.2.2.2.1
  b : r.2.2.2.2.length ≤ 1048576
theorem sRecall_no {m id : Int} {l : List TKept} (h : CB l) (hno : ∀ (i : Nat) (hi : i < l.length), ieq l[i].id id = true → cacheOk ⟨m, l⟩ = false) : spec_Recall ⟨m, l⟩ id = some (m, ⟨0, 0, 0, 0⟩, false, l, []) := by
  have hn := h.n
  have key := loopI_n (f := spec_Recall_l0 ⟨m, l⟩ id) (fun i => (i : Int)) l.length (r := .inl ()) (fun i hi => ?_) ?_
  · unfold spec_Recall
    have e : loopI (spec_Recall_l0 ⟨m, l⟩ id) 0 = some (.inl ()) := key
    rw [e, bnd_some]
    dsimp only
    rw [o_l21Copy h, bnd_some]
  · try dsimp only
    rw [spec_Recall_l0, ilf (by dsimp only; omega), cnd_false, idx_nat hi, bnd_some, wr_in (by omega)]
    cases hq : ieq l[i].id id with
    | false => rw [cnd_false]; rfl
    | true => rw [cnd_true, m_spec_CacheOk h.rows, hno i hi hq, bnd_some, cnd_false]; rfl
  · try dsimp only
    rw [spec_Recall_l0, ilt (by dsimp only; omega), cnd_true]
theorem o_Recall {m id : Int} {l : List TKept} (h : CB l) : ∃ r, impl_Recall ⟨m, l⟩ id = some r ∧ spec_Recall ⟨m, l⟩ id = some r ∧ RecR r := by
  have hn := h.n
  have no : RecR (m, ⟨0, 0, 0, 0⟩, false, l, []) := ⟨h, by simp⟩
  unfold impl_Recall
  rw [o_copyCache h, bnd_some]
  try dsimp only
  rw [m_keptAt (by (try dsimp only) <;> omega), bnd_some]
  rcases fst_cases (fun y : TKept => ieq y.id id) l with ⟨f1, f2⟩ | ⟨i, hi, f1, f2, f3⟩
  · have f1' : firstId l id = -1 := f1
    rw [f1', ilf (by omega), cnd_false]
    exact ⟨_, rfl, sRecall_no h (fun i hi hq => by rw [f2 _ (List.getElem_mem hi)] at hq; cases hq), no⟩
  have f1' : firstId l id = (i : Int) := f1
  rw [f1', ilt (by omega), cnd_true, m_impl_CacheOk h.rows, bnd_some]
  cases hc : cacheOk ⟨m, l⟩ with
  | false =>
    rw [cnd_false]
    exact ⟨_, rfl, sRecall_no h (fun _ _ _ => hc), no⟩
  | true =>
  rw [cnd_true, idx_nat hi, bnd_some]
  have hc' := hc
  rw [cacheOk_iff] at hc'
  obtain ⟨c1, c2, c3, c4⟩ := hc'
  have hk := h.x _ (List.getElem_mem hi)
  have hid : l[i].id = id := by simpa [ieq] using f2
  have hmk : (⟨l[i].id, ⟨l[i].mask.box, l[i].mask.bits⟩⟩ : TKept) = l[i] := rfl
  have hf : CB (frontL l[i] m l) := CB.front h (by omega) hk
  have hfr : frontL l[i] m l = (l[i] :: (l.take i ++ l.drop (i + 1))).take m.toNat := by
    unfold frontL
    rw [hid, f1', if_pos (by omega), Int.toNat_natCast]
  have hany : List.any (l.take i) (fun y => ieq y.id l[i].id) = false := by
    rw [List.any_eq_false]
    intro y hy
    obtain ⟨k, hk, rfl⟩ := List.getElem_of_mem hy
    rw [List.length_take] at hk
    rw [List.getElem_take, hid, f3 k (by omega)]; simp
  unfold impl_Cache_toFront_n
  rw [Int.toNat_natCast]
  have hcond : List.length (l.take i) + List.length (l.drop (i + 1)) + 1 ≤ 1000 ∧ 0 ≤ m ∧ List.any (l.take i) (fun y => ieq y.id (TKept.mk l[i].id (TMask.mk l[i].mask.box l[i].mask.bits)).id) = false :=
    ⟨by rw [List.length_take, List.length_drop]; omega, by omega, hany⟩
  rw [chkP_pos hcond, bnd_some, bnd_some, o_copyMask hk.b, bnd_some]
  dsimp only
  rw [hmk, ← hfr]
  refine ⟨_, rfl, ?_, ⟨hf, hk.b⟩⟩
  have hfi : frontL ⟨id, l[i].mask⟩ m l = frontL l[i] m l := by
    have : (⟨id, l[i].mask⟩ : TKept) = l[i] := by rw [← hid]
    rw [this]
  have key := loopI_n (f := spec_Recall_l0 ⟨m, l⟩ id) (fun i => (i : Int)) i (r := .inr (m, l[i].mask.box.x0, l[i].mask.box.y0, l[i].mask.box.x1, l[i].mask.box.y1, frontL l[i] m l, l[i].mask.bits)) (fun j hj => ?_) ?_
  · unfold spec_Recall
    have e : loopI (spec_Recall_l0 ⟨m, l⟩ id) 0 = _ := key
    rw [e, bnd_some]
  · try dsimp only
    rw [spec_Recall_l0, ilf (by dsimp only; omega), cnd_false, idx_nat (show j < l.length by omega), bnd_some, wr_in (by omega), f3 j hj, cnd_false]; rfl
  · try dsimp only
    have f2' : ieq l[i].id id = true := f2
    rw [spec_Recall_l0, ilf (by dsimp only; omega), cnd_false, idx_nat hi, bnd_some, f2', cnd_true, m_spec_CacheOk h.rows, hc, bnd_some, cnd_true, o_First hc (by rw [hfi]; exact hf), bnd_some]
    dsimp only
    rw [o_sCopyMask hk.b, bnd_some, hfi]
theorem m_FnExactRecall {c : TCache} {id : Int} (ha : ok_Cache c) (_ : okN .i64 id) : laws_FnExactRecall c id = some true := by
  unfold laws_FnExactRecall
  obtain ⟨v, e1, l1, l2, g1⟩ := f_laws_szCache ha (left := 1048576) (by omega) (by omega)
  rw [e1, bnd_some]
  by_cases c1 : 0 ≤ v
  case neg => rw [ilf (by omega), cnd_false]
  rw [ilt c1, cnd_true]
  have hc := cb_gd (g1 c1)
  rw [f_laws_toCache (g1 c1), bnd_some]
  dsimp only
  obtain ⟨⟨rm, rb, rk, rl, rs⟩, r1, r2, ⟨r3, r4⟩⟩ := o_Recall (m := c.most) (id := id) hc
  dsimp only at r3 r4
  rw [r2, bnd_some]
  dsimp only
  rw [r1, bnd_some]
  dsimp only
  have hgm : gd_Mask ⟨rb, rs⟩ := ⟨r4, fun _ _ => trivial⟩
  rw [f_laws_eqCache (gd_cb r3), bnd_some, cnd_true, f_laws_eqMask hgm, bnd_some, cnd_true]
  have hb : andB (decide (rk = rk)) true = true := by simp [andB]
  rw [hb, cnd_true, f_laws_eqCache (g1 c1), bnd_some, cnd_true]
  obtain ⟨L, k, k1, _, k3, _⟩ := keptS_mh hc c.most
  rw [k3, bnd_some]
  dsimp only
  rw [ilt (by omega), cnd_true]
  obtain ⟨L', k', j1, _, j3, j4⟩ := keptS_mh r3 rm
  rw [j3, bnd_some]
  dsimp only
  unfold laws_markMask laws_heldMask
  rw [inM_m (by omega) (by omega) r4, bnd_some]
  dsimp only
  rw [bnd_some]
  dsimp only
  rw [j4, bnd_some, ilt (by omega), cnd_true, inM_h (by omega) (by omega) r4, bnd_some, ilt (by omega), cnd_true, bnd_some, ilt (by omega), cnd_true, iqt, cnd_true]

end Go.Proofs.Ytapchldnmkfkoaa.Am
