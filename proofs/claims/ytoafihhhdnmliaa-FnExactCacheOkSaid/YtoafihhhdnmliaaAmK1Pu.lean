import Derived.Test.YtoafihhhdnmliaaAmK1Mo
import Derived.Test.YtoafihhhdnmliaaAmRo
import Derived.Test.YtoafihhhdnmliaaAmLw
set_option linter.unusedVariables false
set_option linter.unusedSimpArgs false
set_option linter.unusedSectionVars false
namespace Go.Proofs.Ytoafihhhdnmliaa.Am
open Go Go.Proofs
def ok_Box (x : TBox) : Prop := (okN .i64) x.x0 ∧ (okN .i64) x.y0 ∧ (okN .i64) x.x1 ∧ (okN .i64) x.y1
theorem dm_Box : Dm (.struct [.int .i64, .int .i64, .int .i64, .int .i64]) eBox ok_Box := ⟨fun cs h => by
  rw [Dom] at h; simp only [DomL] at h
  obtain ⟨_, _, rfl, h0, _, _, rfl, h1, _, _, rfl, h2, _, _, rfl, h3, rfl⟩ := h
  obtain ⟨x0, rfl, k0⟩ := dm_int.c h0
  obtain ⟨x1, rfl, k1⟩ := dm_int.c h1
  obtain ⟨x2, rfl, k2⟩ := dm_int.c h2
  obtain ⟨x3, rfl, k3⟩ := dm_int.c h3
  exact ⟨⟨x0, x1, x2, x3⟩, by simp [elA, Ty.isS], k0, k1, k2, k3⟩⟩
def ok_Mask (x : TMask) : Prop := ok_Box x.box ∧ (okL (okN .i64)) x.bits
theorem dm_Mask : Dm (.struct [.struct [.int .i64, .int .i64, .int .i64, .int .i64], .slice (.int .i64)]) eMask ok_Mask := ⟨fun cs h => by
  rw [Dom] at h; simp only [DomL] at h
  obtain ⟨_, _, rfl, h0, _, _, rfl, h1, rfl⟩ := h
  obtain ⟨x0, rfl, k0⟩ := dm_Box.c h0
  obtain ⟨x1, rfl, k1⟩ := (dm_sl dm_int).c h1
  exact ⟨⟨x0, x1⟩, by simp [elA, Ty.isS], k0, k1⟩⟩
def ok_Kept (x : TKept) : Prop := (okN .i64) x.id ∧ ok_Mask x.mask
theorem dm_Kept : Dm (.struct [.int .i64, .struct [.struct [.int .i64, .int .i64, .int .i64, .int .i64], .slice (.int .i64)]]) eKept ok_Kept := ⟨fun cs h => by
  rw [Dom] at h; simp only [DomL] at h
  obtain ⟨_, _, rfl, h0, _, _, rfl, h1, rfl⟩ := h
  obtain ⟨x0, rfl, k0⟩ := dm_int.c h0
  obtain ⟨x1, rfl, k1⟩ := dm_Mask.c h1
  exact ⟨⟨x0, x1⟩, by simp [elA, Ty.isS], k0, k1⟩⟩
def ok_Cache (x : TCache) : Prop := (okN .i64) x.most ∧ (okL ok_Kept) x.list
theorem dm_Cache : Dm (.struct [.int .i64, .slice (.struct [.int .i64, .struct [.struct [.int .i64, .int .i64, .int .i64, .int .i64], .slice (.int .i64)]])]) eCache ok_Cache := ⟨fun cs h => by
  rw [Dom] at h; simp only [DomL] at h
  obtain ⟨_, _, rfl, h0, _, _, rfl, h1, rfl⟩ := h
  obtain ⟨x0, rfl, k0⟩ := dm_int.c h0
  obtain ⟨x1, rfl, k1⟩ := (dm_sl dm_Kept).c h1
  exact ⟨⟨x0, x1⟩, by simp [elA, Ty.isS], k0, k1⟩⟩
end Go.Proofs.Ytoafihhhdnmliaa.Am
namespace Go.Proofs.Ytoafihhhdnmliaa.Am
open Go Go.Proofs
set_option linter.unusedVariables false
set_option linter.unusedSimpArgs false
theorem f_laws_szIntS {a : List Int} {left : Int} (ho : okL (okN .i64) a) (h0 : 0 ≤ left) (h1 : left ≤ 1048576) : ∃ v, laws_szIntS a left = some v ∧ szR v left (gdL tt a) := by
  unfold laws_szIntS; exact sz_row (maxL ho.1) h0 h1
def gd_Mask (x : TMask) : Prop := (gdL tt) x.bits
theorem f_laws_szMask {a : TMask} {left : Int} (ho : ok_Mask a) (h0 : 0 ≤ left) (h1 : left ≤ 1048576) : ∃ v, laws_szMask a left = some v ∧ szR v left (gd_Mask a) := by
  obtain ⟨o0, o1⟩ := ho
  unfold laws_szMask
  obtain ⟨v1, e1, l1, m1, g1⟩ := f_laws_szIntS o1 h0 (by omega)
  rw [e1, bnd_some]
  by_cases c1 : 0 ≤ v1
  case neg => rw [ilf (by omega), cnd_false]; exact ⟨-1, rfl, by omega, by omega, fun h => by omega⟩
  rw [ilt c1, cnd_true]
  exact ⟨v1, rfl, by omega, by omega, fun _ => g1 c1⟩
def gd_Kept (x : TKept) : Prop := gd_Mask x.mask
theorem f_laws_szKept {a : TKept} {left : Int} (ho : ok_Kept a) (h0 : 0 ≤ left) (h1 : left ≤ 1048576) : ∃ v, laws_szKept a left = some v ∧ szR v left (gd_Kept a) := by
  obtain ⟨o0, o1⟩ := ho
  unfold laws_szKept
  obtain ⟨v1, e1, l1, m1, g1⟩ := f_laws_szMask o1 h0 (by omega)
  rw [e1, bnd_some]
  by_cases c1 : 0 ≤ v1
  case neg => rw [ilf (by omega), cnd_false]; exact ⟨-1, rfl, by omega, by omega, fun h => by omega⟩
  rw [ilt c1, cnd_true]
  exact ⟨v1, rfl, by omega, by omega, fun _ => g1 c1⟩
theorem f_laws_szKeptS {a : List TKept} {left : Int} (ho : okL ok_Kept a) (h0 : 0 ≤ left) (h1 : left ≤ 1048576) : ∃ v, laws_szKeptS a left = some v ∧ szR v left ((gdL gd_Kept) a) := by
  unfold laws_szKeptS
  have hl := maxL ho.1
  rw [wr_in (by omega)]
  by_cases h : 0 ≤ left - (a.length : Int)
  · rw [ilt h, cnd_true]
    obtain ⟨v, ⟨v1, v2, v3⟩, e⟩ := sz_loop (szE := laws_szKept) (g := gd_Kept) (f := laws_szKeptS_l0 a) (left := left - (a.length : Int)) (fun x hx left => f_laws_szKept (ho.2 x hx)) (fun _ _ => rfl) h (by omega) (by omega)
    refine ⟨v, ?_, by omega, v2, v3⟩
    rcases e with ⟨e, _⟩ | ⟨e, rfl⟩ <;> rw [e] <;> rfl
  · rw [ilf (by omega), cnd_false]
    exact ⟨_, rfl, by omega, by omega, fun h => by omega⟩
def gd_Cache (x : TCache) : Prop := (gdL gd_Kept) x.list
theorem f_laws_szCache {a : TCache} {left : Int} (ho : ok_Cache a) (h0 : 0 ≤ left) (h1 : left ≤ 1048576) : ∃ v, laws_szCache a left = some v ∧ szR v left (gd_Cache a) := by
  obtain ⟨o0, o1⟩ := ho
  unfold laws_szCache
  obtain ⟨v1, e1, l1, m1, g1⟩ := f_laws_szKeptS o1 h0 (by omega)
  rw [e1, bnd_some]
  by_cases c1 : 0 ≤ v1
  case neg => rw [ilf (by omega), cnd_false]; exact ⟨-1, rfl, by omega, by omega, fun h => by omega⟩
  rw [ilt c1, cnd_true]
  exact ⟨v1, rfl, by omega, by omega, fun _ => g1 c1⟩
theorem f_laws_toBox {a : TBox} : laws_toBox a = some a := by
  unfold laws_toBox
  rfl
theorem f_laws_toIntS {a : List Int} (hg : (gdL tt) a) : laws_toIntS a = some a := by
  unfold laws_toIntS
  rw [chkP_pos (ch_row hg.1 (by omega))]
  have h := to_loop (f := laws_toIntS_l0 a) (toE := some) (0) (fun _ _ => rfl) (fun _ _ => rfl) hg.1
  simp only [nam_eq, h, bnd_some]
theorem f_laws_toMask {a : TMask} (hg : gd_Mask a) : laws_toMask a = some (a.box, a.bits) := by
  have h0 := hg
  unfold laws_toMask
  simp only [bnd_some, f_laws_toBox, f_laws_toIntS h0]
theorem f_laws_toKept {a : TKept} (hg : gd_Kept a) : laws_toKept a = some a := by
  have h0 := hg
  unfold laws_toKept
  simp only [bnd_some, f_laws_toMask h0]
theorem f_laws_toKeptS {a : List TKept} (hg : (gdL gd_Kept) a) : laws_toKeptS a = some a := by
  unfold laws_toKeptS
  rw [chkP_pos (ch_row hg.1 (by omega))]
  have h := to_loop (f := laws_toKeptS_l0 a) (toE := laws_toKept) ((TKept.mk 0 (TMask.mk (TBox.mk 0 0 0 0) []))) (fun x hx => f_laws_toKept (hg.2 x hx)) (fun _ _ => rfl) hg.1
  simp only [nam_eq, h, bnd_some]
theorem f_laws_toCache {a : TCache} (hg : gd_Cache a) : laws_toCache a = some a := by
  have h0 := hg
  unfold laws_toCache
  simp only [bnd_some, f_laws_toKeptS h0]
theorem f_laws_eqBox {a : TBox} : laws_eqBox a a = some true := by
  unfold laws_eqBox
  simp only [bnd_some, cnd_true, iqt, andB, decide_true, Bool.and_self, Bool.and_true]
theorem f_laws_eqIntS {a : List Int} (hg : (gdL tt) a) : laws_eqIntS a a = some true := by
  unfold laws_eqIntS
  have h := eq_loop (f := laws_eqIntS_l0 a a) (eqE := (fun x y => some (ieq x y))) (fun _ _ => by simp [ieq, sq']) (fun _ => rfl) hg.1
  rw [iqt, cnd_true, h]; rfl
theorem f_laws_eqMask {a : TMask} (hg : gd_Mask a) : laws_eqMask a a = some true := by
  have h0 := hg
  unfold laws_eqMask
  simp only [bnd_some, cnd_true, iqt, andB, decide_true, Bool.and_self, Bool.and_true, f_laws_eqBox, f_laws_eqIntS h0]
theorem f_laws_eqKept {a : TKept} (hg : gd_Kept a) : laws_eqKept a a = some true := by
  have h0 := hg
  unfold laws_eqKept
  simp only [bnd_some, cnd_true, iqt, andB, decide_true, Bool.and_self, Bool.and_true, f_laws_eqMask h0]
theorem f_laws_eqKeptS {a : List TKept} (hg : (gdL gd_Kept) a) : laws_eqKeptS a a = some true := by
  unfold laws_eqKeptS
  have h := eq_loop (f := laws_eqKeptS_l0 a a) (eqE := laws_eqKept) (fun x hx => f_laws_eqKept (hg.2 x hx)) (fun _ => rfl) hg.1
  rw [iqt, cnd_true, h]; rfl
theorem f_laws_eqCache {a : TCache} (hg : gd_Cache a) : laws_eqCache a a = some true := by
  have h0 := hg
  unfold laws_eqCache
  simp only [bnd_some, cnd_true, iqt, andB, decide_true, Bool.and_self, Bool.and_true, f_laws_eqKeptS h0]
end Go.Proofs.Ytoafihhhdnmliaa.Am
namespace Go.Proofs.Ytoafihhhdnmliaa.Am
open Go Go.Proofs
set_option linter.unusedSimpArgs false
set_option linter.unusedVariables false
set_option maxRecDepth 100000
/-! ## Small words -/
def tin (x a b : Int) : Bool := ile a x && ile x b
theorem tin_t {x a b : Int} : tin x a b = true ↔ a ≤ x ∧ x ≤ b := by simp [tin, ile_t]
@[simp] theorem m_spec_l01In (x a b : Int) : spec_l01In x a b = some (tin x a b) := by
  unfold spec_l01In tin; cases ile a x <;> simp
@[simp] theorem m_impl_inRange (x a b : Int) : impl_inRange x a b = some (tin x a b) := by
  unfold impl_inRange tin; cases ile a x <;> simp
def tileCount (w h : Int) : Int := if tin w 1 12 && tin h 1 12 then ((w + 3) / 4) * ((h + 3) / 4) else 0
theorem four {w : Int} (h : tin w 1 12 = true) : (w + 3) / 4 = 1 ∨ (w + 3) / 4 = 2 ∨ (w + 3) / 4 = 3 := by rw [tin_t] at h; omega
theorem wr9 {w h : Int} (hw : tin w 1 12 = true) (hh : tin h 1 12 = true) : IntKind.i64.wrap ((w + 3) / 4 * ((h + 3) / 4)) = (w + 3) / 4 * ((h + 3) / 4) := by
  refine wr_in ?_
  rcases four hw with e | e | e <;> rcases four hh with f | f | f <;> rw [e, f] <;> decide
theorem up4 {w : Int} (h : tin w 1 12 = true) : IntKind.i64.wrap ((IntKind.i64.wrap (w + 3)).tdiv 4) = (w + 3) / 4 := by
  rw [tin_t] at h
  rw [wr_in (n := w + 3) (by omega), Int.tdiv_eq_ediv_of_nonneg (by omega), wr_in (by omega)]
def TBox.empty (b : TBox) : Bool := ile b.x1 b.x0 || ile b.y1 b.y0
def TBox.zero : TBox := ⟨0, 0, 0, 0⟩
def meet (a b : TBox) : TBox :=
  let c : TBox := ⟨max a.x0 b.x0, max a.y0 b.y0, min a.x1 b.x1, min a.y1 b.y1⟩
  if c.empty then .zero else c
@[simp] theorem m_impl_Empty (b : TBox) : impl_Empty b = some b.empty := by
  unfold impl_Empty TBox.empty; cases ile b.x1 b.x0 <;> simp
@[simp] theorem m_spec_Empty (b : TBox) : spec_Empty b = some b.empty := by
  unfold spec_Empty TBox.empty; cases ile b.x1 b.x0 <;> simp
def tileBox (w h i : Int) : TBox :=
  if tin i 0 (tileCount w h - 1) then
    let x := i % ((w + 3) / 4) * 4
    let y := i / ((w + 3) / 4) * 4
    meet ⟨x, y, x + 4, y + 4⟩ ⟨0, 0, w, h⟩
  else .zero
theorem tc_bd (w h : Int) : 0 ≤ tileCount w h ∧ tileCount w h ≤ 9 := by
  unfold tileCount
  cases hw : tin w 1 12 <;> cases hh : tin h 1 12 <;> simp
  rcases four hw with e | e | e <;> rcases four hh with f | f | f <;> rw [e, f] <;> decide
@[simp] theorem tc_wrap (w h : Int) : IntKind.i64.wrap (tileCount w h - 1) = tileCount w h - 1 := by
  have := tc_bd w h
  exact wr_in (by omega)
theorem tb_facts {w h i : Int} (hi : tin i 0 (tileCount w h - 1) = true) : tin w 1 12 = true ∧ 0 ≤ i ∧ i ≤ 8 := by
  have := tc_bd w h
  rw [tin_t] at hi
  refine ⟨?_, by omega, by omega⟩
  cases hw : tin w 1 12 with
  | true => rfl
  | false =>
    have : tileCount w h = 0 := by simp [tileCount, hw]
    omega
theorem tb_x {r i : Int} (hr : r = 1 ∨ r = 2 ∨ r = 3) (h0 : 0 ≤ i) (h1 : i ≤ 8) : IntKind.i64.wrap (i.tmod r * 4) = i % r * 4 ∧ IntKind.i64.wrap (i % r * 4 + 4) = i % r * 4 + 4 ∧
    IntKind.i64.wrap (IntKind.i64.wrap (i.tdiv r) * 4) = i / r * 4 ∧ IntKind.i64.wrap (i / r * 4 + 4) = i / r * 4 + 4 := by
  rw [Int.tmod_eq_emod_of_nonneg h0, Int.tdiv_eq_ediv_of_nonneg h0]
  rcases hr with rfl | rfl | rfl
  · rw [wr_in (n := i / 1) (by omega)]; exact ⟨wr_in (by omega), wr_in (by omega), wr_in (by omega), wr_in (by omega)⟩
  · rw [wr_in (n := i / 2) (by omega)]; exact ⟨wr_in (by omega), wr_in (by omega), wr_in (by omega), wr_in (by omega)⟩
  · rw [wr_in (n := i / 3) (by omega)]; exact ⟨wr_in (by omega), wr_in (by omega), wr_in (by omega), wr_in (by omega)⟩
theorem four' {w : Int} (h : tin w 1 12 = true) : ¬ (w + 3) / 4 = 0 := by rcases four h with e | e | e <;> omega
/-! ## Draws -/
theorem idx_of {α : Type} {l : List α} {i : Int} (h0 : 0 ≤ i) (h1 : i < l.length) : ∃ x, idx l i = some x ∧ x ∈ l := by
  have : i.toNat < l.length := by omega
  refine ⟨l[i.toNat], ?_, List.getElem_mem this⟩
  unfold idx; rw [if_pos h0]; exact List.getElem?_eq_getElem this
theorem and255 (x : Int) : 0 ≤ andI .i64 x 255 ∧ andI .i64 x 255 ≤ 255 := by
  have h : (BitVec.ofInt 64 x &&& BitVec.ofInt 64 255).toNat ≤ 255 := by
    rw [BitVec.toNat_and]
    exact Nat.le_trans Nat.and_le_right (by decide)
  have h2 : (((BitVec.ofInt 64 x &&& BitVec.ofInt 64 255).toNat : Nat) : Int) ≤ 255 := by exact_mod_cast h
  have e : andI .i64 x 255 = IntKind.i64.wrap (((BitVec.ofInt 64 x &&& BitVec.ofInt 64 255).toNat : Nat) : Int) := rfl
  rw [e, wr_in ⟨by omega, by omega⟩]
  exact ⟨by omega, h2⟩
/-- A loop over a row that is left at the first element with a property. -/
theorem loopI_any {α ρ : Type} {f : Int → Option (Int ⊕ ρ)} (l : List α) (p : α → Bool) (r1 r0 : ρ) (hs : ∀ (i : Nat) x, l[i]? = some x → f i = some (if p x = true then .inr r1 else .inl ((i + 1 : Nat) : Int)))
    (he : f (l.length : Nat) = some (.inr r0)) : loopI f ((0 : Nat) : Int) = some (if l.any p = true then r1 else r0) := by
  have key : ∀ d i, i + d = l.length → loopI f (i : Nat) = some (if (l.drop i).any p = true then r1 else r0) := by
    intro d
    induction d with
    | zero =>
      intro i hi
      have : i = l.length := by omega
      subst this
      rw [loopI_end he]; simp
    | succ d ih =>
      intro i hi
      have hlt : i < l.length := by omega
      have h1 := hs i l[i] (List.getElem?_eq_getElem hlt)
      rw [List.drop_eq_getElem_cons hlt, List.any_cons]
      cases hp : p l[i] with
      | true => rw [hp, if_pos rfl] at h1; rw [loopI_end h1]; simp
      | false =>
        rw [hp, if_neg (by simp)] at h1
        rw [loopI_go h1, ih (i + 1) (by omega)]; simp
  simpa using key l.length 0 (by omega)

def meets (b : TBox) (list : List TBox) : Bool := list.any fun x => !(meet b x).empty
def tilesOf (w h : Int) (list : List TBox) : List Int := ((List.range (tileCount w h).toNat).filter fun i : Nat => meets (tileBox w h (i : Int)) list).map fun i : Nat => (i : Int)
theorem filter_succ {n : Nat} {p : Nat → Bool} : (List.range (n + 1)).filter p = (List.range n).filter p ++ (if p n = true then [n] else []) := by
  rw [List.range_succ, List.filter_append]
  cases h : p n <;> simp [h]
/-! ## Each square is in one tile -/
theorem count_one {n k : Nat} (h : k < n) : ((List.range n).filter fun i => decide (i = k)).length = 1 := by
  induction n with
  | zero => omega
  | succ n ih =>
    rw [filter_succ]
    by_cases e : n = k
    · subst e
      have : (List.range n).filter (fun i => decide (i = n)) = [] := by
        rw [List.filter_eq_nil_iff]; intro a ha; simp at ha ⊢; omega
      simp [this]
    · have := ih (by omega)
      simp [e, this]

section
variable {a0 : List Int} {v3 v4 w h : Int}
theorem tiles_len (ew : IntKind.i64.wrap (1 + Int.tmod v3 12) = w) (eh : IntKind.i64.wrap (1 + Int.tmod v4 12) = h) (hw : tin w 1 12 = true) (hh : tin h 1 12 = true) {list : List TBox} : (tilesOf w h list).length ≤ 9 := by
  unfold tilesOf
  have hb := tc_bd w h
  rw [List.length_map]
  exact Nat.le_trans (List.length_filter_le _ _) (by simp; omega)
theorem tiles_mem (ew : IntKind.i64.wrap (1 + Int.tmod v3 12) = w) (eh : IntKind.i64.wrap (1 + Int.tmod v4 12) = h) (hw : tin w 1 12 = true) (hh : tin h 1 12 = true) {list : List TBox} {i : Nat} (hi : (i : Int) < tileCount w h) : ((tilesOf w h list).any fun y => ieq y (i : Int)) = meets (tileBox w h (i : Int)) list := by
  unfold tilesOf
  rw [Bool.eq_iff_iff, List.any_eq_true]
  constructor
  · rintro ⟨y, hy, e⟩
    rw [ieq_t] at e
    subst e
    rw [List.mem_map] at hy
    obtain ⟨j, hj, e⟩ := hy
    have : j = i := by omega
    subst this
    exact (List.mem_filter.1 hj).2
  · intro hm
    refine ⟨(i : Int), ?_, by simp⟩
    rw [List.mem_map]
    exact ⟨i, List.mem_filter.2 ⟨List.mem_range.2 (by omega), hm⟩, rfl⟩
theorem tiles_up (ew : IntKind.i64.wrap (1 + Int.tmod v3 12) = w) (eh : IntKind.i64.wrap (1 + Int.tmod v4 12) = h) (hw : tin w 1 12 = true) (hh : tin h 1 12 = true) {list : List TBox} : (tilesOf w h list).Pairwise (· < ·) := by
  unfold tilesOf
  rw [List.pairwise_map]
  refine List.Pairwise.imp (R := (· < ·)) (fun h => by omega) ?_
  exact List.Pairwise.filter _ List.pairwise_lt_range
end

/-! ## Loops that ask the same of all -/
theorem loopI_all {f : Int → Option (Int ⊕ (Unit ⊕ Unit))} (n : Nat) (p : Nat → Bool) (hn : n ≤ 9223372036854775807)
    (hs : ∀ i : Nat, i < n → f (i : Int) = cnd (p i) (some (.inl (IntKind.i64.wrap ((i : Int) + 1)))) (some (.inr (.inr ())))) (he : f (n : Int) = some (.inr (.inl ()))) :
    loopI f 0 = some (if (List.range n).all p then .inl () else .inr ()) := by
  have h := loopI_find (f := f) (fun i : Nat => (i : Int)) n (fun i => !(p i)) (fun _ => .inr ()) (r := .inl ()) (fun i hi => by
    rw [hs i hi, wr_in (by omega)]
    cases p i <;> simp) he
  have e : loopI f 0 = loopI f ((0 : Nat) : Int) := rfl
  rw [e, h]
  congr 1
  cases hq : (List.range n).find? (fun i => !(p i)) with
  | none =>
    rw [List.find?_eq_none] at hq
    have : (List.range n).all p = true := List.all_eq_true.2 fun x hx => by simpa using hq x hx
    rw [this]; rfl
  | some i =>
    have h1 := List.find?_some hq
    have h2 := List.mem_of_find?_eq_some hq
    have : (List.range n).all p = false := by
      rw [List.all_eq_false]; exact ⟨i, h2, by simpa using h1⟩
    rw [this]; rfl
theorem range_all {α : Type} {l : List α} {q : α → Bool} {p : Nat → Bool} (h : ∀ i (hi : i < l.length), p i = q l[i]) : (List.range l.length).all p = l.all q := by
  rw [Bool.eq_iff_iff, List.all_eq_true, List.all_eq_true]
  constructor
  · intro k x hx
    obtain ⟨i, hi, rfl⟩ := List.getElem_of_mem hx
    rw [← h i hi]; exact k i (List.mem_range.2 hi)
  · intro k i hi
    have hi := List.mem_range.1 hi
    rw [h i hi]; exact k _ (List.getElem_mem hi)
/-- Of a row, each element asked the same. -/
theorem loopI_row {α : Type} {l : List α} {f : Int → Option (Int ⊕ (Unit ⊕ Unit))} (q : α → Bool) (hn : l.length ≤ 9223372036854775807)
    (hs : ∀ (i : Nat) (h : i < l.length), f (i : Int) = cnd (q l[i]) (some (.inl (IntKind.i64.wrap ((i : Int) + 1)))) (some (.inr (.inr ())))) (he : f (l.length : Int) = some (.inr (.inl ()))) :
    loopI f 0 = some (if l.all q then .inl () else .inr ()) := by
  have h := loopI_all (f := f) l.length (fun i => if h : i < l.length then q l[i] else false) hn (fun i hi => by rw [hs i hi]; simp [hi]) he
  rw [h, range_all (q := q) (fun i hi => by simp [hi])]

/-! ## Masks -/
def TBox.isZero (b : TBox) : Bool := decide (b.x0 = 0) && (decide (b.y0 = 0) && (decide (b.x1 = 0) && (decide (b.y1 = 0))))
def maskBox (b : TBox) : Bool := !b.empty && tin b.x0 (-2000) 2000 && tin b.y0 (-2000) 2000 && tin b.x1 (-2000) 2000 && tin b.y1 (-2000) 2000 && ile (b.x1 - b.x0) 60 && ile (b.y1 - b.y0) 60
def maskOk (m : TMask) : Bool := if m.bits.length = 0 then m.box.isZero else maskBox m.box && decide ((m.bits.length : Int) = (m.box.x1 - m.box.x0) * (m.box.y1 - m.box.y0)) && m.bits.all fun x => tin x 0 15
theorem empty_f {b : TBox} : b.empty = false ↔ b.x0 < b.x1 ∧ b.y0 < b.y1 := by simp [TBox.empty, ile_f]
theorem mb_facts {b : TBox} (h : maskBox b = true) : b.x0 < b.x1 ∧ b.y0 < b.y1 ∧ -2000 ≤ b.x0 ∧ b.x1 ≤ 2000 ∧ -2000 ≤ b.y0 ∧ b.y1 ≤ 2000 ∧ b.x1 - b.x0 ≤ 60 ∧ b.y1 - b.y0 ≤ 60 := by
  simp only [maskBox, Bool.and_eq_true, Bool.not_eq_true', empty_f, tin_t, ile_t] at h
  omega
theorem m_spec_l11Box (b : TBox) : spec_l11Box b = some (maskBox b) := by
  unfold spec_l11Box maskBox
  simp only [m_spec_Empty, m_spec_l01In, bnd_some]
  cases h0 : b.empty <;> simp only [cnd_true, cnd_false, Bool.not_true, Bool.not_false, Bool.false_and, Bool.true_and]
  cases h1 : tin b.x0 (-2000) 2000 <;> simp only [cnd_true, cnd_false, Bool.false_and, Bool.true_and]
  cases h2 : tin b.y0 (-2000) 2000 <;> simp only [cnd_true, cnd_false, Bool.false_and, Bool.true_and]
  cases h3 : tin b.x1 (-2000) 2000 <;> simp only [cnd_true, cnd_false, Bool.false_and, Bool.true_and]
  cases h4 : tin b.y1 (-2000) 2000 <;> simp only [cnd_true, cnd_false, Bool.false_and, Bool.true_and]
  rw [tin_t] at h1 h2 h3 h4
  rw [wr_in (by omega), wr_in (by omega)]
  cases h5 : ile (b.x1 - b.x0) 60 <;> simp
theorem m_impl_isMaskBox (b : TBox) : impl_isMaskBox b = some (maskBox b) := by
  unfold impl_isMaskBox maskBox
  simp only [m_impl_Empty, bnd_some]
  cases h0 : b.empty <;> simp only [cnd_true, cnd_false, Bool.not_true, Bool.not_false, Bool.false_and, Bool.true_and]
  rw [empty_f] at h0
  cases h1 : ile (-2000) b.x0 <;> simp only [cnd_true, cnd_false]
  · rw [ile_f] at h1
    have : tin b.x0 (-2000) 2000 = false := by rw [← Bool.not_eq_true, tin_t]; omega
    simp [this]
  cases h2 : ile (-2000) b.y0 <;> simp only [cnd_true, cnd_false]
  · rw [ile_f] at h2
    have : tin b.y0 (-2000) 2000 = false := by rw [← Bool.not_eq_true, tin_t]; omega
    simp [this]
  cases h3 : ile b.x1 2000 <;> simp only [cnd_true, cnd_false]
  · rw [ile_f] at h3
    have : tin b.x1 (-2000) 2000 = false := by rw [← Bool.not_eq_true, tin_t]; omega
    simp [this]
  cases h4 : ile b.y1 2000 <;> simp only [cnd_true, cnd_false]
  · rw [ile_f] at h4
    have : tin b.y1 (-2000) 2000 = false := by rw [← Bool.not_eq_true, tin_t]; omega
    simp [this]
  rw [ile_t] at h1 h2 h3 h4
  have t1 : tin b.x0 (-2000) 2000 = true := by rw [tin_t]; omega
  have t2 : tin b.y0 (-2000) 2000 = true := by rw [tin_t]; omega
  have t3 : tin b.x1 (-2000) 2000 = true := by rw [tin_t]; omega
  have t4 : tin b.y1 (-2000) 2000 = true := by rw [tin_t]; omega
  rw [wr_in (by omega), wr_in (by omega)]
  cases h5 : ile (b.x1 - b.x0) 60 <;> simp [t1, t2, t3, t4]
theorem mb_prod {b : TBox} (h : maskBox b = true) : 0 < (b.x1 - b.x0) * (b.y1 - b.y0) ∧ (b.x1 - b.x0) * (b.y1 - b.y0) ≤ 3600 := by
  obtain ⟨h1, h2, _, _, _, _, h3, h4⟩ := mb_facts h
  refine ⟨Int.mul_pos (by omega) (by omega), ?_⟩
  calc (b.x1 - b.x0) * (b.y1 - b.y0) ≤ 60 * (b.y1 - b.y0) := Int.mul_le_mul_of_nonneg_right h3 (by omega)
    _ ≤ 60 * 60 := Int.mul_le_mul_of_nonneg_left h4 (by omega)
theorem mb_wrap {b : TBox} (h : maskBox b = true) : IntKind.i64.wrap (IntKind.i64.wrap (b.x1 - b.x0) * IntKind.i64.wrap (b.y1 - b.y0)) = (b.x1 - b.x0) * (b.y1 - b.y0) := by
  have := mb_facts h
  have := mb_prod h
  rw [wr_in (n := b.x1 - b.x0) (by omega), wr_in (n := b.y1 - b.y0) (by omega), wr_in (by omega)]
theorem zero_box {b : TBox} (h : b.isZero = true) : maskBox b = false := by
  simp only [TBox.isZero, Bool.and_eq_true, decide_eq_true_eq] at h
  have : b.empty = true := by rw [← Bool.not_eq_false, empty_f]; omega
  simp [maskBox, this]
theorem m_spec_MaskOk {m : TMask} (h : m.bits.length ≤ 9223372036854775807) : spec_MaskOk m = some (maskOk m) := by
  unfold spec_MaskOk maskOk
  by_cases h0 : m.bits.length = 0
  · rw [if_pos h0, h0]
    simp [ieq, andB, TBox.isZero]
  · rw [if_neg h0, iqf (by omega), cnd_false, m_spec_l11Box, bnd_some]
    cases h1 : maskBox m.box with
    | false => simp
    | true =>
      rw [cnd_true, mb_wrap h1]
      by_cases h2 : (m.bits.length : Int) = (m.box.x1 - m.box.x0) * (m.box.y1 - m.box.y0)
      · rw [h2, iqt, cnd_true, loopI_row (l := m.bits) (fun x => tin x 0 15) h (fun i hi => ?_) ?_]
        · cases m.bits.all (fun x => tin x 0 15) <;> simp
        · rw [spec_MaskOk_l0, ilt (by omega), cnd_true]
        · rw [spec_MaskOk_l0, ilf (by omega), cnd_false, idx_nat hi, bnd_some, m_spec_l01In, bnd_some]
      · rw [iqf h2, cnd_false]; simp [h2]
theorem m_impl_MaskOk {m : TMask} (h : m.bits.length ≤ 9223372036854775807) : impl_MaskOk m = some (maskOk m) := by
  unfold impl_MaskOk maskOk
  have e : andB (decide (m.box.x0 = 0)) (andB (decide (m.box.y0 = 0)) (andB (decide (m.box.x1 = 0)) (andB (decide (m.box.y1 = 0)) true))) = m.box.isZero := by simp [andB, TBox.isZero]
  rw [e]
  cases hz : m.box.isZero with
  | true =>
    rw [cnd_true]
    by_cases h0 : m.bits.length = 0
    · simp [h0, ieq]
    · simp [h0, zero_box hz, ieq]
  | false =>
    rw [cnd_false, m_impl_isMaskBox, bnd_some]
    cases h1 : maskBox m.box with
    | false => rw [cnd_false]; simp
    | true =>
      have := mb_prod h1
      rw [cnd_true, mb_wrap h1]
      by_cases h2 : (m.bits.length : Int) = (m.box.x1 - m.box.x0) * (m.box.y1 - m.box.y0)
      · rw [if_neg (by omega), h2, iqt, cnd_true, loopI_row (l := m.bits) (fun x => tin x 0 15) h (fun i hi => ?_) ?_]
        · cases m.bits.all (fun x => tin x 0 15) <;> simp
        · rw [impl_MaskOk_l0, ilt (by omega), cnd_true]
        · rw [impl_MaskOk_l0, ilf (by omega), cnd_false, idx_nat hi, bnd_some, m_impl_inRange, bnd_some]
      · rw [iqf h2, cnd_false]
        by_cases h0 : m.bits.length = 0
        · simp [h0]
        · simp [h0, h2]


/-! ## The first of a row that is asked for -/
def fst {α : Type} (q : α → Bool) (l : List α) : Int := match l.findIdx? q with | some i => (i : Int) | none => -1
theorem loopI_index {α ρ : Type} {l : List α} {f : Int → Option (Int ⊕ ρ)} (q : α → Bool) (a : ρ) (b : Int → ρ) (hn : l.length ≤ 9223372036854775807)
    (hs : ∀ (i : Nat) (h : i < l.length), f (i : Int) = cnd (q l[i]) (some (.inr (b (i : Int)))) (some (.inl (IntKind.i64.wrap ((i : Int) + 1))))) (he : f (l.length : Int) = some (.inr a)) :
    loopI f 0 = some (match l.findIdx? q with | some i => b (i : Int) | none => a) := by
  have h := loopI_find (f := f) (fun i : Nat => (i : Int)) l.length (fun i => match l[i]? with | some x => q x | none => false) (fun i => b (i : Int)) (r := a) (fun i hi => by
    rw [hs i hi, wr_in (by omega), List.getElem?_eq_getElem hi]
    cases h : q l[i] <;> simp [h]) he
  have e : loopI f 0 = loopI f ((0 : Nat) : Int) := rfl
  rw [e, h]
  have : (List.range l.length).find? (fun i => match l[i]? with | some x => q x | none => false) = l.findIdx? q := by
    cases hq : l.findIdx? q with
    | none =>
      rw [List.findIdx?_eq_none_iff] at hq
      rw [List.find?_eq_none]
      intro i hi
      have hi := List.mem_range.1 hi
      rw [List.getElem?_eq_getElem hi]
      simp [hq _ (List.getElem_mem hi)]
    | some i =>
      rw [List.findIdx?_eq_some_iff_getElem] at hq
      obtain ⟨h1, h2, h3⟩ := hq
      rw [List.find?_range_eq_some]
      refine ⟨by rw [List.getElem?_eq_getElem h1]; exact h2, by simpa using h1, fun j hj => ?_⟩
      have := h3 j hj
      rw [List.getElem?_eq_getElem (by omega)]
      simpa using this
  rw [this]
  cases l.findIdx? q <;> rfl
theorem fst_eq {α : Type} {q : α → Bool} {l : List α} {i : Nat} (hi : i < l.length) (hq : q l[i] = true) : fst q l = (i : Int) ↔ ∀ k (hk : k < i), q l[k] = false := by
  unfold fst
  cases h : l.findIdx? q with
  | none =>
    rw [List.findIdx?_eq_none_iff] at h
    have := h _ (List.getElem_mem hi)
    rw [hq] at this; cases this
  | some j =>
    rw [List.findIdx?_eq_some_iff_getElem] at h
    obtain ⟨h1, h2, h3⟩ := h
    show (j : Int) = (i : Int) ↔ _
    constructor
    · intro e k hk
      have : j = i := by omega
      have := h3 k (by omega)
      simpa using this
    · intro e
      have : ¬ j < i := fun hj => by have := e j hj; rw [h2] at this; cases this
      have : ¬ i < j := fun hj => h3 i hj hq
      show (j : Int) = i
      omega

/-! ## Caches -/
def firstId (l : List TKept) (id : Int) : Int := fst (fun k => ieq k.id id) l
theorem m_keptAt {c : TCache} {id : Int} (h : c.list.length ≤ 9223372036854775807) : impl_Cache_keptAt c id = some (firstId c.list id) := by
  unfold impl_Cache_keptAt slices_IndexFunc_Kept
  rw [loopI_index (l := c.list) (fun k => ieq k.id id) (.inl ()) .inr h (fun i hi => ?_) ?_]
  · unfold firstId fst
    cases List.findIdx? (fun k : TKept => ieq k.id id) c.list <;> rfl
  · rw [slices_IndexFunc_Kept_l0, ilt (by omega), cnd_true]
  · rw [slices_IndexFunc_Kept_l0, ilf (by omega), cnd_false, idx_nat hi, bnd_some, impl_Cache_keptAt_1, bnd_some]
def keptOk (k : TKept) : Bool := tin k.id 1 99 && maskOk k.mask
def keptP (l : List TKept) (i : Nat) : Bool := match l[i]? with
  | some x => keptOk x && decide (firstId l x.id = (i : Int))
  | none => false
def cacheOk (c : TCache) : Bool := tin c.most 1 8 && ile (c.list.length : Int) c.most && (List.range c.list.length).all (keptP c.list)
def okRows (l : List TKept) : Prop := l.length ≤ 9223372036854775807 ∧ ∀ x ∈ l, x.mask.bits.length ≤ 9223372036854775807
theorem m_impl_CacheOk {c : TCache} (h : okRows c.list) : impl_CacheOk c = some (cacheOk c) := by
  unfold impl_CacheOk cacheOk
  rw [loopI_all c.list.length (keptP c.list) h.1 (fun i hi => ?_) ?_]
  · cases (List.range c.list.length).all (keptP c.list) <;> simp
    cases h1 : tin c.most 1 8 <;> simp
  · rw [impl_CacheOk_l0, ilt (by omega), cnd_true]
  · rw [impl_CacheOk_l0, ilf (by omega), cnd_false, idx_nat hi, bnd_some, m_impl_inRange, bnd_some]
    unfold keptP keptOk
    rw [List.getElem?_eq_getElem hi]
    dsimp only
    cases h1 : tin (c.list[i]).id 1 99 <;> simp only [cnd_true, cnd_false, Bool.false_and, Bool.true_and]
    rw [m_keptAt h.1, bnd_some]
    by_cases h2 : firstId c.list (c.list[i]).id = (i : Int)
    · rw [h2, iqt, cnd_true, m_impl_MaskOk (h.2 _ (List.getElem_mem hi)), bnd_some]; simp
    · rw [iqf h2, cnd_false]; simp [h2]
theorem kept_l0 {c : TCache} {i : Nat} (hi : i < c.list.length) (hn : c.list.length ≤ 9223372036854775807) :
    loopI (spec_CacheOk_l0 c (i : Int)) 0 = some (if decide (firstId c.list (c.list[i]).id = (i : Int)) then .inl () else .inr ()) := by
  have key := loopI_all (f := spec_CacheOk_l0 c (i : Int)) i (fun k => match c.list[k]? with | some y => !(ieq y.id (c.list[i]).id) | none => true) (by omega) (fun k hk => by
      rw [spec_CacheOk_l0, ilf (by omega), cnd_false, idx_nat (by omega), bnd_some, idx_nat hi, bnd_some, List.getElem?_eq_getElem (by omega)]
      dsimp only
      cases ieq (c.list[k]).id (c.list[i]).id <;> rfl) (by rw [spec_CacheOk_l0, ilt (by omega), cnd_true])
  have e : ((List.range i).all fun k => match c.list[k]? with | some y => !(ieq y.id (c.list[i]).id) | none => true) = decide (firstId c.list (c.list[i]).id = (i : Int)) := ?_
  · rw [key, e]
  rw [Bool.eq_iff_iff, List.all_eq_true, decide_eq_true_eq]
  unfold firstId
  rw [fst_eq hi (by simp [ieq])]
  constructor
  · intro h k hk
    have := h k (List.mem_range.2 hk)
    rw [List.getElem?_eq_getElem (by omega)] at this
    simpa using this
  · intro h k hk
    have hk := List.mem_range.1 hk
    rw [List.getElem?_eq_getElem (by omega)]
    simpa using h k hk
theorem m_spec_CacheOk {c : TCache} (h : okRows c.list) : spec_CacheOk c = some (cacheOk c) := by
  unfold spec_CacheOk cacheOk
  rw [m_spec_l01In, bnd_some]
  cases h1 : tin c.most 1 8 <;> simp only [cnd_true, cnd_false, Bool.false_and, Bool.true_and]
  cases h2 : ile (c.list.length : Int) c.most <;> simp only [cnd_true, cnd_false, Bool.false_and, Bool.true_and]
  rw [loopI_all c.list.length (keptP c.list) h.1 (fun i hi => ?_) ?_]
  · cases (List.range c.list.length).all (keptP c.list) <;> simp
  · rw [spec_CacheOk_l1, ilt (by omega), cnd_true]
  · rw [spec_CacheOk_l1, ilf (by omega), cnd_false, idx_nat hi, bnd_some, m_spec_l01In, bnd_some]
    unfold keptP keptOk
    rw [List.getElem?_eq_getElem hi]
    dsimp only
    cases h1 : tin (c.list[i]).id 1 99 <;> simp only [cnd_true, cnd_false, Bool.false_and, Bool.true_and]
    rw [m_spec_MaskOk (h.2 _ (List.getElem_mem hi)), bnd_some]
    cases h3 : maskOk (c.list[i]).mask <;> simp only [cnd_true, cnd_false, Bool.false_and, Bool.true_and]
    rw [kept_l0 hi h.1]
    cases decide (firstId c.list (c.list[i]).id = (i : Int)) <;> rfl
theorem rows_gd {c : TCache} (h : gd_Cache c) : okRows c.list := by
  refine ⟨by have := h.1; omega, fun x hx => ?_⟩
  have h1 : gd_Kept x := h.2 x hx
  have h2 : gd_Mask x.mask := h1
  have h3 : gdL tt x.mask.bits := h2
  have := h3.1; omega
theorem m_FnExactCacheOk {c : TCache} (h : ok_Cache c) : laws_FnExactCacheOk c = some true := by
  obtain ⟨v, e, _, _, g⟩ := f_laws_szCache h (left := 1048576) (by omega) (by omega)
  unfold laws_FnExactCacheOk
  rw [e, bnd_some]
  by_cases hv : 0 ≤ v
  · have hg := g hv
    rw [ilt hv, cnd_true, f_laws_toCache hg, bnd_some, m_spec_CacheOk (rows_gd hg), bnd_some, m_impl_CacheOk (rows_gd hg), bnd_some, f_laws_eqCache hg]
    simp [andB]
  · rw [ilf (by omega), cnd_false]

end Go.Proofs.Ytoafihhhdnmliaa.Am
