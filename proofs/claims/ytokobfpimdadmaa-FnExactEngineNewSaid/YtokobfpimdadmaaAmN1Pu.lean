import Derived.Test.YtokobfpimdadmaaAmN1Mo
import Derived.Test.YtokobfpimdadmaaAmRo
import Derived.Test.YtokobfpimdadmaaAmLw
set_option linter.unusedVariables false
set_option linter.unusedSimpArgs false
set_option linter.unusedSectionVars false
namespace Go.Proofs.Ytokobfpimdadmaa.Am
open Go Go.Proofs
end Go.Proofs.Ytokobfpimdadmaa.Am
namespace Go.Proofs.Ytokobfpimdadmaa.Am
open Go Go.Proofs
set_option linter.unusedVariables false
set_option linter.unusedSimpArgs false
theorem f_laws_eqMat {a : TMat} : laws_eqMat a a = some true := by
  unfold laws_eqMat
  simp only [bnd_some, cnd_true, iqt, andB, decide_true, Bool.and_self, Bool.and_true]
theorem f_laws_eqIntS {a : List Int} (hg : (gdL tt) a) : laws_eqIntS a a = some true := by
  unfold laws_eqIntS
  have h := eq_loop (f := laws_eqIntS_l0 a a) (eqE := (fun x y => some (ieq x y))) (fun _ _ => by simp [ieq, sq']) (fun _ => rfl) hg.1
  rw [iqt, cnd_true, h]; rfl
theorem f_laws_eqPoint {a : TPoint} : laws_eqPoint a a = some true := by
  unfold laws_eqPoint
  simp only [bnd_some, cnd_true, iqt, andB, decide_true, Bool.and_self, Bool.and_true]
theorem f_laws_eqPointS {a : List TPoint} (hg : (gdL tt) a) : laws_eqPointS a a = some true := by
  unfold laws_eqPointS
  have h := eq_loop (f := laws_eqPointS_l0 a a) (eqE := laws_eqPoint) (fun x hx => f_laws_eqPoint ) (fun _ => rfl) hg.1
  rw [iqt, cnd_true, h]; rfl
def gd_Path (x : TPath) : Prop := (gdL tt) x.verbs ∧ (gdL tt) x.points
theorem f_laws_eqPath {a : TPath} (hg : gd_Path a) : laws_eqPath a a = some true := by
  obtain ⟨h0, h1⟩ := hg
  unfold laws_eqPath
  simp only [bnd_some, cnd_true, iqt, andB, decide_true, Bool.and_self, Bool.and_true, f_laws_eqIntS h0, f_laws_eqPointS h1]
theorem f_laws_eqColor {a : TColor} : laws_eqColor a a = some true := by
  unfold laws_eqColor
  simp only [bnd_some, cnd_true, iqt, andB, decide_true, Bool.and_self, Bool.and_true]
theorem f_laws_eqPaint {a : TPaint} : laws_eqPaint a a = some true := by
  unfold laws_eqPaint
  simp only [bnd_some, cnd_true, iqt, andB, decide_true, Bool.and_self, Bool.and_true, f_laws_eqColor, f_laws_eqPoint]
def gd_Node (x : TNode) : Prop := gd_Path x.path ∧ (gdL tt) x.dashes ∧ gd_Path x.clip
theorem f_laws_eqNode {a : TNode} (hg : gd_Node a) : laws_eqNode a a = some true := by
  obtain ⟨h0, h1, h2⟩ := hg
  unfold laws_eqNode
  simp only [bnd_some, cnd_true, iqt, andB, decide_true, Bool.and_self, Bool.and_true, f_laws_eqMat, f_laws_eqPath h0, f_laws_eqPath h2, f_laws_eqIntS h1, f_laws_eqPaint]
theorem f_laws_eqNodeS {a : List TNode} (hg : (gdL gd_Node) a) : laws_eqNodeS a a = some true := by
  unfold laws_eqNodeS
  have h := eq_loop (f := laws_eqNodeS_l0 a a) (eqE := laws_eqNode) (fun x hx => f_laws_eqNode (hg.2 x hx)) (fun _ => rfl) hg.1
  rw [iqt, cnd_true, h]; rfl
def gd_Scene (x : TScene) : Prop := (gdL gd_Node) x.nodes
theorem f_laws_eqScene {a : TScene} (hg : gd_Scene a) : laws_eqScene a a = some true := by
  have h0 := hg
  unfold laws_eqScene
  simp only [bnd_some, cnd_true, iqt, andB, decide_true, Bool.and_self, Bool.and_true, f_laws_eqNodeS h0]
theorem f_laws_eqColorS {a : List TColor} (hg : (gdL tt) a) : laws_eqColorS a a = some true := by
  unfold laws_eqColorS
  have h := eq_loop (f := laws_eqColorS_l0 a a) (eqE := laws_eqColor) (fun x hx => f_laws_eqColor ) (fun _ => rfl) hg.1
  rw [iqt, cnd_true, h]; rfl
def gd_Surface (x : TSurface) : Prop := (gdL tt) x.pix
theorem f_laws_eqSurface {a : TSurface} (hg : gd_Surface a) : laws_eqSurface a a = some true := by
  have h0 := hg
  unfold laws_eqSurface
  simp only [bnd_some, cnd_true, iqt, andB, decide_true, Bool.and_self, Bool.and_true, f_laws_eqColorS h0]
theorem f_laws_eqBox {a : TBox} : laws_eqBox a a = some true := by
  unfold laws_eqBox
  simp only [bnd_some, cnd_true, iqt, andB, decide_true, Bool.and_self, Bool.and_true]
theorem f_laws_eqBoxS {a : List TBox} (hg : (gdL tt) a) : laws_eqBoxS a a = some true := by
  unfold laws_eqBoxS
  have h := eq_loop (f := laws_eqBoxS_l0 a a) (eqE := laws_eqBox) (fun x hx => f_laws_eqBox ) (fun _ => rfl) hg.1
  rw [iqt, cnd_true, h]; rfl
def gd_Mask (x : TMask) : Prop := (gdL tt) x.bits
theorem f_laws_eqMask {a : TMask} (hg : gd_Mask a) : laws_eqMask a a = some true := by
  have h0 := hg
  unfold laws_eqMask
  simp only [bnd_some, cnd_true, iqt, andB, decide_true, Bool.and_self, Bool.and_true, f_laws_eqBox, f_laws_eqIntS h0]
def gd_Kept (x : TKept) : Prop := gd_Mask x.mask
theorem f_laws_eqKept {a : TKept} (hg : gd_Kept a) : laws_eqKept a a = some true := by
  have h0 := hg
  unfold laws_eqKept
  simp only [bnd_some, cnd_true, iqt, andB, decide_true, Bool.and_self, Bool.and_true, f_laws_eqMask h0]
theorem f_laws_eqKeptS {a : List TKept} (hg : (gdL gd_Kept) a) : laws_eqKeptS a a = some true := by
  unfold laws_eqKeptS
  have h := eq_loop (f := laws_eqKeptS_l0 a a) (eqE := laws_eqKept) (fun x hx => f_laws_eqKept (hg.2 x hx)) (fun _ => rfl) hg.1
  rw [iqt, cnd_true, h]; rfl
def gd_Cache (x : TCache) : Prop := (gdL gd_Kept) x.list
theorem f_laws_eqCache {a : TCache} (hg : gd_Cache a) : laws_eqCache a a = some true := by
  have h0 := hg
  unfold laws_eqCache
  simp only [bnd_some, cnd_true, iqt, andB, decide_true, Bool.and_self, Bool.and_true, f_laws_eqKeptS h0]
def gd_Engine (x : TEngine) : Prop := gd_Scene x.scene ∧ gd_Surface x.frame ∧ (gdL tt) x.dirty ∧ (gdL tt) x.stamps ∧ gd_Cache x.cache
theorem f_laws_eqEngine {a : TEngine} (hg : gd_Engine a) : laws_eqEngine a a = some true := by
  obtain ⟨h0, h1, h2, h3, h4⟩ := hg
  unfold laws_eqEngine
  simp only [bnd_some, cnd_true, iqt, andB, decide_true, Bool.and_self, Bool.and_true, f_laws_eqScene h0, f_laws_eqSurface h1, f_laws_eqBoxS h2, f_laws_eqIntS h3, f_laws_eqCache h4]
end Go.Proofs.Ytokobfpimdadmaa.Am
namespace Go.Proofs.Ytokobfpimdadmaa.Am
open Go Go.Proofs
set_option linter.unusedSimpArgs false
set_option linter.unusedVariables false
set_option maxRecDepth 100000
/-! ## Small words -/
def tin (x a b : Int) : Bool := ile a x && ile x b
theorem tin_t {x a b : Int} : tin x a b = true ↔ a ≤ x ∧ x ≤ b := by simp [tin, ile_t]
@[simp] theorem m_spec_l01In (x a b : Int) : spec_l01In x a b = some (tin x a b) := by
  unfold spec_l01In tin; cases ile a x <;> simp
@[simp] theorem m_impl_inRange (x a b : Int) : impl_inRange x a b = some (tin x a b) := by
  unfold impl_inRange tin; cases ile a x <;> simp
@[simp] theorem m_impl_isSide (x : Int) : impl_isSide x = some (tin x 1 12) := by unfold impl_isSide; simp
def tileCount (w h : Int) : Int := if tin w 1 12 && tin h 1 12 then ((w + 3) / 4) * ((h + 3) / 4) else 0
theorem four {w : Int} (h : tin w 1 12 = true) : (w + 3) / 4 = 1 ∨ (w + 3) / 4 = 2 ∨ (w + 3) / 4 = 3 := by rw [tin_t] at h; omega
theorem wr9 {w h : Int} (hw : tin w 1 12 = true) (hh : tin h 1 12 = true) : IntKind.i64.wrap ((w + 3) / 4 * ((h + 3) / 4)) = (w + 3) / 4 * ((h + 3) / 4) := by
  refine wr_in ?_
  rcases four hw with e | e | e <;> rcases four hh with f | f | f <;> rw [e, f] <;> decide
theorem up4 {w : Int} (h : tin w 1 12 = true) : IntKind.i64.wrap ((IntKind.i64.wrap (w + 3)).tdiv 4) = (w + 3) / 4 := by
  rw [tin_t] at h
  rw [wr_in (n := w + 3) (by omega), Int.tdiv_eq_ediv_of_nonneg (by omega), wr_in (by omega)]
theorem m_along {x : Int} (h : tin x 1 12 = true) : impl_tilesAlong x = some ((x + 3) / 4) := by
  rw [tin_t] at h
  unfold impl_tilesAlong
  rw [wr_in (n := x + 4) (by omega), wr_in (n := x + 4 - 1) (by omega), Int.tdiv_eq_ediv_of_nonneg (by omega), wr_in (by omega)]
  congr 1; omega
@[simp] theorem m_impl_TileCount (w h : Int) : impl_TileCount w h = some (tileCount w h) := by
  unfold impl_TileCount tileCount
  cases hw : tin w 1 12 <;> cases hh : tin h 1 12 <;> simp [m_along, wr9, *]
@[simp] theorem m_spec_TileCount (w h : Int) : spec_TileCount w h = some (tileCount w h) := by
  unfold spec_TileCount tileCount
  cases hw : tin w 1 12 <;> cases hh : tin h 1 12 <;> simp [up4, wr9, *]

def TBox.empty (b : TBox) : Bool := ile b.x1 b.x0 || ile b.y1 b.y0
def TBox.zero : TBox := ⟨0, 0, 0, 0⟩
def meet (a b : TBox) : TBox :=
  let c : TBox := ⟨max a.x0 b.x0, max a.y0 b.y0, min a.x1 b.x1, min a.y1 b.y1⟩
  if c.empty then .zero else c
def inBox (b : TBox) (p : TPoint) : Bool := decide (b.x0 ≤ p.x ∧ p.x < b.x1 ∧ b.y0 ≤ p.y ∧ p.y < b.y1)
def tileBox (w h i : Int) : TBox :=
  if tin i 0 (tileCount w h - 1) then
    let x := i % ((w + 3) / 4) * 4
    let y := i / ((w + 3) / 4) * 4
    meet ⟨x, y, x + 4, y + 4⟩ ⟨0, 0, w, h⟩
  else .zero
theorem tc_bd (w h : Int) : 0 ≤ tileCount w h ∧ tileCount w h ≤ 9 := by
  unfold tileCount
  cases hw : tin w 1 12 <;> cases hh : tin h 1 12 <;> simp
  rcases four hw with e | e | e <;> rcases four hh with f | f | f <;> rw [e, f] <;> decide
@[simp] theorem tc_wrap (w h : Int) : IntKind.i64.wrap (tileCount w h - 1) = tileCount w h - 1 := by
  have := tc_bd w h
  exact wr_in (by omega)
theorem tb_facts {w h i : Int} (hi : tin i 0 (tileCount w h - 1) = true) : tin w 1 12 = true ∧ 0 ≤ i ∧ i ≤ 8 := by
  have := tc_bd w h
  rw [tin_t] at hi
  refine ⟨?_, by omega, by omega⟩
  cases hw : tin w 1 12 with
  | true => rfl
  | false =>
    have : tileCount w h = 0 := by simp [tileCount, hw]
    omega
theorem tb_x {r i : Int} (hr : r = 1 ∨ r = 2 ∨ r = 3) (h0 : 0 ≤ i) (h1 : i ≤ 8) : IntKind.i64.wrap (i.tmod r * 4) = i % r * 4 ∧ IntKind.i64.wrap (i % r * 4 + 4) = i % r * 4 + 4 ∧
    IntKind.i64.wrap (IntKind.i64.wrap (i.tdiv r) * 4) = i / r * 4 ∧ IntKind.i64.wrap (i / r * 4 + 4) = i / r * 4 + 4 := by
  rw [Int.tmod_eq_emod_of_nonneg h0, Int.tdiv_eq_ediv_of_nonneg h0]
  rcases hr with rfl | rfl | rfl
  · rw [wr_in (n := i / 1) (by omega)]; exact ⟨wr_in (by omega), wr_in (by omega), wr_in (by omega), wr_in (by omega)⟩
  · rw [wr_in (n := i / 2) (by omega)]; exact ⟨wr_in (by omega), wr_in (by omega), wr_in (by omega), wr_in (by omega)⟩
  · rw [wr_in (n := i / 3) (by omega)]; exact ⟨wr_in (by omega), wr_in (by omega), wr_in (by omega), wr_in (by omega)⟩
theorem four' {w : Int} (h : tin w 1 12 = true) : ¬ (w + 3) / 4 = 0 := by rcases four h with e | e | e <;> omega
/-! ## Draws -/
/-! ## Each square is in one tile -/
section
variable {a0 : List Int} {v3 v4 w h : Int}
end

/-! ## Loops that ask the same of all -/
/-! ## Masks -/
def TBox.isZero (b : TBox) : Bool := decide (b.x0 = 0) && (decide (b.y0 = 0) && (decide (b.x1 = 0) && (decide (b.y1 = 0))))
/-! ## The first of a row that is asked for -/
/-! ## Caches -/
/-! ## Surfaces -/
theorem wh_bd {w h : Int} (hw : tin w 1 12 = true) (hh : tin h 1 12 = true) : 1 ≤ w * h ∧ w * h ≤ 144 := by
  rw [tin_t] at hw hh
  refine ⟨?_, ?_⟩
  · calc (1 : Int) = 1 * 1 := rfl
      _ ≤ w * 1 := Int.mul_le_mul_of_nonneg_right hw.1 (by omega)
      _ ≤ w * h := Int.mul_le_mul_of_nonneg_left hh.1 (by omega)
  · calc w * h ≤ 12 * h := Int.mul_le_mul_of_nonneg_right hw.2 (by omega)
      _ ≤ 12 * 12 := Int.mul_le_mul_of_nonneg_left hh.2 (by omega)
/-! ## Loops from a number to another one -/
/-! ## Sparing -/
/-! ## Marks -/
def marked {α : Type} (mk : Int → α) (c k : Int) (n : Nat) : List α := (List.range n).map fun i : Nat => mk (k + c * (i : Int))
theorem marked_len {α : Type} {mk : Int → α} {c k : Int} {n : Nat} : (marked mk c k n).length = n := by simp [marked]
theorem cmul {c : Int} {i n : Nat} (hc : 0 ≤ c ∧ c ≤ 64) (hi : i ≤ n) (hn : n ≤ 1048576) : 0 ≤ c * (i : Int) ∧ c * (i : Int) ≤ 67108864 := by
  refine ⟨Int.mul_nonneg hc.1 (by omega), ?_⟩
  calc c * (i : Int) ≤ 64 * (i : Int) := Int.mul_le_mul_of_nonneg_right hc.2 (by omega)
    _ ≤ 67108864 := by omega
theorem csucc {c : Int} {i : Nat} : c * ((i + 1 : Nat) : Int) = c * (i : Int) + c := by
  rw [show ((i + 1 : Nat) : Int) = (i : Int) + 1 by omega, Int.mul_add, Int.mul_one]
theorem mark_loop {α : Type} (c : Int) (mk : Int → α) {f : Int × Int × List α → Option ((Int × Int × List α) ⊕ (List α × Int))} {a : List α} {k0 : Int} (hc : 0 ≤ c ∧ c ≤ 64) (h0 : 0 ≤ k0 ∧ k0 ≤ 1099511627776) (ha : a.length ≤ 1048576)
    (he : ∀ (k : Int) (l : List α), f (k, (l.length : Int), l) = some (.inr (l, k)))
    (hf : ∀ (k : Int) (i : Nat) (l : List α), i < l.length → l.length ≤ 1048576 → 0 ≤ k → k ≤ 4398046511104 → f (k, (i : Int), l) = some (.inl (k + c, ((i + 1 : Nat) : Int), l.set i (mk k)))) :
    loopI f (k0, 0, a) = some (marked mk c k0 a.length, k0 + c * (a.length : Int)) := by
  have key := loopI_n (f := f) (fun i => (k0 + c * (i : Int), (i : Int), marked mk c k0 i ++ a.drop i)) a.length (r := (marked mk c k0 a.length, k0 + c * (a.length : Int))) (fun i hi => ?_) ?_
  · have e : (k0 + c * ((0 : Nat) : Int), ((0 : Nat) : Int), marked mk c k0 0 ++ a.drop 0) = (k0, 0, a) := by simp [marked]
    rwa [e] at key
  · obtain ⟨b1, b2⟩ := cmul (n := a.length) hc (Nat.le_of_lt hi) ha
    have hl : (marked mk c k0 i ++ a.drop i).length = a.length := by simp [marked_len]; omega
    rw [hf _ i _ (by omega) (by omega) (by omega) (by omega)]
    have e1 : k0 + c * (i : Int) + c = k0 + c * ((i + 1 : Nat) : Int) := by rw [csucc]; omega
    have e2 : (marked mk c k0 i ++ a.drop i).set i (mk (k0 + c * (i : Int))) = marked mk c k0 (i + 1) ++ a.drop (i + 1) := by
      have h1 : a.drop i = a[i] :: a.drop (i + 1) := List.drop_eq_getElem_cons hi
      rw [List.set_append_right _ _ (by rw [marked_len]; omega), marked_len, Nat.sub_self, h1, List.set_cons_zero]
      unfold marked
      rw [List.range_succ, List.map_append, List.append_assoc]
      rfl
    rw [e1, e2]
  · have e : marked mk c k0 a.length ++ a.drop a.length = marked mk c k0 a.length := by simp
    try dsimp only
    rw [e]
    have := he (k0 + c * (a.length : Int)) (marked mk c k0 a.length)
    rwa [marked_len] at this
theorem held_loop {α : Type} (c : Int) (mk : Int → α) {f : Int × Int → Option ((Int × Int) ⊕ (Int ⊕ Unit))} {n : Nat} {k0 : Int} (hc : 0 ≤ c ∧ c ≤ 64) (h0 : 0 ≤ k0 ∧ k0 ≤ 1099511627776) (hn : n ≤ 1048576)
    (he : ∀ k : Int, f (k, (n : Int)) = some (.inr (.inl k)))
    (hf : ∀ (k : Int) (i : Nat) (x : α), (marked mk c k0 n)[i]? = some x → i < n → x = mk k → 0 ≤ k → k ≤ 4398046511104 → f (k, (i : Int)) = some (.inl (k + c, ((i + 1 : Nat) : Int)))) :
    loopI f (k0, 0) = some (.inl (k0 + c * (n : Int))) := by
  have key := loopI_n (f := f) (fun i => (k0 + c * (i : Int), (i : Int))) n (r := .inl (k0 + c * (n : Int))) (fun i hi => ?_) (he _)
  · have e : (k0 + c * ((0 : Nat) : Int), ((0 : Nat) : Int)) = (k0, (0 : Int)) := by simp
    rwa [e] at key
  · obtain ⟨b1, b2⟩ := cmul (n := n) hc (Nat.le_of_lt hi) hn
    rw [hf (k0 + c * (i : Int)) i (mk (k0 + c * (i : Int))) (by unfold marked; rw [List.getElem?_map, List.getElem?_range hi]; rfl) hi rfl (by omega) (by omega)]
    rw [csucc, Int.add_assoc]
theorem idx_set {α : Type} {l : List α} {i : Nat} {x : α} (h : i < l.length) : idx (l.set i x) (i : Int) = some x := by
  refine idx_some ?_
  rw [List.getElem?_set_self h]
theorem m_markIntS {k : Int} {l : List Int} (hk : 0 ≤ k ∧ k ≤ 1099511627776) (hl : l.length ≤ 1048576) : laws_markIntS k l = some (k + 1 * (l.length : Int), marked (fun k => k) 1 k l.length) := by
  unfold laws_markIntS
  rw [mark_loop (f := laws_markIntS_l0) 1 (fun k => k) (by omega) hk hl (fun k l => by rw [laws_markIntS_l0, ilt (by omega), cnd_true]) (fun k i l hi hl h0 h1 => by
    rw [laws_markIntS_l0, ilf (by omega), cnd_false, idx_nat hi, bnd_some, nam_eq, Int.toNat_natCast, wr_in (n := k + 1) (by omega), wr_in (by omega)]; rfl)]
  rfl
theorem m_heldIntS {k : Int} {n : Nat} (hk : 0 ≤ k ∧ k ≤ 1099511627776) (hl : n ≤ 1048576) : laws_heldIntS (marked (fun k => k) 1 k n) k = some (k + 1 * (n : Int)) := by
  unfold laws_heldIntS
  rw [held_loop (f := laws_heldIntS_l0 (marked (fun k => k) 1 k n)) 1 (fun k => k) (n := n) (by omega) hk hl (fun k => by rw [laws_heldIntS_l0, marked_len, ilt (by omega), cnd_true]) (fun k i x hx hi he h0 h1 => by
    rw [laws_heldIntS_l0, marked_len, ilf (by omega), cnd_false, idx_some hx, bnd_some, he, iqt, cnd_true, wr_in (n := k + 1) (by omega), wr_in (by omega)]; rfl)]
  rfl
theorem m_markColorS {k : Int} {l : List TColor} (hk : 0 ≤ k ∧ k ≤ 1099511627776) (hl : l.length ≤ 1048576) : laws_markColorS k l = some (k + 4 * (l.length : Int), marked (fun k => ⟨k, k + 1, k + 1 + 1, k + 1 + 1 + 1⟩) 4 k l.length) := by
  unfold laws_markColorS
  rw [mark_loop (f := laws_markColorS_l0) 4 (fun k => (⟨k, k + 1, k + 1 + 1, k + 1 + 1 + 1⟩ : TColor)) (by omega) hk hl (fun k l => by rw [laws_markColorS_l0, ilt (by omega), cnd_true]) (fun k i l hi hl h0 h1 => by
    rw [laws_markColorS_l0, ilf (by omega), cnd_false, idx_nat hi, bnd_some, wr_in (n := k + 1) (by omega), wr_in (n := k + 1 + 1) (by omega), wr_in (n := k + 1 + 1 + 1) (by omega), wr_in (n := k + 1 + 1 + 1 + 1) (by omega), wr_in (n := (i : Int) + 1) (by omega)]
    simp only [nam_eq, Int.toNat_natCast]
    rw [idx_set hi, bnd_some, List.set_set, idx_set hi, bnd_some, List.set_set, idx_set hi, bnd_some, List.set_set]
    congr 2
    · congr 1; omega)]
  rfl
theorem m_heldColorS {k : Int} {n : Nat} (hk : 0 ≤ k ∧ k ≤ 1099511627776) (hl : n ≤ 1048576) : laws_heldColorS (marked (fun k => ⟨k, k + 1, k + 1 + 1, k + 1 + 1 + 1⟩) 4 k n) k = some (k + 4 * (n : Int)) := by
  unfold laws_heldColorS
  rw [held_loop (f := laws_heldColorS_l0 (marked (fun k => ⟨k, k + 1, k + 1 + 1, k + 1 + 1 + 1⟩) 4 k n)) 4 (fun k => (⟨k, k + 1, k + 1 + 1, k + 1 + 1 + 1⟩ : TColor)) (n := n) (by omega) hk hl (fun k => by rw [laws_heldColorS_l0, marked_len, ilt (by omega), cnd_true]) (fun k i x hx hi he h0 h1 => by
    rw [laws_heldColorS_l0, marked_len, ilf (by omega), cnd_false, idx_some hx, bnd_some, he, wr_in (n := k + 1) (by omega), wr_in (n := k + 1 + 1) (by omega), wr_in (n := k + 1 + 1 + 1) (by omega), wr_in (n := k + 1 + 1 + 1 + 1) (by omega), wr_in (n := (i : Int) + 1) (by omega)]
    simp only [iqt, cnd_true]
    congr 2
    · congr 1; omega)]
  rfl

/-! ## TilesOf -/
/-! ## Painting a part of a surface -/
section
variable {α : Type}
end

/-! ## Colours: the program's words are the reference's -/
/-! ## LayOver -/
theorem m_markSurface {w h k : Int} {l : List TColor} (hk : 0 ≤ k ∧ k ≤ 1099511627776) (hl : l.length ≤ 1048576) : laws_markSurface w h k l = some (k + 4 * (l.length : Int), marked (fun k => ⟨k, k + 1, k + 1 + 1, k + 1 + 1 + 1⟩) 4 k l.length) := by
  unfold laws_markSurface; rw [m_markColorS hk hl]; rfl
theorem m_heldSurface {w h k : Int} {n : Nat} (hk : 0 ≤ k ∧ k ≤ 1099511627776) (hl : n ≤ 1048576) : laws_heldSurface ⟨w, h, marked (fun k => ⟨k, k + 1, k + 1 + 1, k + 1 + 1 + 1⟩) 4 k n⟩ k = some (k + 4 * (n : Int)) := by
  unfold laws_heldSurface; dsimp only; rw [m_heldColorS hk hl, bnd_some, ilt (by omega), cnd_true]
/-! ## Paints -/
instance decCol : DecidableEq TColor := fun a b => decidable_of_iff (a.r = b.r ∧ a.g = b.g ∧ a.b = b.b ∧ a.a = b.a) (by cases a; cases b; simp)
instance decPt : DecidableEq TPoint := fun a b => decidable_of_iff (a.x = b.x ∧ a.y = b.y) (by cases a; cases b; simp)
/-! ## PaintMask -/
/-! ## What blending yields -/
/-! ## Draws: each is told -/
/-! ## Lines and masks of drawn paths: each is told -/
/-! ## Masks of lines -/
/-! ## FnLayers -/
/-! ## FnPaintsOn -/
/-! ## Scenes: the program's word is the reference's -/
/-! ## EngineOk -/
/-! ## EngineNew -/
def pixOf (w h : Int) : List TColor := List.replicate (Int.toNat (w * h)) ⟨0, 0, 0, 0⟩
theorem pixOf_len {w h : Int} (hw : tin w 1 12 = true) (hh : tin h 1 12 = true) : (pixOf w h).length ≤ 144 := by
  have := wh_bd hw hh
  unfold pixOf; rw [List.length_replicate]; omega
theorem e_impl_SurfaceNew {w h : Int} (hw : tin w 1 12 = true) (hh : tin h 1 12 = true) : impl_SurfaceNew w h = some (w, h, true, pixOf w h) := by
  have := wh_bd hw hh
  unfold impl_SurfaceNew
  rw [m_impl_isSide, bnd_some, hw, cnd_true, m_impl_isSide, bnd_some, hh, cnd_true, wr_in (by omega), chkP_pos (by omega), nam_eq]; rfl
theorem e_impl_SurfaceNew0 {w h : Int} (hh : (tin w 1 12 && tin h 1 12) = false) : impl_SurfaceNew w h = some (0, 0, false, []) := by
  unfold impl_SurfaceNew
  rw [m_impl_isSide, bnd_some, m_impl_isSide, bnd_some]
  revert hh
  cases tin w 1 12 <;> cases tin h 1 12 <;> simp
theorem e_spec_SurfaceNew {w h : Int} (hw : tin w 1 12 = true) (hh : tin h 1 12 = true) : spec_SurfaceNew w h = some (⟨w, h, pixOf w h⟩, true) := by
  have := wh_bd hw hh
  unfold spec_SurfaceNew
  rw [m_spec_l01In, bnd_some, hw, cnd_true, m_spec_l01In, bnd_some, hh, cnd_true, wr_in (by omega), chkP_pos (by omega), nam_eq]; rfl
theorem e_spec_SurfaceNew0 {w h : Int} (hh : (tin w 1 12 && tin h 1 12) = false) : spec_SurfaceNew w h = some (⟨0, 0, []⟩, false) := by
  unfold spec_SurfaceNew
  rw [m_spec_l01In, bnd_some, m_spec_l01In, bnd_some]
  revert hh
  cases tin w 1 12 <;> cases tin h 1 12 <;> simp
theorem e_mark_nil (k : Int) : laws_markNodeS k = some k ∧ laws_markBoxS k = some k ∧ laws_markKeptS k = some k := by
  refine ⟨?_, ?_, ?_⟩
  · unfold laws_markNodeS
    rw [loopI_end (f := laws_markNodeS_l0 k) (r := ()) (by rfl)]; rfl
  · unfold laws_markBoxS
    rw [loopI_end (f := laws_markBoxS_l0 k) (r := ()) (by rfl)]; rfl
  · unfold laws_markKeptS
    rw [loopI_end (f := laws_markKeptS_l0 k) (r := ()) (by rfl)]; rfl
theorem e_held_nil (k : Int) : laws_heldNodeS [] k = some k ∧ laws_heldBoxS [] k = some k ∧ laws_heldKeptS [] k = some k := by
  refine ⟨?_, ?_, ?_⟩
  · unfold laws_heldNodeS
    rw [loopI_end (f := laws_heldNodeS_l0 []) (r := .inl k) (by rw [laws_heldNodeS_l0, ilt (by simp), cnd_true])]; rfl
  · unfold laws_heldBoxS
    rw [loopI_end (f := laws_heldBoxS_l0 []) (r := .inl k) (by rw [laws_heldBoxS_l0, ilt (by simp), cnd_true])]; rfl
  · unfold laws_heldKeptS
    rw [loopI_end (f := laws_heldKeptS_l0 []) (r := .inl k) (by rw [laws_heldKeptS_l0, ilt (by simp), cnd_true])]; rfl
theorem e_EngineNew (w h : Int) : ∃ x y ps ss b p, spec_EngineNew w h = some (⟨⟨[]⟩, ⟨x, y, ps⟩, [], ss, ⟨p, []⟩, 0⟩, b) ∧ impl_EngineNew w h = some (x, y, p, 0, b, ps, ss) ∧ ps.length ≤ 144 ∧ ss.length ≤ 9 := by
  unfold spec_EngineNew impl_EngineNew
  cases hw : (tin w 1 12 && tin h 1 12)
  · rw [e_spec_SurfaceNew0 hw, e_impl_SurfaceNew0 hw]
    exact ⟨0, 0, [], [], false, 0, rfl, rfl, by simp, by simp⟩
  · simp only [Bool.and_eq_true] at hw
    have hb := tc_bd w h
    rw [e_spec_SurfaceNew hw.1 hw.2, e_impl_SurfaceNew hw.1 hw.2]
    simp only [bnd_some, cnd_true, m_spec_TileCount, m_impl_TileCount]
    rw [chkP_pos (by omega), chkP_pos (by omega), nam_eq, nam_eq]
    exact ⟨w, h, _, _, true, 4, rfl, rfl, pixOf_len hw.1 hw.2, by rw [List.length_replicate]; omega⟩
theorem m_FnExactEngineNew {w h : Int} (_ : okN .i64 w) (_ : okN .i64 h) : laws_FnExactEngineNew w h = some true := by
  obtain ⟨x, y, ps, ss, b, p, e1, e2, h1, h2⟩ := e_EngineNew w h
  have hg : gd_Engine ⟨⟨[]⟩, ⟨x, y, ps⟩, [], ss, ⟨p, []⟩, 0⟩ := by
    refine ⟨⟨by simp, fun _ hx => by cases hx⟩, ⟨by (try dsimp only) <;> omega, fun _ _ => trivial⟩, ⟨by simp, fun _ hx => by cases hx⟩, ⟨by (try dsimp only) <;> omega, fun _ _ => trivial⟩, ⟨by simp, fun _ hx => by cases hx⟩⟩
  unfold laws_FnExactEngineNew
  rw [e1, bnd_some]
  dsimp only
  rw [e2, bnd_some]
  dsimp only
  rw [f_laws_eqEngine hg, bnd_some, cnd_true]
  have mk : laws_markEngine x y p 0 1 ps ss = some (1 + 4 * (ps.length : Int) + 1 * (ss.length : Int), marked (fun k => ⟨k, k + 1, k + 1 + 1, k + 1 + 1 + 1⟩) 4 1 ps.length, marked (fun k => k) 1 (1 + 4 * (ps.length : Int)) ss.length) := by
    unfold laws_markEngine laws_markScene laws_markCache
    rw [(e_mark_nil _).1, bnd_some, bnd_some, m_markSurface (by omega) (by omega), bnd_some]
    dsimp only
    rw [(e_mark_nil _).2.1, bnd_some, m_markIntS (by omega) (by omega), bnd_some]
    dsimp only
    rw [(e_mark_nil _).2.2, bnd_some, bnd_some]
  have hd : laws_heldEngine ⟨⟨[]⟩, ⟨x, y, marked (fun k => ⟨k, k + 1, k + 1 + 1, k + 1 + 1 + 1⟩) 4 1 ps.length⟩, [], marked (fun k => k) 1 (1 + 4 * (ps.length : Int)) ss.length, ⟨p, []⟩, 0⟩ 1 = some (1 + 4 * (ps.length : Int) + 1 * (ss.length : Int)) := by
    unfold laws_heldEngine laws_heldScene laws_heldCache
    dsimp only
    rw [(e_held_nil _).1, bnd_some, ilt (by omega), cnd_true, bnd_some, ilt (by omega), cnd_true, m_heldSurface (by omega) (by omega), bnd_some, ilt (by omega), cnd_true,
      (e_held_nil _).2.1, bnd_some, ilt (by omega), cnd_true, m_heldIntS (by omega) (by omega), bnd_some, ilt (by omega), cnd_true,
      (e_held_nil _).2.2, bnd_some, ilt (by omega), cnd_true, bnd_some, ilt (by omega), cnd_true]
  rw [mk, bnd_some]
  dsimp only
  rw [hd, bnd_some, ilt (by omega), cnd_true, iqt, cnd_true]
  simp [andB]

/-! ## FnSets: draws -/
/-! Copies -/
/-! Any scenes and nodes -/
/-! ## FnSets: the law -/
/-! Sameness -/
/-! Right scenes -/
end Go.Proofs.Ytokobfpimdadmaa.Am
