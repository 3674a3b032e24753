import Derived.Test.YtapchldnmkfkoabDoorAmRsMo
import Derived.Test.YtapchldnmkfkoabDoorAmRo
import Derived.Test.YtapchldnmkfkoabDoorAmLw
set_option linter.unusedVariables false
set_option linter.unusedSimpArgs false
set_option linter.unusedSectionVars false
namespace Go.Proofs.YtapchldnmkfkoabDoor.Am
open Go Go.Proofs
end Go.Proofs.YtapchldnmkfkoabDoor.Am
namespace Go.Proofs.YtapchldnmkfkoabDoor.Am
open Go Go.Proofs
set_option linter.unusedVariables false
set_option linter.unusedSimpArgs false
theorem f_laws_eqMat {a : TMat} : laws_eqMat a a = some true := by
  unfold laws_eqMat
  simp only [bnd_some, cnd_true, iqt, andB, decide_true, Bool.and_self, Bool.and_true]
theorem f_laws_eqIntS {a : List Int} (hg : (gdL tt) a) : laws_eqIntS a a = some true := by
  unfold laws_eqIntS
  have h := eq_loop (f := laws_eqIntS_l0 a a) (eqE := (fun x y => some (ieq x y))) (fun _ _ => by simp [ieq, sq']) (fun _ => rfl) hg.1
  rw [iqt, cnd_true, h]; rfl
theorem f_laws_eqPoint {a : TPoint} : laws_eqPoint a a = some true := by
  unfold laws_eqPoint
  simp only [bnd_some, cnd_true, iqt, andB, decide_true, Bool.and_self, Bool.and_true]
theorem f_laws_eqPointS {a : List TPoint} (hg : (gdL tt) a) : laws_eqPointS a a = some true := by
  unfold laws_eqPointS
  have h := eq_loop (f := laws_eqPointS_l0 a a) (eqE := laws_eqPoint) (fun x hx => f_laws_eqPoint ) (fun _ => rfl) hg.1
  rw [iqt, cnd_true, h]; rfl
def gd_Path (x : TPath) : Prop := (gdL tt) x.verbs ∧ (gdL tt) x.points
theorem f_laws_eqPath {a : TPath} (hg : gd_Path a) : laws_eqPath a a = some true := by
  obtain ⟨h0, h1⟩ := hg
  unfold laws_eqPath
  simp only [bnd_some, cnd_true, iqt, andB, decide_true, Bool.and_self, Bool.and_true, f_laws_eqIntS h0, f_laws_eqPointS h1]
theorem f_laws_eqColor {a : TColor} : laws_eqColor a a = some true := by
  unfold laws_eqColor
  simp only [bnd_some, cnd_true, iqt, andB, decide_true, Bool.and_self, Bool.and_true]
theorem f_laws_eqPaint {a : TPaint} : laws_eqPaint a a = some true := by
  unfold laws_eqPaint
  simp only [bnd_some, cnd_true, iqt, andB, decide_true, Bool.and_self, Bool.and_true, f_laws_eqColor, f_laws_eqPoint]
def gd_Node (x : TNode) : Prop := gd_Path x.path ∧ (gdL tt) x.dashes ∧ gd_Path x.clip
theorem f_laws_eqNode {a : TNode} (hg : gd_Node a) : laws_eqNode a a = some true := by
  obtain ⟨h0, h1, h2⟩ := hg
  unfold laws_eqNode
  simp only [bnd_some, cnd_true, iqt, andB, decide_true, Bool.and_self, Bool.and_true, f_laws_eqMat, f_laws_eqPath h0, f_laws_eqPath h2, f_laws_eqIntS h1, f_laws_eqPaint]
def gd_Deed (x : TDeed) : Prop := gd_Node x.node
theorem f_laws_eqDeed {a : TDeed} (hg : gd_Deed a) : laws_eqDeed a a = some true := by
  have h0 := hg
  unfold laws_eqDeed
  simp only [bnd_some, cnd_true, iqt, andB, decide_true, Bool.and_self, Bool.and_true, f_laws_eqNode h0]
theorem f_laws_eqDeedS {a : List TDeed} (hg : (gdL gd_Deed) a) : laws_eqDeedS a a = some true := by
  unfold laws_eqDeedS
  have h := eq_loop (f := laws_eqDeedS_l0 a a) (eqE := laws_eqDeed) (fun x hx => f_laws_eqDeed (hg.2 x hx)) (fun _ => rfl) hg.1
  rw [iqt, cnd_true, h]; rfl
end Go.Proofs.YtapchldnmkfkoabDoor.Am
namespace Go.Proofs.YtapchldnmkfkoabDoor.Am
open Go Go.Proofs
set_option linter.unusedSimpArgs false
set_option linter.unusedVariables false
set_option maxRecDepth 100000
/-! ## Small words -/
def tin (x a b : Int) : Bool := ile a x && ile x b
theorem tin_t {x a b : Int} : tin x a b = true ↔ a ≤ x ∧ x ≤ b := by simp [tin, ile_t]
@[simp] theorem m_spec_l01In (x a b : Int) : spec_l01In x a b = some (tin x a b) := by
  unfold spec_l01In tin; cases ile a x <;> simp
@[simp] theorem m_impl_inRange (x a b : Int) : impl_inRange x a b = some (tin x a b) := by
  unfold impl_inRange tin; cases ile a x <;> simp
@[simp] theorem m_impl_isSide (x : Int) : impl_isSide x = some (tin x 1 12) := by unfold impl_isSide; simp
def tileCount (w h : Int) : Int := if tin w 1 12 && tin h 1 12 then ((w + 3) / 4) * ((h + 3) / 4) else 0
theorem four {w : Int} (h : tin w 1 12 = true) : (w + 3) / 4 = 1 ∨ (w + 3) / 4 = 2 ∨ (w + 3) / 4 = 3 := by rw [tin_t] at h; omega
theorem wr9 {w h : Int} (hw : tin w 1 12 = true) (hh : tin h 1 12 = true) : IntKind.i64.wrap ((w + 3) / 4 * ((h + 3) / 4)) = (w + 3) / 4 * ((h + 3) / 4) := by
  refine wr_in ?_
  rcases four hw with e | e | e <;> rcases four hh with f | f | f <;> rw [e, f] <;> decide
theorem up4 {w : Int} (h : tin w 1 12 = true) : IntKind.i64.wrap ((IntKind.i64.wrap (w + 3)).tdiv 4) = (w + 3) / 4 := by
  rw [tin_t] at h
  rw [wr_in (n := w + 3) (by omega), Int.tdiv_eq_ediv_of_nonneg (by omega), wr_in (by omega)]
@[simp] theorem m_spec_TileCount (w h : Int) : spec_TileCount w h = some (tileCount w h) := by
  unfold spec_TileCount tileCount
  cases hw : tin w 1 12 <;> cases hh : tin h 1 12 <;> simp [up4, wr9, *]

def TBox.empty (b : TBox) : Bool := ile b.x1 b.x0 || ile b.y1 b.y0
def TBox.zero : TBox := ⟨0, 0, 0, 0⟩
def meet (a b : TBox) : TBox :=
  let c : TBox := ⟨max a.x0 b.x0, max a.y0 b.y0, min a.x1 b.x1, min a.y1 b.y1⟩
  if c.empty then .zero else c
@[simp] theorem m_impl_Empty (b : TBox) : impl_Empty b = some b.empty := by
  unfold impl_Empty TBox.empty; cases ile b.x1 b.x0 <;> simp
@[simp] theorem m_spec_Empty (b : TBox) : spec_Empty b = some b.empty := by
  unfold spec_Empty TBox.empty; cases ile b.x1 b.x0 <;> simp
def inBox (b : TBox) (p : TPoint) : Bool := decide (b.x0 ≤ p.x ∧ p.x < b.x1 ∧ b.y0 ≤ p.y ∧ p.y < b.y1)
def tileBox (w h i : Int) : TBox :=
  if tin i 0 (tileCount w h - 1) then
    let x := i % ((w + 3) / 4) * 4
    let y := i / ((w + 3) / 4) * 4
    meet ⟨x, y, x + 4, y + 4⟩ ⟨0, 0, w, h⟩
  else .zero
theorem tc_bd (w h : Int) : 0 ≤ tileCount w h ∧ tileCount w h ≤ 9 := by
  unfold tileCount
  cases hw : tin w 1 12 <;> cases hh : tin h 1 12 <;> simp
  rcases four hw with e | e | e <;> rcases four hh with f | f | f <;> rw [e, f] <;> decide
@[simp] theorem tc_wrap (w h : Int) : IntKind.i64.wrap (tileCount w h - 1) = tileCount w h - 1 := by
  have := tc_bd w h
  exact wr_in (by omega)
theorem tb_facts {w h i : Int} (hi : tin i 0 (tileCount w h - 1) = true) : tin w 1 12 = true ∧ 0 ≤ i ∧ i ≤ 8 := by
  have := tc_bd w h
  rw [tin_t] at hi
  refine ⟨?_, by omega, by omega⟩
  cases hw : tin w 1 12 with
  | true => rfl
  | false =>
    have : tileCount w h = 0 := by simp [tileCount, hw]
    omega
theorem tb_x {r i : Int} (hr : r = 1 ∨ r = 2 ∨ r = 3) (h0 : 0 ≤ i) (h1 : i ≤ 8) : IntKind.i64.wrap (i.tmod r * 4) = i % r * 4 ∧ IntKind.i64.wrap (i % r * 4 + 4) = i % r * 4 + 4 ∧
    IntKind.i64.wrap (IntKind.i64.wrap (i.tdiv r) * 4) = i / r * 4 ∧ IntKind.i64.wrap (i / r * 4 + 4) = i / r * 4 + 4 := by
  rw [Int.tmod_eq_emod_of_nonneg h0, Int.tdiv_eq_ediv_of_nonneg h0]
  rcases hr with rfl | rfl | rfl
  · rw [wr_in (n := i / 1) (by omega)]; exact ⟨wr_in (by omega), wr_in (by omega), wr_in (by omega), wr_in (by omega)⟩
  · rw [wr_in (n := i / 2) (by omega)]; exact ⟨wr_in (by omega), wr_in (by omega), wr_in (by omega), wr_in (by omega)⟩
  · rw [wr_in (n := i / 3) (by omega)]; exact ⟨wr_in (by omega), wr_in (by omega), wr_in (by omega), wr_in (by omega)⟩
theorem four' {w : Int} (h : tin w 1 12 = true) : ¬ (w + 3) / 4 = 0 := by rcases four h with e | e | e <;> omega
/-! ## Draws -/
/-! ## Each square is in one tile -/
section
variable {a0 : List Int} {v3 v4 w h : Int}
end

/-! ## Loops that ask the same of all -/
theorem loopI_all {f : Int → Option (Int ⊕ (Unit ⊕ Unit))} (n : Nat) (p : Nat → Bool) (hn : n ≤ 9223372036854775807)
    (hs : ∀ i : Nat, i < n → f (i : Int) = cnd (p i) (some (.inl (IntKind.i64.wrap ((i : Int) + 1)))) (some (.inr (.inr ())))) (he : f (n : Int) = some (.inr (.inl ()))) :
    loopI f 0 = some (if (List.range n).all p then .inl () else .inr ()) := by
  have h := loopI_find (f := f) (fun i : Nat => (i : Int)) n (fun i => !(p i)) (fun _ => .inr ()) (r := .inl ()) (fun i hi => by
    rw [hs i hi, wr_in (by omega)]
    cases p i <;> simp) he
  have e : loopI f 0 = loopI f ((0 : Nat) : Int) := rfl
  rw [e, h]
  congr 1
  cases hq : (List.range n).find? (fun i => !(p i)) with
  | none =>
    rw [List.find?_eq_none] at hq
    have : (List.range n).all p = true := List.all_eq_true.2 fun x hx => by simpa using hq x hx
    rw [this]; rfl
  | some i =>
    have h1 := List.find?_some hq
    have h2 := List.mem_of_find?_eq_some hq
    have : (List.range n).all p = false := by
      rw [List.all_eq_false]; exact ⟨i, h2, by simpa using h1⟩
    rw [this]; rfl
theorem range_all {α : Type} {l : List α} {q : α → Bool} {p : Nat → Bool} (h : ∀ i (hi : i < l.length), p i = q l[i]) : (List.range l.length).all p = l.all q := by
  rw [Bool.eq_iff_iff, List.all_eq_true, List.all_eq_true]
  constructor
  · intro k x hx
    obtain ⟨i, hi, rfl⟩ := List.getElem_of_mem hx
    rw [← h i hi]; exact k i (List.mem_range.2 hi)
  · intro k i hi
    have hi := List.mem_range.1 hi
    rw [h i hi]; exact k _ (List.getElem_mem hi)
/-- Of a row, each element asked the same. -/
theorem loopI_row {α : Type} {l : List α} {f : Int → Option (Int ⊕ (Unit ⊕ Unit))} (q : α → Bool) (hn : l.length ≤ 9223372036854775807)
    (hs : ∀ (i : Nat) (h : i < l.length), f (i : Int) = cnd (q l[i]) (some (.inl (IntKind.i64.wrap ((i : Int) + 1)))) (some (.inr (.inr ())))) (he : f (l.length : Int) = some (.inr (.inl ()))) :
    loopI f 0 = some (if l.all q then .inl () else .inr ()) := by
  have h := loopI_all (f := f) l.length (fun i => if h : i < l.length then q l[i] else false) hn (fun i hi => by rw [hs i hi]; simp [hi]) he
  rw [h, range_all (q := q) (fun i hi => by simp [hi])]

/-! ## Masks -/
def TBox.isZero (b : TBox) : Bool := decide (b.x0 = 0) && (decide (b.y0 = 0) && (decide (b.x1 = 0) && (decide (b.y1 = 0))))
/-! ## The first of a row that is asked for -/
/-! ## Caches -/
/-! ## Surfaces -/
theorem wh_bd {w h : Int} (hw : tin w 1 12 = true) (hh : tin h 1 12 = true) : 1 ≤ w * h ∧ w * h ≤ 144 := by
  rw [tin_t] at hw hh
  refine ⟨?_, ?_⟩
  · calc (1 : Int) = 1 * 1 := rfl
      _ ≤ w * 1 := Int.mul_le_mul_of_nonneg_right hw.1 (by omega)
      _ ≤ w * h := Int.mul_le_mul_of_nonneg_left hh.1 (by omega)
  · calc w * h ≤ 12 * h := Int.mul_le_mul_of_nonneg_right hw.2 (by omega)
      _ ≤ 12 * 12 := Int.mul_le_mul_of_nonneg_left hh.2 (by omega)
/-! ## Loops from a number to another one -/
/-! ## Sparing -/
/-! ## Marks -/
def marked {α : Type} (mk : Int → α) (c k : Int) (n : Nat) : List α := (List.range n).map fun i : Nat => mk (k + c * (i : Int))
theorem marked_len {α : Type} {mk : Int → α} {c k : Int} {n : Nat} : (marked mk c k n).length = n := by simp [marked]
theorem cmul {c : Int} {i n : Nat} (hc : 0 ≤ c ∧ c ≤ 64) (hi : i ≤ n) (hn : n ≤ 1048576) : 0 ≤ c * (i : Int) ∧ c * (i : Int) ≤ 67108864 := by
  refine ⟨Int.mul_nonneg hc.1 (by omega), ?_⟩
  calc c * (i : Int) ≤ 64 * (i : Int) := Int.mul_le_mul_of_nonneg_right hc.2 (by omega)
    _ ≤ 67108864 := by omega
theorem csucc {c : Int} {i : Nat} : c * ((i + 1 : Nat) : Int) = c * (i : Int) + c := by
  rw [show ((i + 1 : Nat) : Int) = (i : Int) + 1 by omega, Int.mul_add, Int.mul_one]
theorem mark_loop {α : Type} (c : Int) (mk : Int → α) {f : Int × Int × List α → Option ((Int × Int × List α) ⊕ (List α × Int))} {a : List α} {k0 : Int} (hc : 0 ≤ c ∧ c ≤ 64) (h0 : 0 ≤ k0 ∧ k0 ≤ 1125899906842624) (ha : a.length ≤ 1048576)
    (he : ∀ (k : Int) (l : List α), f (k, (l.length : Int), l) = some (.inr (l, k)))
    (hf : ∀ (k : Int) (i : Nat) (l : List α), i < l.length → l.length ≤ 1048576 → 0 ≤ k → k ≤ 4503599627370496 → f (k, (i : Int), l) = some (.inl (k + c, ((i + 1 : Nat) : Int), l.set i (mk k)))) :
    loopI f (k0, 0, a) = some (marked mk c k0 a.length, k0 + c * (a.length : Int)) := by
  have key := loopI_n (f := f) (fun i => (k0 + c * (i : Int), (i : Int), marked mk c k0 i ++ a.drop i)) a.length (r := (marked mk c k0 a.length, k0 + c * (a.length : Int))) (fun i hi => ?_) ?_
  · have e : (k0 + c * ((0 : Nat) : Int), ((0 : Nat) : Int), marked mk c k0 0 ++ a.drop 0) = (k0, 0, a) := by simp [marked]
    rwa [e] at key
  · obtain ⟨b1, b2⟩ := cmul (n := a.length) hc (Nat.le_of_lt hi) ha
    have hl : (marked mk c k0 i ++ a.drop i).length = a.length := by simp [marked_len]; omega
    rw [hf _ i _ (by omega) (by omega) (by omega) (by omega)]
    have e1 : k0 + c * (i : Int) + c = k0 + c * ((i + 1 : Nat) : Int) := by rw [csucc]; omega
    have e2 : (marked mk c k0 i ++ a.drop i).set i (mk (k0 + c * (i : Int))) = marked mk c k0 (i + 1) ++ a.drop (i + 1) := by
      have h1 : a.drop i = a[i] :: a.drop (i + 1) := List.drop_eq_getElem_cons hi
      rw [List.set_append_right _ _ (by rw [marked_len]; omega), marked_len, Nat.sub_self, h1, List.set_cons_zero]
      unfold marked
      rw [List.range_succ, List.map_append, List.append_assoc]
      rfl
    rw [e1, e2]
  · have e : marked mk c k0 a.length ++ a.drop a.length = marked mk c k0 a.length := by simp
    try dsimp only
    rw [e]
    have := he (k0 + c * (a.length : Int)) (marked mk c k0 a.length)
    rwa [marked_len] at this
theorem held_loop {α : Type} (c : Int) (mk : Int → α) {f : Int × Int → Option ((Int × Int) ⊕ (Int ⊕ Unit))} {n : Nat} {k0 : Int} (hc : 0 ≤ c ∧ c ≤ 64) (h0 : 0 ≤ k0 ∧ k0 ≤ 1125899906842624) (hn : n ≤ 1048576)
    (he : ∀ k : Int, f (k, (n : Int)) = some (.inr (.inl k)))
    (hf : ∀ (k : Int) (i : Nat) (x : α), (marked mk c k0 n)[i]? = some x → i < n → x = mk k → 0 ≤ k → k ≤ 4503599627370496 → f (k, (i : Int)) = some (.inl (k + c, ((i + 1 : Nat) : Int)))) :
    loopI f (k0, 0) = some (.inl (k0 + c * (n : Int))) := by
  have key := loopI_n (f := f) (fun i => (k0 + c * (i : Int), (i : Int))) n (r := .inl (k0 + c * (n : Int))) (fun i hi => ?_) (he _)
  · have e : (k0 + c * ((0 : Nat) : Int), ((0 : Nat) : Int)) = (k0, (0 : Int)) := by simp
    rwa [e] at key
  · obtain ⟨b1, b2⟩ := cmul (n := n) hc (Nat.le_of_lt hi) hn
    rw [hf (k0 + c * (i : Int)) i (mk (k0 + c * (i : Int))) (by unfold marked; rw [List.getElem?_map, List.getElem?_range hi]; rfl) hi rfl (by omega) (by omega)]
    rw [csucc, Int.add_assoc]
theorem m_markIntS {k : Int} {l : List Int} (hk : 0 ≤ k ∧ k ≤ 1125899906842624) (hl : l.length ≤ 1048576) : laws_markIntS k l = some (k + 1 * (l.length : Int), marked (fun k => k) 1 k l.length) := by
  unfold laws_markIntS
  rw [mark_loop (f := laws_markIntS_l0) 1 (fun k => k) (by omega) hk hl (fun k l => by rw [laws_markIntS_l0, ilt (by omega), cnd_true]) (fun k i l hi hl h0 h1 => by
    rw [laws_markIntS_l0, ilf (by omega), cnd_false, idx_nat hi, bnd_some, nam_eq, Int.toNat_natCast, wr_in (n := k + 1) (by omega), wr_in (by omega)]; rfl)]
  rfl
theorem m_heldIntS {k : Int} {n : Nat} (hk : 0 ≤ k ∧ k ≤ 1125899906842624) (hl : n ≤ 1048576) : laws_heldIntS (marked (fun k => k) 1 k n) k = some (k + 1 * (n : Int)) := by
  unfold laws_heldIntS
  rw [held_loop (f := laws_heldIntS_l0 (marked (fun k => k) 1 k n)) 1 (fun k => k) (n := n) (by omega) hk hl (fun k => by rw [laws_heldIntS_l0, marked_len, ilt (by omega), cnd_true]) (fun k i x hx hi he h0 h1 => by
    rw [laws_heldIntS_l0, marked_len, ilf (by omega), cnd_false, idx_some hx, bnd_some, he, iqt, cnd_true, wr_in (n := k + 1) (by omega), wr_in (by omega)]; rfl)]
  rfl
/-! ## TilesOf -/
/-! ## Painting a part of a surface -/
section
variable {α : Type}
end

/-! ## Colours: the program's words are the reference's -/
/-! ## LayOver -/
/-! ## Paints -/
instance decCol : DecidableEq TColor := fun a b => decidable_of_iff (a.r = b.r ∧ a.g = b.g ∧ a.b = b.b ∧ a.a = b.a) (by cases a; cases b; simp)
instance decPt : DecidableEq TPoint := fun a b => decidable_of_iff (a.x = b.x ∧ a.y = b.y) (by cases a; cases b; simp)
theorem s_PointOk (p : TPoint) : impl_PointOk p = spec_PointOk p := by
  unfold impl_PointOk spec_PointOk impl_isFar
  rw [m_impl_inRange, m_spec_l01In, m_impl_inRange, m_spec_l01In]; rfl
theorem t_PointOk (p : TPoint) : spec_PointOk p = some (tin p.x (-8388608) 8388608 && tin p.y (-8388608) 8388608) := by
  unfold spec_PointOk
  rw [m_spec_l01In, bnd_some, m_spec_l01In]
  cases tin p.x (-8388608) 8388608 <;> simp
/-! ## PaintMask -/
/-! ## What blending yields -/
/-! ## Draws: each is told -/
theorem loopI_tot {σ ρ : Type} {f : σ → Option (σ ⊕ ρ)} (I : σ → Prop) (Q : ρ → Prop) (rk : σ → Nat) (hs : ∀ x, I x → (∃ y, f x = some (.inl y) ∧ I y ∧ rk y < rk x) ∨ (∃ r, f x = some (.inr r) ∧ Q r)) {x : σ} (hx : I x) : ∃ r, loopI f x = some r ∧ Q r := by
  have key : ∀ (n : Nat) (x : σ), rk x < n → I x → ∃ r, loopI f x = some r ∧ Q r := by
    intro n
    induction n with
    | zero => intro x h; omega
    | succ n ih =>
      intro x h hI
      rcases hs x hI with ⟨y, h1, h2, h3⟩ | ⟨r, h1, h2⟩
      · rw [loopI_go h1]; exact ih y (by omega) h2
      · exact ⟨r, loopI_end h1, h2⟩
  exact key (rk x + 1) x (by omega) hx
/-! ## Lines and masks of drawn paths: each is told -/
/-! ## Masks of lines -/
theorem m_spec_SurfaceNew {w h : Int} (hw : tin w 1 12 = true) (hh : tin h 1 12 = true) : spec_SurfaceNew w h = some (⟨w, h, List.replicate (Int.toNat (w * h)) ⟨0, 0, 0, 0⟩⟩, true) := by
  have := wh_bd hw hh
  unfold spec_SurfaceNew
  rw [m_spec_l01In, bnd_some, hw, cnd_true, m_spec_l01In, bnd_some, hh, cnd_true, wr_in (by omega), chkP_pos (by omega), nam_eq]
/-! ## FnLayers -/
/-! ## FnPaintsOn -/
/-! ## Scenes: the program's word is the reference's -/
theorem loopI_congr {σ ρ : Type} {f g : σ → Option (σ ⊕ ρ)} (I : σ → Prop) (h : ∀ x, I x → f x = g x) (hi : ∀ x y, I x → f x = some (.inl y) → I y) {x : σ} (hx : I x) : loopI f x = loopI g x := by
  have key : ∀ (k : Nat) (x : σ), I x → loopN' f k x = loopN' g k x := by
    intro k
    induction k with
    | zero => intro x _; rfl
    | succ k ih =>
      intro x hI
      rw [loopN', loopN', ← h x hI]
      cases hf : f x with
      | none => rfl
      | some o => cases o with
        | inl y => exact ih y (hi x y hI hf)
        | inr r => rfl
  refine opt_ext fun r => ?_
  rw [loopI_iff, loopI_iff]
  constructor
  · rintro ⟨k, hk⟩; exact ⟨k, by rw [← key k x hx]; exact hk⟩
  · rintro ⟨k, hk⟩; exact ⟨k, by rw [key k x hx]; exact hk⟩
/-! ## EngineOk -/
/-! ## EngineNew -/
/-! ## FnSets: draws -/
/-! Copies -/
structure NB (x : TNode) : Prop where
  v : x.path.verbs.length ≤ 1048576
  p : x.path.points.length ≤ 1048576
  d : x.dashes.length ≤ 1048576
  cv : x.clip.verbs.length ≤ 1048576
  cp : x.clip.points.length ≤ 1048576
/-! Any scenes and nodes -/
/-! ## FnSets: the law -/
/-! Sameness -/
/-! Right scenes -/
/-! ## Masks drawn are right -/
/-! ## Rows: deleted from, put into -/
theorem slc_some {α : Type} {l : List α} {a b : Nat} (h1 : a ≤ b) (h2 : b ≤ l.length) : slc l (a : Int) (b : Int) = some ((l.drop a).take (b - a)) := by
  unfold slc
  rw [if_pos (by omega)]
  have : ((b : Int) - (a : Int)).toNat = b - a := by omega
  simp only [this, Int.toNat_natCast]
/-! ## Caches: right ones, remembered, recalled, forgotten -/
/-! ## Deleting by a test; what is first -/
theorem filter_take_succ {α : Type} {p : α → Bool} {l : List α} {j : Nat} (hj : j < l.length) : (l.take (j + 1)).filter p = (l.take j).filter p ++ (if p l[j] then [l[j]] else []) := by
  rw [List.take_add_one, List.getElem?_eq_getElem hj, List.filter_append]
  congr 1
  simp only [Option.toList, List.filter_cons, List.filter_nil]
/-! ## Scenes as maps of parents -/
/-! ## A node placed -/
section
variable {s : TScene} {id p b : Int} {k : Nat}
end

/-! ## A node placed: the program and the reference -/
section
variable {s : TScene} {id p b : Int} {k : Nat}
end

/-! ## FnPlaces: the law -/
section
variable {s : TScene} {id p b : Int} {k : Nat}
end
/-! ## FnCreates: what is drawn is right -/
/-! ## FnCreates: nodes drawn -/
/-! ## FnCreates: a node more -/
/-! ## FnCreates: created and dropped -/
/-! ## FnExactShowFrame -/
/-! ## Marks of rows of things that hold rows -/
theorem m_markPointS {k : Int} {l : List TPoint} (hk : 0 ≤ k ∧ k ≤ 1125899906842624) (hl : l.length ≤ 1048576) : laws_markPointS k l = some (k + 2 * (l.length : Int), marked (fun k => ⟨k, k + 1⟩) 2 k l.length) := by
  unfold laws_markPointS
  rw [mark_loop (f := laws_markPointS_l0) 2 (fun k => (⟨k, k + 1⟩ : TPoint)) (by omega) hk hl (fun k l => by rw [laws_markPointS_l0, ilt (by omega), cnd_true]) (fun k i l hi hl h0 h1 => by
    rw [laws_markPointS_l0, ilf (by omega), cnd_false, idx_nat hi, bnd_some, nam_eq, Int.toNat_natCast, idx_nat (by rw [List.length_set]; exact hi), bnd_some, nam_eq, wr_in (n := k + 1) (by omega), wr_in (n := k + 1 + 1) (by omega), wr_in (by omega)]
    simp only [List.set_set, List.getElem_set_self]
    rw [show k + 1 + 1 = k + 2 from by omega]; rfl)]
  rfl
theorem m_heldPointS {k : Int} {n : Nat} (hk : 0 ≤ k ∧ k ≤ 1125899906842624) (hl : n ≤ 1048576) : laws_heldPointS (marked (fun k => ⟨k, k + 1⟩) 2 k n) k = some (k + 2 * (n : Int)) := by
  unfold laws_heldPointS
  rw [held_loop (f := laws_heldPointS_l0 (marked (fun k => ⟨k, k + 1⟩) 2 k n)) 2 (fun k => (⟨k, k + 1⟩ : TPoint)) (n := n) (by omega) hk hl (fun k => by rw [laws_heldPointS_l0, marked_len, ilt (by omega), cnd_true]) (fun k i x hx hi he h0 h1 => by
    rw [laws_heldPointS_l0, marked_len, ilf (by omega), cnd_false, idx_some hx, bnd_some, he, wr_in (n := k + 1) (by omega), wr_in (n := k + 1 + 1) (by omega), wr_in (by omega)]
    simp only [iqt, cnd_true]
    rw [show k + 1 + 1 = k + 2 from by omega]; rfl)]
  rfl
theorem mh_loop {α : Type} {f : Int × Int × List α → Option ((Int × Int × List α) ⊕ (List α × Int))} {g : List α → Int × Int → Option ((Int × Int) ⊕ (Int ⊕ Unit))} (a : List α) (C : Nat)
    (hl : a.length ≤ 1048576) (hC : C ≤ 16777216)
    (fe : ∀ k l, f (k, (l.length : Int), l) = some (.inr (l, k))) (ge : ∀ k l, g l (k, (l.length : Int)) = some (.inr (.inl k)))
    (st : ∀ x ∈ a, ∀ k : Int, 0 ≤ k → k ≤ 562949953421312 → ∃ (y : α) (k' : Int), k ≤ k' ∧ k' ≤ k + (C : Int) ∧
      (∀ (i : Nat) (l : List α), i < 1048576 → l[i]? = some x → f (k, (i : Int), l) = some (.inl (k', ((i + 1 : Nat) : Int), l.set i y))) ∧
      (∀ (i : Nat) (l : List α), i < 1048576 → l[i]? = some y → g l (k, (i : Int)) = some (.inl (k', ((i + 1 : Nat) : Int)))))
    {k0 : Int} (h0 : 0 ≤ k0) (h1 : k0 ≤ 1048576) : ∃ (L : List α) (k : Int), (k0 ≤ k ∧ k ≤ k0 + 17592186044416) ∧ L.length = a.length ∧ loopI f (k0, 0, a) = some (L, k) ∧ loopI (g L) (k0, 0) = some (.inl k) := by
  have key : ∀ n, n ≤ a.length → ∃ (D : List α) (k : Int), D.length = n ∧ k0 ≤ k ∧ k ≤ k0 + (C : Int) * (n : Int) ∧ loopI f (k0, 0, a) = loopI f (k, (n : Int), D ++ a.drop n) ∧
      ∀ L : List α, L.take n = D → loopI (g L) (k0, 0) = loopI (g L) (k, (n : Int)) := by
    intro n
    induction n with
    | zero => exact fun _ => ⟨[], k0, rfl, by omega, by omega, by simp, fun _ _ => rfl⟩
    | succ n ih =>
      intro hn
      obtain ⟨D, k, e1, e2, e3, e4, e5⟩ := ih (by omega)
      have hb : (C : Int) * (n : Int) ≤ 16777216 * 1048576 := Int.mul_le_mul (by omega) (by omega) (by omega) (by omega)
      have hs : (C : Int) * ((n + 1 : Nat) : Int) = (C : Int) * (n : Int) + (C : Int) := by rw [Int.natCast_add, Int.mul_add]; simp
      obtain ⟨y, k', y1, y2, y3, y4⟩ := st a[n] (List.getElem_mem (by omega)) k (by omega) (by omega)
      have hd : a.drop n = a[n] :: a.drop (n + 1) := List.drop_eq_getElem_cons (by omega)
      have hg : (D ++ a.drop n)[n]? = some a[n] := by rw [List.getElem?_append_right (by omega), e1, Nat.sub_self, hd]; rfl
      refine ⟨D ++ [y], k', by simp [e1], by omega, by rw [hs]; omega, ?_, fun L hL => ?_⟩
      · rw [e4, loopI_go (y3 n _ (by omega) hg), hd, List.set_append_right _ _ (by omega), e1, Nat.sub_self, List.set_cons_zero]
        simp
      · have hL1 : L.take n = D := by
          have := congrArg (List.take n) hL
          rw [List.take_take, Nat.min_eq_left (by omega), List.take_append_of_le_length (by omega), ← e1, List.take_length] at this
          rw [← e1]; exact this
        have hL2 : L[n]? = some y := by
          have := congrArg (fun l => l[n]?) hL
          simp only [List.getElem?_take] at this
          rw [if_pos (by omega), List.getElem?_append_right (by omega), e1, Nat.sub_self] at this
          exact this
        rw [e5 L hL1, loopI_go (y4 n L (by omega) hL2)]
  obtain ⟨D, k, e1, e2, e3, e4, e5⟩ := key a.length (Nat.le_refl _)
  have hb : (C : Int) * (a.length : Int) ≤ 16777216 * 1048576 := Int.mul_le_mul (by omega) (by omega) (by omega) (by omega)
  refine ⟨D, k, ⟨e2, by omega⟩, e1, ?_, ?_⟩
  · rw [e4, List.drop_length, List.append_nil, ← e1, loopI_end (fe k D)]
  · rw [e5 D (by rw [← e1, List.take_length]), ← e1, loopI_end (ge k D)]
def ptM (k : Int) (n : Nat) : List TPoint := marked (fun k => ⟨k, k + 1⟩) 2 k n
def inM (k : Int) (n : Nat) : List Int := marked (fun k => k) 1 k n
theorem inM_m {k : Int} {l : List Int} (h0 : 0 ≤ k) (h1 : k ≤ 1125899906842624) (hl : l.length ≤ 1048576) : laws_markIntS k l = some (k + l.length, inM k l.length) := by
  rw [m_markIntS ⟨h0, h1⟩ hl, Int.one_mul]; rfl
theorem inM_h {k : Int} {n : Nat} (h0 : 0 ≤ k) (h1 : k ≤ 1125899906842624) (hl : n ≤ 1048576) : laws_heldIntS (inM k n) k = some (k + n) := by
  unfold inM; rw [m_heldIntS ⟨h0, h1⟩ hl, Int.one_mul]
theorem ptM_m {k : Int} {l : List TPoint} (h0 : 0 ≤ k) (h1 : k ≤ 1125899906842624) (hl : l.length ≤ 1048576) : laws_markPointS k l = some (k + 2 * l.length, ptM k l.length) := m_markPointS ⟨h0, h1⟩ hl
theorem ptM_h {k : Int} {n : Nat} (h0 : 0 ≤ k) (h1 : k ≤ 1125899906842624) (hl : n ≤ 1048576) : laws_heldPointS (ptM k n) k = some (k + 2 * n) := m_heldPointS ⟨h0, h1⟩ hl
/-! ## FnExactCreateNode -/
theorem gd_nb {x : TNode} (h : NB x) : gd_Node x := ⟨⟨⟨h.v, fun _ _ => trivial⟩, ⟨h.p, fun _ _ => trivial⟩⟩, ⟨h.d, fun _ _ => trivial⟩, ⟨h.cv, fun _ _ => trivial⟩, ⟨h.cp, fun _ _ => trivial⟩⟩
/-! ## FnExactSetNode -/
/-! ## Caches marked; FnExactForget -/
/-! ## FnExactDropNode -/
/-! ## A mask put ahead of all, told in full -/
/-! ## FnExactRemember -/
/-! ## FnExactRecall -/
/-! ## FnExactPlaceNode -/
section
variable {s : TScene} {id p b : Int} {k : Nat}
end
/-! ## FnExactReadScript: numbers and hex -/
theorem rdl_eq (a : List UInt8) : impl_ReadDecimal_l0 a = spec_ReadDecimal_l0 a := by
  funext ⟨x2, x3⟩
  unfold impl_ReadDecimal_l0 spec_ReadDecimal_l0
  dsimp only
  refine congrArg (cnd _ _) ?_
  cases idx a x3 with
  | none => rfl
  | some b =>
    rw [bnd_some, bnd_some]
    by_cases h1 : 48 ≤ (b.toNat : Int)
    · rw [ilt h1]; simp only [cnd_true]
      by_cases h2 : (b.toNat : Int) ≤ 57
      · rw [ilt h2]; simp only [cnd_true]
        have e : IntKind.u8.wrap ((b.toNat : Int) - 48) = (b.toNat : Int) - 48 := by rw [IntKind.wrap_u8]; omega
        have e2 : IntKind.i64.wrap (IntKind.i64.wrap (x2 * 10) + IntKind.i64.wrap ((b.toNat : Int) - 48)) = IntKind.i64.wrap (IntKind.i64.wrap (IntKind.i64.wrap (10 * x2) + IntKind.i64.wrap (b.toNat : Int)) - 48) := by
          simp only [IntKind.wrap_i64]; omega
        rw [e, e2]
      · rw [ilf (by omega)]; simp only [cnd_false]
    · rw [ilf (by omega)]; simp only [cnd_false]
theorem u8_lt (b : UInt8) : b.toNat < 256 := b.toNat_lt
theorem rdl_tot {a : List UInt8} (h : a.length ≤ 10) : ∃ r, loopI (spec_ReadDecimal_l0 a) (0, 0) = some r ∧ ∀ y, r = .inl y → 0 ≤ y := by
  refine loopI_tot (fun x => ∃ n j : Nat, x = ((n : Int), (j : Int)) ∧ j ≤ a.length ∧ n + 1 ≤ 10 ^ j) _ (fun x => a.length - x.2.toNat) ?_ ⟨0, 0, rfl, by omega, by simp⟩
  rintro _ ⟨n, j, rfl, h1, h2⟩
  have hp : 10 ^ j ≤ 10 ^ 10 := Nat.pow_le_pow_right (by omega) (by omega)
  rw [spec_ReadDecimal_l0]
  by_cases he : j = a.length
  · right
    rw [ilt (by omega), cnd_true]
    exact ⟨_, rfl, fun y hy => by cases hy; omega⟩
  · have hj : j < a.length := by omega
    rw [ilf (by omega), cnd_false, idx_nat hj, bnd_some]
    by_cases h3 : 48 ≤ ((a[j]).toNat : Int)
    · rw [ilt h3, cnd_true]
      by_cases h4 : ((a[j]).toNat : Int) ≤ 57
      · left
        rw [ilt h4, cnd_true]
        have hs : 10 ^ (j + 1) = 10 ^ j * 10 := Nat.pow_succ ..
        rw [wr_in (n := 10 * (n : Int)) (by omega), wr_in (n := ((a[j]).toNat : Int)) (by omega), wr_in (n := 10 * (n : Int) + ((a[j]).toNat : Int)) (by omega), wr_in (n := 10 * (n : Int) + ((a[j]).toNat : Int) - 48) (by omega), wr_in (by omega)]
        refine ⟨_, rfl, ⟨10 * n + ((a[j]).toNat - 48), j + 1, by rw [Prod.mk.injEq]; exact ⟨by omega, by omega⟩, by omega, by rw [hs]; omega⟩, ?_⟩
        dsimp only; omega
      · right; rw [ilf (by omega), cnd_false]; exact ⟨_, rfl, fun y hy => by cases hy⟩
    · right; rw [ilf (by omega), cnd_false]; exact ⟨_, rfl, fun y hy => by cases hy⟩
theorem fig_toBs {d : Nat} (h : d < 10) : spec_l01Figure (d : Int) = some (48 + (d : Int)) ∧ toBs [48 + (d : Int)] = [UInt8.ofNat (48 + d)] := by
  constructor
  · unfold spec_l01Figure
    rw [ilf (by omega), cnd_false, wr_in (by omega)]
    congr 1; rw [IntKind.wrap_u8]; omega
  · unfold toBs
    simp only [List.map_cons, List.map_nil]
    congr 1
    all_goals (first | rfl | (congr 1; rw [IntKind.wrap_u8]; omega) | (congr 1; omega))
theorem dec_loop (a : Int) : ∀ (n : Nat) (acc : List UInt8), 0 < n → n ≤ 1099511627776 → acc.length + n ≤ 2199023255552 → loopI (spec_Decimal_l0 a) ((n : Int), acc) = some (Lib.decDigits n ++ acc) := by
  intro n
  induction n using Nat.strongRecOn with
  | _ n ih =>
    intro acc h0 h1 h2
    have ht : Int.tmod (n : Int) 10 = ((n % 10 : Nat) : Int) := by rw [Int.tmod_eq_emod_of_nonneg (by omega)]; omega
    have hd : Int.tdiv (n : Int) 10 = ((n / 10 : Nat) : Int) := by rw [Int.tdiv_eq_ediv_of_nonneg (by omega)]; omega
    obtain ⟨f1, f2⟩ := fig_toBs (d := n % 10) (by omega)
    have st : spec_Decimal_l0 a ((n : Int), acc) = some (.inl (((n / 10 : Nat) : Int), UInt8.ofNat (48 + n % 10) :: acc)) := by
      rw [spec_Decimal_l0, iqf (by omega), cnd_false, ht, ilt (by omega), cnd_true, f1, bnd_some, f2, chkP_pos (by simp; omega), hd, wr_in (by omega)]; rfl
    rw [loopI_go st]
    by_cases h : n < 10
    · rw [Lib.decDigits, dif_pos h, show n / 10 = 0 from by omega, Nat.mod_eq_of_lt h]
      exact loopI_end (by rw [spec_Decimal_l0, Int.natCast_zero, iqt, cnd_true]; rfl)
    · rw [Lib.decDigits, dif_neg h, ih (n / 10) (by omega) _ (by omega) (by omega) (by simp only [List.length_cons]; omega), List.append_assoc]; rfl
theorem dec_eq {y : Int} (h0 : 0 ≤ y) (h1 : y ≤ 1000000000) : impl_Decimal y = spec_Decimal y ∧ ∃ s, spec_Decimal y = some s := by
  obtain ⟨n, rfl⟩ : ∃ n : Nat, y = n := ⟨y.toNat, by omega⟩
  have e1 : impl_Decimal (n : Int) = some (Lib.decDigits n) := by
    unfold impl_Decimal strconv_Itoa
    rw [chkP_pos ⟨by omega, by omega⟩, bnd_some]
    unfold itoL Lib.itoa
    rw [if_neg (by omega), Int.toNat_natCast]
  have e2 : spec_Decimal (n : Int) = some (Lib.decDigits n) := by
    unfold spec_Decimal
    by_cases h : n = 0
    · subst h
      rw [Int.natCast_zero, iqt, cnd_true, Lib.decDigits, dif_pos (by omega)]; rfl
    · rw [iqf (by omega), cnd_false, dec_loop _ n [] (by omega) (by omega) (by simp; omega), bnd_some, ilt (by omega), cnd_true, List.append_nil]
  exact ⟨by rw [e1, e2], _, e2⟩
theorem rd_eq (a : List UInt8) : impl_ReadDecimal a = spec_ReadDecimal a ∧ ∃ r, spec_ReadDecimal a = some r ∧ (r.2 = false → r.1 = 0) := by
  by_cases h0 : a = []
  · subst h0
    have e : spec_ReadDecimal [] = some (0, false) := by
      unfold spec_ReadDecimal
      rw [ilt (by simp), cnd_true, loopI_end (r := .inl 0) (by rw [spec_ReadDecimal_l0, ilt (by simp), cnd_true]), bnd_some]
      dsimp only
      rw [ilt (by omega), cnd_true]
      unfold spec_Decimal
      rw [iqt, cnd_true, bnd_some]; rfl
    refine ⟨?_, _, e, fun _ => rfl⟩
    rw [e]; unfold impl_ReadDecimal; rw [show ((List.length ([] : List UInt8) : Int)) = 0 from rfl, iqt, cnd_true]
  · have hl : 0 < a.length := List.length_pos_iff.2 h0
    unfold impl_ReadDecimal spec_ReadDecimal
    rw [iqf (by omega), cnd_false, rdl_eq]
    by_cases h : a.length ≤ 10
    case neg => rw [ilf (by omega)]; simp only [cnd_false]; exact ⟨by first | rfl | trivial, _, rfl, fun _ => rfl⟩
    rw [ilt (by omega)]; simp only [cnd_true]
    obtain ⟨r, e, hr⟩ := rdl_tot h
    rw [e, bnd_some, bnd_some]
    cases r with
    | inr u => exact ⟨rfl, _, rfl, fun _ => rfl⟩
    | inl y =>
      dsimp only
      have h2 := hr y rfl
      by_cases h3 : y ≤ 1000000000
      case neg => rw [ilf (by omega)]; simp only [cnd_false]; exact ⟨by first | rfl | trivial, _, rfl, fun _ => rfl⟩
      rw [ilt h3]; simp only [cnd_true]
      obtain ⟨d1, s, d2⟩ := dec_eq h2 h3
      rw [d1, d2, bnd_some]
      refine ⟨rfl, ?_⟩
      cases sq' s a <;> simp only [cnd_true, cnd_false]
      · exact ⟨_, rfl, fun _ => rfl⟩
      · exact ⟨_, rfl, fun h => by cases h⟩

def hexS : List UInt8 := [48, 49, 50, 51, 52, 53, 54, 55, 56, 57, 97, 98, 99, 100, 101, 102]
def hval (b : Nat) : Int := if 48 ≤ b ∧ b ≤ 57 then (b : Int) - 48 else if 97 ≤ b ∧ b ≤ 102 then (b : Int) - 87 else -1
theorem hval_ix_all : ((List.range 256).all fun b => decide (ixbL hexS (b : Int) = hval b)) = true := by decide +kernel
theorem hval_ix (b : UInt8) : strings_IndexByte hexS (b.toNat : Int) = some (hval b.toNat) := by
  have := List.all_eq_true.1 hval_ix_all b.toNat (List.mem_range.2 (u8_lt b))
  unfold strings_IndexByte
  rw [of_decide_eq_true this]
theorem hval_v (b : UInt8) : spec_l01Value (b.toNat : Int) = some (hval b.toNat) := by
  have hb := u8_lt b
  unfold spec_l01Value hval
  by_cases h1 : 48 ≤ b.toNat
  · rw [ilt (by omega)]; simp only [cnd_true]
    by_cases h2 : b.toNat ≤ 57
    · rw [ilt (by omega), cnd_true, if_pos ⟨h1, h2⟩, wr_in (n := (b.toNat : Int)) (by omega), wr_in (by omega)]
    · rw [ilf (by omega), cnd_false, if_neg (by omega)]
      by_cases h3 : 97 ≤ b.toNat
      · rw [ilt (by omega), cnd_true]
        by_cases h4 : b.toNat ≤ 102
        · rw [ilt (by omega), cnd_true, if_pos ⟨h3, h4⟩, wr_in (n := (b.toNat : Int)) (by omega), wr_in (n := (b.toNat : Int) - 97) (by omega), wr_in (by omega)]
          congr 1; omega
        · rw [ilf (by omega), cnd_false, if_neg (by omega)]
      · rw [ilf (by omega), cnd_false, if_neg (by omega)]
  · rw [ilf (by omega), cnd_false, ilf (by omega), cnd_false, if_neg (by omega), if_neg (by omega)]
theorem hval_r (b : Nat) : -1 ≤ hval b ∧ hval b ≤ 15 := by unfold hval; split <;> (try split) <;> omega
theorem nib_all : ((List.range 16).all fun h => (List.range 16).all fun l => decide (IntKind.u8.wrap (orI .i64 (shlI .i64 (h : Int) 4) (l : Int)) = IntKind.u8.wrap (IntKind.i64.wrap (IntKind.i64.wrap (16 * (h : Int)) + (l : Int))))) = true := by decide +kernel
theorem nib {x y : Int} (h1 : 0 ≤ x) (h2 : x ≤ 15) (h3 : 0 ≤ y) (h4 : y ≤ 15) : IntKind.u8.wrap (orI .i64 (shlI .i64 x 4) y) = IntKind.u8.wrap (IntKind.i64.wrap (IntKind.i64.wrap (16 * x) + y)) := by
  obtain ⟨n, rfl⟩ : ∃ n : Nat, x = n := ⟨x.toNat, by omega⟩
  obtain ⟨m, rfl⟩ : ∃ m : Nat, y = m := ⟨y.toNat, by omega⟩
  exact of_decide_eq_true (List.all_eq_true.1 (List.all_eq_true.1 nib_all n (List.mem_range.2 (by omega))) m (List.mem_range.2 (by omega)))
theorem uxl_eq (a : List UInt8) : impl_Unhex_l0 a = spec_Unhex_l0 a := by
  funext ⟨x5, x6⟩
  unfold impl_Unhex_l0 spec_Unhex_l0
  dsimp only
  refine congrArg (cnd _ _) ?_
  cases idx a x5 with
  | none => rfl
  | some b =>
    rw [bnd_some, bnd_some, hval_v, bnd_some]
    show bnd (strings_IndexByte hexS _) _ = _
    rw [hval_ix, bnd_some]
    cases idx a (IntKind.i64.wrap (x5 + 1)) with
    | none => rfl
    | some c =>
      rw [bnd_some, bnd_some, hval_v, bnd_some]
      show bnd (strings_IndexByte hexS _) _ = _
      rw [hval_ix, bnd_some]
      have r1 := hval_r b.toNat
      have r2 := hval_r c.toNat
      by_cases h1 : 0 ≤ hval b.toNat
      · rw [ilt h1]; simp only [cnd_true]
        by_cases h2 : 0 ≤ hval c.toNat
        · rw [ilt h2]; simp only [cnd_true]
          rw [nib h1 r1.2 h2 r2.2]
        · rw [ilf (by omega)]; simp only [cnd_false]
      · rw [ilf (by omega)]; simp only [cnd_false]
theorem uxl_tot {a : List UInt8} (h : a.length ≤ 40000) (h2 : a.length % 2 = 0) : ∃ r, loopI (spec_Unhex_l0 a) (0, []) = some r ∧ ∀ y, r = .inl y → True := by
  refine loopI_tot (fun x => ∃ (j : Nat) (l : List Int), x = ((j : Int), l) ∧ j ≤ a.length ∧ j % 2 = 0 ∧ l.length ≤ j) _ (fun x => a.length - x.1.toNat) ?_ ⟨0, [], rfl, by omega, by omega, by simp⟩
  rintro _ ⟨j, l, rfl, h3, h4, h5⟩
  rw [spec_Unhex_l0]
  by_cases he : j = a.length
  · right
    rw [ilt (by omega), cnd_true]
    exact ⟨_, rfl, fun _ _ => trivial⟩
  · have hj : j + 1 < a.length := by omega
    rw [ilf (by omega), cnd_false, idx_nat (by omega), bnd_some, hval_v, bnd_some, wr_in (n := (j : Int) + 1) (by omega), show ((j : Int) + 1) = ((j + 1 : Nat) : Int) from by omega, idx_nat hj, bnd_some, hval_v, bnd_some]
    by_cases h6 : 0 ≤ hval (a[j]).toNat
    · rw [ilt h6, cnd_true]
      by_cases h7 : 0 ≤ hval (a[j + 1]).toNat
      · left
        rw [ilt h7, cnd_true, chkP_pos (by omega), nam_eq, wr_in (n := (j : Int) + 2) (by omega)]
        exact ⟨_, rfl, ⟨j + 2, _, by rw [Prod.mk.injEq]; exact ⟨by omega, rfl⟩, by omega, by omega, by simp; omega⟩, by dsimp only; omega⟩
      · right; rw [ilf (by omega), cnd_false]; exact ⟨_, rfl, fun y hy => by cases hy⟩
    · right; rw [ilf (by omega), cnd_false]; exact ⟨_, rfl, fun y hy => by cases hy⟩
theorem ux_eq {a : List UInt8} : impl_Unhex a = spec_Unhex a ∧ ∃ r, spec_Unhex a = some r := by
  unfold impl_Unhex spec_Unhex
  have ht : Int.tmod (a.length : Int) 2 = ((a.length % 2 : Nat) : Int) := by rw [Int.tmod_eq_emod_of_nonneg (by omega)]; omega
  rw [ht, uxl_eq]
  by_cases h1 : a.length % 2 = 0
  · rw [h1, Int.natCast_zero, iqt]; simp only [cnd_true]
    by_cases h2 : a.length ≤ 40000
    · rw [ilt (by omega)]; simp only [cnd_true]
      obtain ⟨r, e, _⟩ := uxl_tot h2 h1
      have hd : Int.tdiv (a.length : Int) 2 = ((a.length / 2 : Nat) : Int) := by rw [Int.tdiv_eq_ediv_of_nonneg (by omega)]; omega
      rw [hd, wr_in (by omega), chkP_pos ⟨by omega, by omega, by omega⟩, e, bnd_some]
      cases r <;> exact ⟨rfl, _, rfl⟩
    · rw [ilf (by omega)]; simp only [cnd_false]; exact ⟨by first | rfl | trivial, _, rfl⟩
  · rw [iqf (by omega)]; simp only [cnd_false]
    by_cases h2 : a.length ≤ 40000
    · rw [ilt (by omega)]; simp only [cnd_true]; exact ⟨by first | rfl | trivial, _, rfl⟩
    · rw [ilf (by omega)]; simp only [cnd_false]; exact ⟨by first | rfl | trivial, _, rfl⟩
/-! ### Lines and parts -/
def sp (c : UInt8) : List UInt8 → List (List UInt8)
  | [] => [[]]
  | b :: l => if b = c then [] :: sp c l else match sp c l with
    | [] => [[b]]
    | h :: t => (b :: h) :: t
theorem sp_ne {c : UInt8} : ∀ (l : List UInt8), ∃ h t, sp c l = h :: t
  | [] => ⟨[], [], rfl⟩
  | b :: l => by
    unfold sp
    split
    · exact ⟨_, _, rfl⟩
    · obtain ⟨h, t, e⟩ := sp_ne (c := c) l
      rw [e]; exact ⟨_, _, rfl⟩
theorem sp_no {c : UInt8} : ∀ {l : List UInt8}, c ∉ l → sp c l = [l]
  | [], _ => rfl
  | b :: l, h => by
    simp only [List.mem_cons, not_or] at h
    unfold sp
    rw [if_neg (fun e => h.1 e.symm), sp_no h.2]
theorem sp_app {c : UInt8} : ∀ {a : List UInt8} (r : List UInt8), c ∉ a → sp c (a ++ c :: r) = a :: sp c r
  | [], r, _ => by simp [sp]
  | b :: a, r, h => by
    simp only [List.mem_cons, not_or] at h
    rw [List.cons_append, sp, if_neg (fun e => h.1 e.symm), sp_app r h.2]
theorem index_at {c : UInt8} : ∀ {a : List UInt8} (r : List UInt8), c ∉ a → Lib.index (a ++ c :: r) [c] = (a.length : Int)
  | [], r, _ => by
    rw [List.nil_append]; unfold Lib.index
    have : ([c].isPrefixOf (c :: r)) = true := by simp [List.isPrefixOf]
    rw [this]; rfl
  | b :: a, r, h => by
    simp only [List.mem_cons, not_or] at h
    rw [List.cons_append]; unfold Lib.index
    have : ([c].isPrefixOf (b :: (a ++ c :: r))) = false := by simp [List.isPrefixOf, h.1]
    rw [this, index_at r h.2, if_neg (by simp), if_neg (by simp), List.length_cons]; omega
theorem first_mem {c : UInt8} : ∀ {s : List UInt8}, c ∈ s → ∃ a r, s = a ++ c :: r ∧ c ∉ a
  | b :: l, h => by
    by_cases e : b = c
    · exact ⟨[], l, by rw [e]; rfl, by simp⟩
    · obtain ⟨a, r, h1, h2⟩ := first_mem ((List.mem_cons.1 h).resolve_left fun h => e h.symm)
      exact ⟨b :: a, r, by rw [h1]; rfl, by simp only [List.mem_cons, not_or]; exact ⟨fun h => e h.symm, h2⟩⟩
theorem splitK_sp {c : UInt8} : ∀ (k : Nat) (s : List UInt8), s.count c = k → Lib.splitK [c] 0 k s = sp c s
  | 0, s, h => by
    rw [sp_no (List.count_eq_zero.1 h)]; rfl
  | k + 1, s, h => by
    have hm : c ∈ s := List.count_pos_iff.1 (by omega)
    obtain ⟨a, r, rfl, ha⟩ := first_mem hm
    unfold Lib.splitK
    rw [index_at r ha, if_neg (by simp), sp_app r ha, Int.toNat_natCast, Nat.add_zero, List.take_left]
    congr 1
    rw [List.drop_append, List.drop_eq_nil_of_le (by simp), show a.length + [c].length - a.length = 1 from by simp]
    simp only [List.nil_append, List.drop_succ_cons, List.drop_zero]
    refine splitK_sp k r ?_
    rw [List.count_append, List.count_eq_zero.2 ha, List.count_cons_self] at h
    omega
theorem splL_sp (c : UInt8) (s : List UInt8) : splL s [c] = sp c s := by
  unfold splL Lib.split
  exact splitK_sp _ s (Lib.count_one c s).symm
def wds : List UInt8 → List UInt8 → List (List UInt8)
  | cur, [] => if cur = [] then [] else [cur]
  | cur, b :: l => if b = 32 then (if cur = [] then wds [] l else cur :: wds [] l) else wds (cur ++ [b]) l
def lns : List UInt8 → List UInt8 → List (List UInt8)
  | cur, [] => if cur = [] then [] else [cur]
  | cur, b :: l => if b = 10 then cur :: lns [] l else lns (cur ++ [b]) l
def hdA (cur : List UInt8) : List (List UInt8) → List (List UInt8)
  | [] => []
  | h :: t => (cur ++ h) :: t
theorem hdA_sp (c : UInt8) (cur : List UInt8) (b : UInt8) (l : List UInt8) (h : b ≠ c) : hdA cur (sp c (b :: l)) = hdA (cur ++ [b]) (sp c l) := by
  obtain ⟨x, t, e⟩ := sp_ne (c := c) l
  rw [sp, if_neg h, e]; simp [hdA]
theorem hdA_nil (c : UInt8) (l : List UInt8) : hdA [] (sp c l) = sp c l := by
  obtain ⟨x, t, e⟩ := sp_ne (c := c) l
  rw [e]; rfl
def ne0 (w : List UInt8) : Bool := !sq' w []
theorem ne0_t {w : List UInt8} : ne0 w = true ↔ w ≠ [] := by unfold ne0 sq'; simp
theorem wds_sp : ∀ (l cur : List UInt8), wds cur l = (hdA cur (sp 32 l)).filter ne0
  | [], cur => by
    simp only [wds, sp, hdA, List.append_nil]
    by_cases h : cur = []
    · subst h; rfl
    · rw [if_neg h, List.filter_cons_of_pos (ne0_t.2 h)]; rfl
  | b :: l, cur => by
    rw [wds]
    by_cases h : b = 32
    · subst h
      rw [if_pos rfl, sp, if_pos rfl]
      simp only [hdA, List.append_nil]
      by_cases hc : cur = []
      · subst hc
        rw [if_pos rfl, List.filter_cons_of_neg (by simp [ne0, sq']), wds_sp l, hdA_nil]
      · rw [if_neg hc, List.filter_cons_of_pos (ne0_t.2 hc), wds_sp l, hdA_nil]
    · rw [if_neg h, wds_sp l, hdA_sp _ _ _ _ h]
theorem lns_end : ∀ (b cur : List UInt8), lns cur (b ++ [10]) = hdA cur (sp 10 b)
  | [], cur => by simp [lns, sp, hdA]
  | x :: b, cur => by
    rw [List.cons_append, lns]
    by_cases h : x = 10
    · subst h
      rw [if_pos rfl, sp, if_pos rfl, lns_end b, hdA_nil]
      simp [hdA]
    · rw [if_neg h, lns_end b, hdA_sp _ _ _ _ h]
theorem lns_no : ∀ (a cur : List UInt8), (a = [] → cur ≠ []) → (∀ b, a ≠ b ++ [10]) → lns cur a = hdA cur (sp 10 a)
  | [], cur, h, _ => by simp [lns, sp, hdA, h rfl]
  | x :: a, cur, _, h2 => by
    rw [lns]
    have h3 : ∀ b, a ≠ b ++ [10] := fun b e => h2 (x :: b) (by rw [e]; rfl)
    by_cases h : x = 10
    · subst h
      have ha : a ≠ [] := fun e => h2 [] (by rw [e]; rfl)
      rw [if_pos rfl, sp, if_pos rfl, lns_no a [] (fun e => (ha e).elim) h3, hdA_nil]
      simp [hdA]
    · rw [if_neg h, lns_no a _ (fun _ => by simp) h3, hdA_sp _ _ _ _ h]
theorem trm_end (b : List UInt8) : trmL (b ++ [10]) [10] = b := by
  unfold trmL Lib.trimSuffix Lib.hasSuffix
  rw [if_pos (by rw [List.isSuffixOf_iff_suffix]; exact List.suffix_append b [10])]
  simp
theorem trm_no {a : List UInt8} (h : ∀ b, a ≠ b ++ [10]) : trmL a [10] = a := by
  unfold trmL Lib.trimSuffix Lib.hasSuffix
  rw [if_neg]
  rw [List.isSuffixOf_iff_suffix]
  rintro ⟨b, hb⟩
  exact h b hb.symm
theorem lines_i {a : List UInt8} (h : a.length ≤ 1048576) : impl_scriptLines a = some (lns [] a) := by
  unfold impl_scriptLines
  by_cases h0 : a = []
  · subst h0; rfl
  · have e : sq' a [] = false := by unfold sq'; simp [h0]
    rw [e, cnd_false]
    unfold strings_TrimSuffix strings_Split
    by_cases h1 : ∃ b, a = b ++ [10]
    · obtain ⟨b, rfl⟩ := h1
      rw [List.length_append] at h
      rw [chkP_pos (by simp; simpa using h), bnd_some, trm_end, chkP_pos ⟨by omega, rfl⟩, bnd_some, splL_sp, lns_end, hdA_nil]
    · have h2 : ∀ b, a ≠ b ++ [10] := fun b e => h1 ⟨b, e⟩
      rw [chkP_pos h, bnd_some, trm_no h2, chkP_pos ⟨h, rfl⟩, bnd_some, splL_sp, lns_no a [] (fun e => (h0 e).elim) h2, hdA_nil]
theorem cur_succ {a : List UInt8} {s j : Nat} (h1 : s ≤ j) (h2 : j < a.length) : (a.drop s).take (j + 1 - s) = (a.drop s).take (j - s) ++ [a[j]] := by
  rw [show j + 1 - s = (j - s) + 1 from by omega, List.take_add_one, List.getElem?_drop, show s + (j - s) = j from by omega, List.getElem?_eq_getElem h2]; rfl
theorem lines_s {a : List UInt8} (h : a.length ≤ 1048576) : spec_l24Lines a = some (lns [] a) := by
  have key : ∃ r, loopI (spec_l24Lines_l0 a) (0, 0, []) = some r ∧ ∃ (s : Nat) (y : List (List UInt8)), r = (y, (s : Int)) ∧ s ≤ a.length ∧ y.length ≤ a.length ∧ y ++ (if s = a.length then [] else [a.drop s]) = lns [] a := by
    refine loopI_tot (fun x => ∃ (s j : Nat) (y : List (List UInt8)), x = ((s : Int), (j : Int), y) ∧ s ≤ j ∧ j ≤ a.length ∧ y.length ≤ j ∧ y ++ lns ((a.drop s).take (j - s)) (a.drop j) = lns [] a) _ (fun x => a.length - x.2.1.toNat) ?_ ⟨0, 0, [], rfl, by omega, by omega, by simp, by simp⟩
    rintro _ ⟨s, j, y, rfl, h1, h2, h3, h4⟩
    rw [spec_l24Lines_l0]
    by_cases he : j = a.length
    · right
      subst he
      rw [ilt (by omega), cnd_true]
      refine ⟨_, rfl, s, y, rfl, h1, h3, ?_⟩
      rw [← h4, List.drop_length, lns]
      have e : (a.drop s).take (a.length - s) = a.drop s := List.take_of_length_le (by rw [List.length_drop]; omega)
      rw [e]
      congr 1
      by_cases hs : s = a.length
      · subst hs; rw [if_pos rfl, List.drop_length, if_pos rfl]
      · rw [if_neg hs, if_neg (fun e => by have := congrArg List.length e; rw [List.length_drop] at this; simp at this; omega)]
    · left
      have hj : j < a.length := by omega
      have hd : a.drop j = a[j] :: a.drop (j + 1) := List.drop_eq_getElem_cons hj
      rw [ilf (by omega), cnd_false, idx_nat hj, bnd_some]
      rw [hd, lns] at h4
      by_cases hb : a[j] = 10
      · rw [if_pos hb] at h4
        have : ((a[j]).toNat : Int) = 10 := by rw [hb]; rfl
        rw [this, iqt, cnd_true, slc_some h1 (by omega), bnd_some, chkP_pos (by omega), nam_eq, wr_in (n := (j : Int) + 1) (by omega)]
        refine ⟨_, rfl, ⟨j + 1, j + 1, _, by rw [Prod.mk.injEq, Prod.mk.injEq]; exact ⟨by omega, by omega, rfl⟩, by omega, by omega, by simp; omega, ?_⟩, by dsimp only; omega⟩
        rw [Nat.sub_self, List.take_zero, List.append_assoc]; exact h4
      · rw [if_neg hb] at h4
        have : ((a[j]).toNat : Int) ≠ 10 := fun e => hb (UInt8.toNat.inj (by rw [show (10 : UInt8).toNat = 10 from rfl]; omega))
        rw [iqf this, cnd_false, wr_in (n := (j : Int) + 1) (by omega)]
        refine ⟨_, rfl, ⟨s, j + 1, y, by rw [Prod.mk.injEq, Prod.mk.injEq]; exact ⟨rfl, by omega, rfl⟩, by omega, by omega, by omega, ?_⟩, by dsimp only; omega⟩
        rw [cur_succ h1 hj]; exact h4
  obtain ⟨r, e, s, y, rfl, h1, h2, h3⟩ := key
  unfold spec_l24Lines
  rw [e, bnd_some]
  dsimp only
  by_cases hs : s = a.length
  · rw [ilt (by omega), cnd_true, ← h3, if_pos hs, List.append_nil]
  · rw [ilf (by omega), cnd_false, slc_some (b := a.length) h1 (Nat.le_refl _), bnd_some, chkP_pos (by omega), nam_eq, ← h3, if_neg hs, List.take_of_length_le (by rw [List.length_drop]; omega)]
/-! ### Parts -/
def pb (b : UInt8) : Bool := decide (32 ≤ (b.toNat : Int) ∧ (b.toNat : Int) ≤ 126)
def partsOf (a : List UInt8) : List (List UInt8) × Bool := if a.length ≤ 600 ∧ a.all pb = true ∧ (wds [] a).length ≤ 10 then (wds [] a, true) else ([], false)
theorem parts_i (a : List UInt8) : impl_PartsOf a = some (partsOf a) := by
  unfold impl_PartsOf partsOf
  by_cases h : a.length ≤ 600
  case neg => rw [ilf (by omega), cnd_false, if_neg (fun e => h e.1)]
  rw [ilt (by omega), cnd_true]
  rw [loopI_row (l := a) (f := impl_PartsOf_l0 a) pb (by omega) (fun i hi => by
    rw [impl_PartsOf_l0, ilf (by omega), cnd_false, idx_nat hi, bnd_some]
    unfold pb
    by_cases h1 : 32 ≤ ((a[i]).toNat : Int)
    · rw [ilt h1, cnd_true]
      by_cases h2 : ((a[i]).toNat : Int) ≤ 126
      · rw [ilt h2, decide_eq_true ⟨h1, h2⟩]
      · rw [ilf (by omega), decide_eq_false (fun e => h2 e.2)]
    · rw [ilf (by omega), cnd_false, decide_eq_false (fun e => h1 e.1), cnd_false]) (by rw [impl_PartsOf_l0, ilt (by omega), cnd_true]), bnd_some]
  cases hb : a.all pb with
  | false => rw [if_neg (by simp), if_neg (by simp)]
  | true =>
    rw [if_pos rfl]
    dsimp only
    unfold strings_Split
    rw [chkP_pos ⟨by omega, rfl⟩, bnd_some, splL_sp]
    have hw : (sp 32 a).filter ne0 = wds [] a := by rw [wds_sp, hdA_nil]
    have hl : (sp 32 a).length ≤ 601 := by
      have : ∀ l : List UInt8, (sp 32 l).length ≤ l.length + 1 := by
        intro l
        induction l with
        | nil => simp [sp]
        | cons x l ih =>
          rw [sp]
          split
          · simp; omega
          · obtain ⟨y, t, e⟩ := sp_ne (c := 32) l
            rw [e] at ih ⊢
            simp at ih ⊢; omega
      have := this a; omega
    have key := loopI_n (f := impl_PartsOf_l1 (sp 32 a)) (fun i => ((i : Int), ((sp 32 a).take i).filter ne0)) (sp 32 a).length (r := (sp 32 a).filter ne0) (fun i hi => ?_) ?_
    · have e1 : loopI (impl_PartsOf_l1 (sp 32 a)) (0, []) = some ((sp 32 a).filter ne0) := key
      rw [e1, bnd_some, hw]
      by_cases h3 : (wds [] a).length ≤ 10
      · rw [ilt (by omega), cnd_true, if_pos ⟨h, rfl, h3⟩]
      · rw [ilf (by omega), cnd_false, if_neg (fun e => h3 e.2.2)]
    · try dsimp only
      rw [filter_take_succ hi, impl_PartsOf_l1, ilf (by omega), cnd_false, idx_nat hi, bnd_some, wr_in (by omega)]
      have kl : (((sp 32 a).take i).filter ne0).length ≤ i := by
        have := List.length_filter_le ne0 ((sp 32 a).take i)
        rw [List.length_take] at this; omega
      have hq : ne0 ((sp 32 a)[i]) = !sq' ((sp 32 a)[i]) [] := rfl
      cases hs : sq' ((sp 32 a)[i]) [] with
      | true => rw [cnd_true, hq, hs]; simp
      | false => rw [cnd_false, chkP_pos (by omega), nam_eq, hq, hs]; simp
    · try dsimp only
      rw [impl_PartsOf_l1, ilt (by omega), cnd_true, List.take_length]
theorem parts_s (a : List UInt8) : spec_PartsOf a = some (partsOf a) := by
  unfold spec_PartsOf partsOf
  by_cases h : a.length ≤ 600
  case neg => rw [ilf (by omega), cnd_false, if_neg (fun e => h e.1)]
  rw [ilt (by omega), cnd_true]
  have key : ∃ r, loopI (spec_PartsOf_l0 a) (0, 0, []) = some r ∧ ((r = .inl () ∧ a.all pb = false) ∨ (r = .inr (wds [] a) ∧ a.all pb = true)) := by
    refine loopI_tot (fun x => ∃ (s j : Nat) (y : List (List UInt8)), x = ((s : Int), (j : Int), y) ∧ s ≤ j ∧ j ≤ a.length + 1 ∧ y.length ≤ j ∧ (∀ i (hi : i < a.length), i < j → pb a[i] = true) ∧ (j ≤ a.length → y ++ wds ((a.drop s).take (j - s)) (a.drop j) = wds [] a) ∧ (j = a.length + 1 → y = wds [] a)) _ (fun x => a.length + 1 - x.2.1.toNat) ?_ ⟨0, 0, [], rfl, by omega, by omega, by simp, fun i hi h => by omega, fun _ => by simp, fun h => by omega⟩
    rintro _ ⟨s, j, y, rfl, h1, h2, h3, h4, h5, h6⟩
    rw [spec_PartsOf_l0]
    by_cases he : j = a.length + 1
    · right
      rw [ilf (by omega), cnd_false]
      exact ⟨_, rfl, .inr ⟨by rw [h6 he], List.all_eq_true.2 fun b hb => by
        obtain ⟨i, hi, rfl⟩ := List.getElem_of_mem hb
        exact h4 i hi (by omega)⟩⟩
    rw [ilt (by omega), cnd_true]
    have hc := h5 (by omega)
    have fin : ∀ z : List (List UInt8), z.length ≤ j + 1 → j + 1 ≤ a.length + 1 → (∀ i (hi : i < a.length), i < j + 1 → pb a[i] = true) → (j + 1 ≤ a.length → z ++ wds [] (a.drop (j + 1)) = wds [] a) → (j + 1 = a.length + 1 → z = wds [] a) →
        ∃ y', (some (Sum.inl (IntKind.i64.wrap ((j : Int) + 1), IntKind.i64.wrap ((j : Int) + 1), z)) : Option ((Int × Int × List (List UInt8)) ⊕ (Unit ⊕ List (List UInt8)))) = some (.inl y') ∧ (∃ (s j : Nat) (y : List (List UInt8)), y' = ((s : Int), (j : Int), y) ∧ s ≤ j ∧ j ≤ a.length + 1 ∧ y.length ≤ j ∧ (∀ i (hi : i < a.length), i < j → pb a[i] = true) ∧ (j ≤ a.length → y ++ wds ((a.drop s).take (j - s)) (a.drop j) = wds [] a) ∧ (j = a.length + 1 → y = wds [] a)) ∧ a.length + 1 - y'.2.1.toNat < a.length + 1 - j := fun z g1 g2 g3 g4 g5 => by
      rw [wr_in (n := (j : Int) + 1) (by omega)]
      exact ⟨_, rfl, ⟨j + 1, j + 1, z, by rw [Prod.mk.injEq, Prod.mk.injEq]; exact ⟨by omega, by omega, rfl⟩, by omega, g2, g1, g3, fun h => by rw [Nat.sub_self, List.take_zero]; exact g4 h, g5⟩, by dsimp only; omega⟩
    have hcl : ((a.drop s).take (j - s)).length = j - s := by rw [List.length_take, List.length_drop]; omega
    by_cases hj : j = a.length
    · left
      rw [ilt (by omega), cnd_true]
      rw [hj, List.drop_length, wds] at hc
      by_cases hs : j ≤ s
      · rw [ilt (by omega), cnd_true]
        refine fin y (by omega) (by omega) (fun i hi h => h4 i hi (by omega)) (fun h => by omega) fun _ => ?_
        rw [if_pos (List.length_eq_zero_iff.1 (by rw [← hj, hcl]; omega)), List.append_nil] at hc; exact hc
      · rw [ilf (by omega), cnd_false, slc_some h1 (by omega), bnd_some, chkP_pos (by omega), nam_eq]
        refine fin _ (by simp; omega) (by omega) (fun i hi h => h4 i hi (by omega)) (fun h => by omega) fun _ => ?_
        rw [if_neg (fun e => by rw [← hj] at e; rw [e] at hcl; simp at hcl; omega)] at hc
        rw [hj]; exact hc
    · have hjl : j < a.length := by omega
      have hd : a.drop j = a[j] :: a.drop (j + 1) := List.drop_eq_getElem_cons hjl
      rw [ilf (by omega), cnd_false, idx_nat hjl, bnd_some]
      rw [hd, wds] at hc
      by_cases p1 : 32 ≤ ((a[j]).toNat : Int)
      case neg =>
        right
        rw [ilf (by omega), cnd_false]
        exact ⟨_, rfl, .inl ⟨rfl, List.all_eq_false.2 ⟨a[j], List.getElem_mem hjl, by unfold pb; simp; omega⟩⟩⟩
      rw [ilt p1, cnd_true]
      by_cases p2 : ((a[j]).toNat : Int) ≤ 126
      case neg =>
        right
        rw [ilf (by omega), cnd_false]
        exact ⟨_, rfl, .inl ⟨rfl, List.all_eq_false.2 ⟨a[j], List.getElem_mem hjl, by unfold pb; simp; omega⟩⟩⟩
      rw [ilt p2, cnd_true]
      left
      have g3 : ∀ i (hi : i < a.length), i < j + 1 → pb a[i] = true := fun i hi h => by
        by_cases e : i = j
        · subst e; unfold pb; exact decide_eq_true ⟨p1, p2⟩
        · exact h4 i hi (by omega)
      by_cases hb : a[j] = 32
      · rw [if_pos hb] at hc
        have : ((a[j]).toNat : Int) = 32 := by rw [hb]; rfl
        rw [this, iqt, cnd_true]
        by_cases hs : j ≤ s
        · rw [ilt (by omega), cnd_true]
          rw [if_pos (List.length_eq_zero_iff.1 (by rw [hcl]; omega))] at hc
          exact fin y (by omega) (by omega) g3 (fun _ => hc) (fun h => by omega)
        · rw [ilf (by omega), cnd_false, slc_some h1 (by omega), bnd_some, chkP_pos (by omega), nam_eq]
          rw [if_neg (fun e => by rw [e] at hcl; simp at hcl; omega)] at hc
          exact fin _ (by simp; omega) (by omega) g3 (fun _ => by rw [List.append_assoc]; exact hc) (fun h => by omega)
      · rw [if_neg hb] at hc
        have : ((a[j]).toNat : Int) ≠ 32 := fun e => hb (UInt8.toNat.inj (by rw [show (32 : UInt8).toNat = 32 from rfl]; omega))
        rw [iqf this, cnd_false, wr_in (n := (j : Int) + 1) (by omega)]
        refine ⟨_, rfl, ⟨s, j + 1, y, by rw [Prod.mk.injEq, Prod.mk.injEq]; exact ⟨rfl, by omega, rfl⟩, by omega, by omega, by omega, g3, fun _ => ?_, fun h => by omega⟩, by dsimp only; omega⟩
        rw [cur_succ h1 hjl]; exact hc
  obtain ⟨r, e, ⟨rfl, hb⟩ | ⟨rfl, hb⟩⟩ := key
  · rw [e, bnd_some]
    dsimp only
    rw [if_neg (by simp [hb])]
  · rw [e, bnd_some]
    dsimp only
    by_cases h3 : (wds [] a).length ≤ 10
    · rw [ilt (by omega), cnd_true, if_pos ⟨h, hb, h3⟩]
    · rw [ilf (by omega), cnd_false, if_neg (fun e => h3 e.2.2)]

/-! ## FnExactReadScript: a line's deed -/
noncomputable def rd (a : List UInt8) : Int × Bool := (spec_ReadDecimal a).getD (0, false)
theorem rd_s (a : List UInt8) : spec_ReadDecimal a = some (rd a) := by
  obtain ⟨_, r, h, _⟩ := rd_eq a
  unfold rd; rw [h]; rfl
theorem rd_i (a : List UInt8) : impl_ReadDecimal a = some (rd a) := by rw [(rd_eq a).1, rd_s]
theorem rd_f {a : List UInt8} (h : (rd a).2 = false) : (rd a).1 = 0 := by
  obtain ⟨_, r, h1, h2⟩ := rd_eq a
  rw [rd_s] at h1
  cases h1; exact h2 h
theorem rd_nil : rd [] = (0, false) := by
  have h : (rd []).2 = false := by
    unfold rd spec_ReadDecimal
    rw [ilt (by simp), cnd_true, loopI_end (r := .inl 0) (by rw [spec_ReadDecimal_l0, ilt (by simp), cnd_true]), bnd_some]
    try dsimp only
    rw [ilt (by omega), cnd_true]
    unfold spec_Decimal
    rw [iqt, cnd_true, bnd_some]; rfl
  exact Prod.ext (rd_f h) h
noncomputable def ux (a : List UInt8) : List UInt8 × Bool := (spec_Unhex a).getD ([], false)
theorem ux_s (a : List UInt8) : spec_Unhex a = some (ux a) := by
  obtain ⟨_, r, h⟩ := ux_eq (a := a)
  unfold ux; rw [h]; rfl
theorem ux_i (a : List UInt8) : impl_Unhex a = some (ux a) := by rw [ux_eq.1, ux_s]
def c0 : TColor := ⟨0, 0, 0, 0⟩
def pt0 : TPaint := ⟨0, c0, c0, ⟨0, 0⟩, ⟨0, 0⟩⟩
def clr : List UInt8 → TColor
  | [a, b, c, d] => ⟨IntKind.i64.wrap (a.toNat : Int), IntKind.i64.wrap (b.toNat : Int), IntKind.i64.wrap (c.toNat : Int), IntKind.i64.wrap (d.toNat : Int)⟩
  | _ => c0
noncomputable def pok (p : List UInt8) : Bool := (ux p).2 && decide ((ux p).1.length = 4)
noncomputable def pcl (p : List UInt8) : TColor := if pok p then clr (ux p).1 else c0
theorem len4 {l : List UInt8} (h : l.length = 4) : ∃ a b c d, l = [a, b, c, d] := by
  match l, h with
  | [a, b, c, d], _ => exact ⟨a, b, c, d, rfl⟩
theorem plain_s (p : List UInt8) : spec_l24Plain p = some (if pok p then ⟨1, pcl p, c0, ⟨0, 0⟩, ⟨0, 0⟩⟩ else pt0, pok p) := by
  unfold spec_l24Plain pcl pok
  rw [ux_s, bnd_some]
  obtain ⟨w, o⟩ := ux p
  try dsimp only
  cases o with
  | false => simp [pt0, c0]
  | true =>
    rw [cnd_true]
    by_cases h : w.length = 4
    · obtain ⟨a, b, c, d, rfl⟩ := len4 h
      rfl
    · rw [iqf (by omega), cnd_false]
      simp [h, pt0, c0]
theorem nx_nil (b : Bool) : impl_lineReader_next ⟨[], b⟩ = some ([], ⟨[], true⟩) := rfl
theorem nx_cons (p : List UInt8) (l : List (List UInt8)) (b : Bool) : impl_lineReader_next ⟨p :: l, b⟩ = some (p, ⟨l, b⟩) := by
  unfold impl_lineReader_next
  try dsimp only
  rw [iqf (by simp; omega), cnd_false]
  rw [show idx (p :: l) 0 = some p from rfl, bnd_some]
  have := slc_some (l := p :: l) (a := 1) (b := (p :: l).length) (by simp) (Nat.le_refl _)
  rw [show ((1 : Nat) : Int) = 1 from rfl] at this
  rw [this, bnd_some]
  simp
theorem num_cons (p : List UInt8) (l : List (List UInt8)) (b : Bool) : impl_lineReader_number ⟨p :: l, b⟩ = some ((rd p).1, ⟨l, b || !(rd p).2⟩) := by
  unfold impl_lineReader_number
  rw [nx_cons, bnd_some]; try dsimp only
  rw [rd_i, bnd_some]; try dsimp only
  cases b <;> rfl
theorem num_nil (b : Bool) : impl_lineReader_number ⟨[], b⟩ = some (0, ⟨[], true⟩) := by
  unfold impl_lineReader_number
  rw [nx_nil, bnd_some]; try dsimp only
  rw [rd_i, rd_nil, bnd_some]; rfl
theorem col_of {r r' : TLineReader} {p : List UInt8} (h : impl_lineReader_next r = some (p, r')) : impl_lineReader_color r = some (pcl p, ⟨r'.parts, r'.bad || !pok p⟩) := by
  unfold impl_lineReader_color pcl pok
  rw [h, bnd_some]; try dsimp only
  rw [ux_i, bnd_some]
  obtain ⟨w, o⟩ := ux p
  try dsimp only
  cases o with
  | false => simp [c0]
  | true =>
    rw [cnd_true]
    by_cases h : w.length = 4
    · obtain ⟨a, b, c, d, rfl⟩ := len4 h
      show some (clr [a, b, c, d], r') = _
      simp
    · rw [iqf (by omega), cnd_false]
      simp [h, c0]
theorem col_cons (p : List UInt8) (l : List (List UInt8)) (b : Bool) : impl_lineReader_color ⟨p :: l, b⟩ = some (pcl p, ⟨l, b || !pok p⟩) := col_of (nx_cons p l b)
def crn (b : TBox) : List TPoint := [⟨b.x0, b.y0⟩, ⟨b.x1, b.y0⟩, ⟨b.x1, b.y1⟩, ⟨b.x0, b.y1⟩]
def rectP (b : TBox) (o : Bool) : List Int × List TPoint := cond o ([1, 2, 2, 2, 5], crn b) ([], [])
theorem pts_i (b : TBox) : ∃ o : Bool, impl_RectPath b = some (rectP b o) ∧ spec_RectPath b = some (rectP b o) := by
  unfold impl_RectPath spec_RectPath impl_corners
  rw [bnd_some, m_impl_Empty, m_spec_Empty, bnd_some, bnd_some]
  cases b.empty with
  | true => exact ⟨false, rfl, rfl⟩
  | false =>
    simp only [cnd_false]
    rw [t_PointOk, t_PointOk, bnd_some]
    unfold impl_pointsOk
    have hl := loopI_row (l := crn b) (f := impl_pointsOk_l0 (crn b)) (fun q => tin q.x (-8388608) 8388608 && tin q.y (-8388608) 8388608) (by simp [crn]) (fun i hi => by rw [impl_pointsOk_l0, ilf (by omega), cnd_false, idx_nat hi, bnd_some, s_PointOk, t_PointOk, bnd_some]) (by rw [impl_pointsOk_l0, ilt (by omega), cnd_true])
    simp only [crn] at hl
    rw [hl, bnd_some]
    try dsimp only
    refine ⟨tin b.x0 (-8388608) 8388608 && tin b.y0 (-8388608) 8388608 && (tin b.x1 (-8388608) 8388608 && tin b.y1 (-8388608) 8388608), ?_, ?_⟩
    · simp only [List.all_cons, List.all_nil, Bool.and_true]
      cases tin b.x0 (-8388608) 8388608 <;> cases tin b.y0 (-8388608) 8388608 <;> cases tin b.x1 (-8388608) 8388608 <;> cases tin b.y1 (-8388608) 8388608 <;> rfl
    · rw [bnd_some]
      cases tin b.x0 (-8388608) 8388608 <;> cases tin b.y0 (-8388608) 8388608 <;> cases tin b.x1 (-8388608) 8388608 <;> cases tin b.y1 (-8388608) 8388608 <;> rfl
theorem nums_s {a : List (List UInt8)} {n : Nat} (h : n + 1 ≤ a.length) (hn : n ≤ 100) : spec_l24Nums a 1 (n : Int) = some (if ((a.drop 1).take n).all (fun p => (rd p).2) then (((a.drop 1).take n).map (fun p => (rd p).1), true) else ([], false)) := by
  have key : ∃ r, loopI (spec_l24Nums_l0 a 1 (n : Int)) (1, []) = some r ∧ ((r = .inl (((a.drop 1).take n).map (fun p => (rd p).1)) ∧ ((a.drop 1).take n).all (fun p => (rd p).2) = true) ∨ (r = .inr () ∧ ((a.drop 1).take n).all (fun p => (rd p).2) = false)) := by
    refine loopI_tot (fun x => ∃ j : Nat, x = (((j + 1 : Nat) : Int), ((a.drop 1).take j).map (fun p => (rd p).1)) ∧ j ≤ n ∧ ((a.drop 1).take j).all (fun p => (rd p).2) = true) _ (fun x => n + 1 - x.1.toNat) ?_ ⟨0, by simp, by omega, by simp⟩
    rintro _ ⟨j, rfl, h1, h2⟩
    rw [spec_l24Nums_l0, wr_in (n := 1 + (n : Int)) (by omega)]
    by_cases he : j = n
    · right
      rw [ilt (by omega), cnd_true]
      subst he
      exact ⟨_, rfl, .inl ⟨rfl, h2⟩⟩
    · have hj : j + 1 < a.length := by omega
      have hs : (a.drop 1).take (j + 1) = (a.drop 1).take j ++ [a[j + 1]] := by
        rw [List.take_add_one, List.getElem?_drop, show 1 + j = j + 1 from by omega, List.getElem?_eq_getElem hj]; rfl
      have hm : a[j + 1] ∈ (a.drop 1).take n := List.mem_iff_getElem?.2 ⟨j, by rw [List.getElem?_take, if_pos (by omega), List.getElem?_drop, show 1 + j = j + 1 from by omega, List.getElem?_eq_getElem hj]⟩
      rw [ilf (by omega), cnd_false, idx_nat hj, bnd_some, rd_s, bnd_some]
      try dsimp only
      cases ho : (rd a[j + 1]).2 with
      | false => right; rw [cnd_false]; exact ⟨_, rfl, .inr ⟨rfl, List.all_eq_false.2 ⟨_, hm, by simp [ho]⟩⟩⟩
      | true =>
        left
        rw [cnd_true, chkP_pos (by rw [List.length_map, List.length_take]; omega), nam_eq, wr_in (n := ((j + 1 : Nat) : Int) + 1) (by omega)]
        refine ⟨_, rfl, ⟨j + 1, by rw [hs, List.map_append]; rfl, by omega, by rw [hs, List.all_append, h2]; simp [ho]⟩, by try dsimp only; omega⟩
  obtain ⟨r, e, ⟨rfl, h1⟩ | ⟨rfl, h1⟩⟩ := key
  · unfold spec_l24Nums
    rw [e, bnd_some, h1]; rfl
  · unfold spec_l24Nums
    rw [e, bnd_some, h1]; rfl
/-! The deeds, word by word -/
def m0 : TMat := ⟨0, 0, 0, 0, 0, 0⟩
def n0 : TNode := ⟨0, 0, false, m0, ⟨[], []⟩, false, 0, [], pt0, 0, 0, ⟨[], []⟩⟩
def d0 : TDeed := ⟨0, n0, 0, 0, 0, 0, 0⟩
def dOf (r : Int × Int × Int × Bool × TMat × Bool × Int × TPaint × Int × Int × Int × Int × Int × Int × Int × Bool × List Int × List TPoint) : TDeed := match r with
  | (k, i, p, g, m, ev, w, pt, md, fd, i2, p2, b2, x, y, _, vs, ps) => ⟨k, ⟨i, p, g, m, ⟨vs, ps⟩, ev, w, [], pt, md, fd, ⟨[], []⟩⟩, i2, p2, b2, x, y⟩
def fOf (r : Int × Int × Int × Bool × TMat × Bool × Int × TPaint × Int × Int × Int × Int × Int × Int × Int × Bool × List Int × List TPoint) : Bool := match r with
  | (_, _, _, _, _, _, _, _, _, _, _, _, _, _, _, f, _, _) => f
theorem rdeed_of {p : List (List UInt8)} {k i pp : Int} {g : Bool} {m : TMat} {ev : Bool} {w : Int} {pt : TPaint} {md fd i2 p2 b2 x y : Int} {q : TLineReader} {vs : List Int} {ps : List TPoint} (h : impl_lineReader_deed ⟨p, false⟩ = some (k, i, pp, g, m, ev, w, pt, md, fd, i2, p2, b2, x, y, q, vs, ps)) :
    impl_readDeed p = some (k, i, pp, g, m, ev, w, pt, md, fd, i2, p2, b2, x, y, !q.bad && ieq (q.parts.length : Int) 0, vs, ps) := by
  unfold impl_readDeed
  rw [h, bnd_some]; try dsimp only
  cases q.bad <;> rfl
def wG : List UInt8 := [103, 114, 111, 117, 112]
def wR : List UInt8 := [114, 101, 99, 116]
def wL : List UInt8 := [108, 105, 110, 101]
def wD : List UInt8 := [100, 114, 111, 112]
def wP : List UInt8 := [112, 108, 97, 99, 101]
def wT : List UInt8 := [112, 97, 105, 110, 116]
def wH : List UInt8 := [104, 105, 116]
def wS : List UInt8 := [115, 105, 122, 101]
/-- What is asked of a line's deed. -/
def DeedOk (p : List (List UInt8)) : Prop := ∃ r : Int × Int × Int × Bool × TMat × Bool × Int × TPaint × Int × Int × Int × Int × Int × Int × Int × Bool × List Int × List TPoint, impl_readDeed p = some r ∧ (∃ d, spec_l24Deed p = some (d, fOf r) ∧ (fOf r = true → d = dOf r)) ∧ (dOf r).node.path.verbs.length ≤ 5 ∧ (dOf r).node.path.points.length ≤ 4
theorem sq_f {a b : List UInt8} (h : a ≠ b) : sq' a b = false := by unfold sq'; simp [h]
theorem ix0 (w : List UInt8) (ps : List (List UInt8)) : idx (w :: ps) 0 = some w := rfl

/-! ### The deeds, word by word (printed by gen44.py) -/
theorem ix1 {α : Type} (a b : α) (l : List α) : idx (a :: b :: l) 1 = some b := rfl
theorem ix2 {α : Type} (a b c : α) (l : List α) : idx (a :: b :: c :: l) 2 = some c := rfl
theorem ix3 {α : Type} (a b c d : α) (l : List α) : idx (a :: b :: c :: d :: l) 3 = some d := rfl
theorem ix4 {α : Type} (a b c d e : α) (l : List α) : idx (a :: b :: c :: d :: e :: l) 4 = some e := rfl
theorem ix5 {α : Type} (a b c d e f : α) (l : List α) : idx (a :: b :: c :: d :: e :: f :: l) 5 = some f := rfl
theorem ix6 {α : Type} (a b c d e f g : α) (l : List α) : idx (a :: b :: c :: d :: e :: f :: g :: l) 6 = some g := rfl
theorem iqx {a b : Int} (h : a = b) : ieq a b = true := by rw [h, iqt]
theorem ix00 {α : Type} (a : α) (l : List α) : idx (a :: l) 0 = some a := rfl
noncomputable def rp (b : TBox) : List Int × List TPoint := (spec_RectPath b).getD ([], [])
theorem rp_s (b : TBox) : spec_RectPath b = some (rp b) := by
  obtain ⟨o, _, h⟩ := pts_i b
  unfold rp; rw [h]; rfl
theorem rp_i (b : TBox) : impl_RectPath b = some (rp b) := by
  obtain ⟨o, h1, h2⟩ := pts_i b
  unfold rp; rw [h1, h2]; rfl
theorem rp_l (b : TBox) : (rp b).1.length ≤ 5 ∧ (rp b).2.length ≤ 4 := by
  obtain ⟨o, h1, h2⟩ := pts_i b
  unfold rp; rw [h2]
  cases o <;> simp [rectP, crn]
theorem col_nil' (b : Bool) : impl_lineReader_color ⟨[], b⟩ = some (pcl [], ⟨[], true⟩) := by rw [col_of (nx_nil b)]; rfl
theorem deedNo {p : List (List UInt8)} {k i pp : Int} {g : Bool} {m : TMat} {ev : Bool} {w : Int} {pt : TPaint} {md fd i2 p2 b2 x y : Int} {q : TLineReader} {vs : List Int} {ps : List TPoint} (h : impl_lineReader_deed ⟨p, false⟩ = some (k, i, pp, g, m, ev, w, pt, md, fd, i2, p2, b2, x, y, q, vs, ps))
    (hb : (!q.bad && ieq (q.parts.length : Int) 0) = false) (hs : spec_l24Deed p = some (d0, false)) (hl : vs.length ≤ 5 ∧ ps.length ≤ 4) : DeedOk p := by
  refine ⟨_, rdeed_of h, ⟨d0, ?_, fun hh => ?_⟩, hl⟩
  · rw [hs, hb]; rfl
  · rw [hb] at hh; cases hh
theorem deedYes {p : List (List UInt8)} {k i pp : Int} {g : Bool} {m : TMat} {ev : Bool} {w : Int} {pt : TPaint} {md fd i2 p2 b2 x y : Int} {q : TLineReader} {vs : List Int} {ps : List TPoint} {d : TDeed} {ok : Bool} (h : impl_lineReader_deed ⟨p, false⟩ = some (k, i, pp, g, m, ev, w, pt, md, fd, i2, p2, b2, x, y, q, vs, ps))
    (hb : (!q.bad && ieq (q.parts.length : Int) 0) = ok) (hs : spec_l24Deed p = some (d, ok)) (hd : ok = true → d = ⟨k, ⟨i, pp, g, m, ⟨vs, ps⟩, ev, w, [], pt, md, fd, ⟨[], []⟩⟩, i2, p2, b2, x, y⟩) (hl : vs.length ≤ 5 ∧ ps.length ≤ 4) : DeedOk p := by
  refine ⟨_, rdeed_of h, ⟨d, ?_, fun hh => ?_⟩, hl⟩
  · rw [hs, hb]; rfl
  · rw [hb] at hh; exact hd hh
theorem spec_T_no (ps : List (List UInt8)) (h : ps.length ≠ 0) : spec_l24Deed (wT :: ps) = some (d0, false) := by
  have e : loopI (spec_l24Deed_l0 (wT :: ps)) 0 = some (.inl ()) := by
    rw [loopI_go (x := 0) (y := 1) (by rfl)]
    rw [loopI_go (x := 1) (y := 2) (by rfl)]
    have st : spec_l24Deed_l0 (wT :: ps) 2 = some (.inl 3) := by
      unfold spec_l24Deed_l0
      simp only [ix00, ix1, ix2, ix3, ix4, ix5, ix6, bnd_some, List.length_cons, List.length_nil]
      rw [ilf (by omega), cnd_false, show sq' wT [112, 97, 105, 110, 116] = true from rfl, cnd_true, wr_in (n := 0 + 1) (by omega), iqf (by omega), cnd_false]; rfl
    rw [loopI_go st]
    rw [loopI_go (x := 3) (y := 4) (by rfl)]
    rw [loopI_go (x := 4) (y := 5) (by rfl)]
    exact loopI_end (by rfl)
  unfold spec_l24Deed
  rw [ix0, bnd_some]
  simp only [show sq' wT [103, 114, 111, 117, 112] = false from rfl, show sq' wT [114, 101, 99, 116] = false from rfl, show sq' wT [108, 105, 110, 101] = false from rfl, cnd_true, cnd_false]
  rw [e, bnd_some]; rfl
theorem deed_T (ps : List (List UInt8)) : DeedOk (wT :: ps) := by
  by_cases h : ps.length = 0
  case neg =>
    have hs := spec_T_no ps h
    match ps, h, hs with
    | x :: l, _, hs => exact deedNo (by unfold impl_lineReader_deed; simp only [nx_cons, bnd_some, num_cons, num_nil, col_cons, col_nil', rp_i, impl_lineReader_created, impl_lineReader_box, impl_Still, cnd_true, cnd_false, show sq' wT [103, 114, 111, 117, 112] = false from rfl, show sq' wT [114, 101, 99, 116] = false from rfl, show sq' wT [108, 105, 110, 101] = false from rfl, show sq' wT [100, 114, 111, 112] = false from rfl, show sq' wT [112, 108, 97, 99, 101] = false from rfl, show sq' wT [112, 97, 105, 110, 116] = true from rfl, show sq' wT [104, 105, 116] = false from rfl, show sq' wT [115, 105, 122, 101] = false from rfl]; rfl) (by try dsimp only; rw [iqf (by simp; omega), Bool.and_false]) hs (by first | exact rp_l _ | simp)
    | [], h, hs => exact (h rfl).elim
  case pos =>
    obtain rfl := List.length_eq_zero_iff.1 h
    have hi : ∃ b, impl_lineReader_deed ⟨[wT], false⟩ = some (5, 0, 0, false, m0, false, 0, pt0, 0, 0, 0, 0, 0, 0, 0, ⟨[], b⟩, [], []) ∧ (!b && ieq 0 0) = (true) := by
      refine ⟨_, by unfold impl_lineReader_deed; simp only [nx_cons, bnd_some, num_cons, num_nil, col_cons, col_nil', rp_i, impl_lineReader_created, impl_lineReader_box, impl_Still, cnd_true, cnd_false, show sq' wT [103, 114, 111, 117, 112] = false from rfl, show sq' wT [114, 101, 99, 116] = false from rfl, show sq' wT [108, 105, 110, 101] = false from rfl, show sq' wT [100, 114, 111, 112] = false from rfl, show sq' wT [112, 108, 97, 99, 101] = false from rfl, show sq' wT [112, 97, 105, 110, 116] = true from rfl, show sq' wT [104, 105, 116] = false from rfl, show sq' wT [115, 105, 122, 101] = false from rfl]; rfl, ?_⟩
      rfl
    obtain ⟨b, hi, hb⟩ := hi
    have hn := nums_s (a := [wT]) (n := 0) (by simp) (by omega)
    simp only [List.drop_succ_cons, List.drop_zero, List.take_succ_cons, List.take_zero, List.all_cons, List.all_nil, List.map_cons, List.map_nil] at hn
    have e : ∃ d, spec_l24Deed [wT] = some (d, (true)) ∧ ((true) = true → d = ⟨5, n0, 0, 0, 0, 0, 0⟩) := by
      unfold spec_l24Deed
      rw [ix0, bnd_some]
      simp only [show sq' wT [103, 114, 111, 117, 112] = false from rfl, show sq' wT [114, 101, 99, 116] = false from rfl, show sq' wT [108, 105, 110, 101] = false from rfl, cnd_true, cnd_false]
      rw [loopI_go (x := 0) (y := 1) (by rfl)]
      rw [loopI_go (x := 1) (y := 2) (by rfl)]
      have hq : (true) = true := by simp [Bool.and_assoc]
      replace hn : spec_l24Nums [wT] 1 0 = _ := hn
      have hA : true = true := rfl
      · rw [if_pos trivial] at hn
        have st : spec_l24Deed_l0 [wT] 2 = some (.inr (.inr (5, 0, 0, 0, 0, 0, true))) := by
          unfold spec_l24Deed_l0; simp only [ix00, ix1, ix2, ix3, ix4, ix5, ix6, bnd_some, List.length_cons, List.length_nil]; rw [ilf (by omega), cnd_false, show sq' wT [112, 97, 105, 110, 116] = true from rfl, cnd_true, wr_in (n := 0 + 1) (by omega), iqx (by omega), cnd_true, hn, bnd_some]
          rfl
        refine ⟨_, by rw [loopI_end (r := .inr (5, 0, 0, 0, 0, 0, true)) st, bnd_some, hq, hA]; first | done | rfl, fun hh => ?_⟩
        rfl
    obtain ⟨d, e1, e2⟩ := e
    exact deedYes hi hb e1 e2 (by first | exact rp_l _ | simp)
theorem spec_D_no (ps : List (List UInt8)) (h : ps.length ≠ 1) : spec_l24Deed (wD :: ps) = some (d0, false) := by
  have e : loopI (spec_l24Deed_l0 (wD :: ps)) 0 = some (.inl ()) := by
    have st : spec_l24Deed_l0 (wD :: ps) 0 = some (.inl 1) := by
      unfold spec_l24Deed_l0
      simp only [ix00, ix1, ix2, ix3, ix4, ix5, ix6, bnd_some, List.length_cons, List.length_nil]
      rw [ilf (by omega), cnd_false, show sq' wD [100, 114, 111, 112] = true from rfl, cnd_true, wr_in (n := 1 + 1) (by omega), iqf (by omega), cnd_false]; rfl
    rw [loopI_go st]
    rw [loopI_go (x := 1) (y := 2) (by rfl)]
    rw [loopI_go (x := 2) (y := 3) (by rfl)]
    rw [loopI_go (x := 3) (y := 4) (by rfl)]
    rw [loopI_go (x := 4) (y := 5) (by rfl)]
    exact loopI_end (by rfl)
  unfold spec_l24Deed
  rw [ix0, bnd_some]
  simp only [show sq' wD [103, 114, 111, 117, 112] = false from rfl, show sq' wD [114, 101, 99, 116] = false from rfl, show sq' wD [108, 105, 110, 101] = false from rfl, cnd_true, cnd_false]
  rw [e, bnd_some]; rfl
theorem deed_D (ps : List (List UInt8)) : DeedOk (wD :: ps) := by
  by_cases h : ps.length = 1
  case neg =>
    have hs := spec_D_no ps h
    match ps, h, hs with
    | [], _, hs => exact deedNo (by unfold impl_lineReader_deed; simp only [nx_cons, bnd_some, num_cons, num_nil, col_cons, col_nil', rp_i, impl_lineReader_created, impl_lineReader_box, impl_Still, cnd_true, cnd_false, show sq' wD [103, 114, 111, 117, 112] = false from rfl, show sq' wD [114, 101, 99, 116] = false from rfl, show sq' wD [108, 105, 110, 101] = false from rfl, show sq' wD [100, 114, 111, 112] = true from rfl, show sq' wD [112, 108, 97, 99, 101] = false from rfl, show sq' wD [112, 97, 105, 110, 116] = false from rfl, show sq' wD [104, 105, 116] = false from rfl, show sq' wD [115, 105, 122, 101] = false from rfl]; rfl) (by rfl) hs (by first | exact rp_l _ | simp)
    | p1 :: x :: l, _, hs => exact deedNo (by unfold impl_lineReader_deed; simp only [nx_cons, bnd_some, num_cons, num_nil, col_cons, col_nil', rp_i, impl_lineReader_created, impl_lineReader_box, impl_Still, cnd_true, cnd_false, show sq' wD [103, 114, 111, 117, 112] = false from rfl, show sq' wD [114, 101, 99, 116] = false from rfl, show sq' wD [108, 105, 110, 101] = false from rfl, show sq' wD [100, 114, 111, 112] = true from rfl, show sq' wD [112, 108, 97, 99, 101] = false from rfl, show sq' wD [112, 97, 105, 110, 116] = false from rfl, show sq' wD [104, 105, 116] = false from rfl, show sq' wD [115, 105, 122, 101] = false from rfl]; rfl) (by try dsimp only; rw [iqf (by simp; omega), Bool.and_false]) hs (by first | exact rp_l _ | simp)
    | [p1], h, hs => exact (h rfl).elim
  case pos =>
    obtain ⟨p1, rfl⟩ : ∃ p1, ps = [p1] := by
      match ps, h with
      | [p1], _ => exact ⟨p1, rfl⟩
    have hi : ∃ b, impl_lineReader_deed ⟨[wD, p1], false⟩ = some (2, 0, 0, false, m0, false, 0, pt0, 0, 0, (rd p1).1, 0, 0, 0, 0, ⟨[], b⟩, [], []) ∧ (!b && ieq 0 0) = ((rd p1).2) := by
      refine ⟨_, by unfold impl_lineReader_deed; simp only [nx_cons, bnd_some, num_cons, num_nil, col_cons, col_nil', rp_i, impl_lineReader_created, impl_lineReader_box, impl_Still, cnd_true, cnd_false, show sq' wD [103, 114, 111, 117, 112] = false from rfl, show sq' wD [114, 101, 99, 116] = false from rfl, show sq' wD [108, 105, 110, 101] = false from rfl, show sq' wD [100, 114, 111, 112] = true from rfl, show sq' wD [112, 108, 97, 99, 101] = false from rfl, show sq' wD [112, 97, 105, 110, 116] = false from rfl, show sq' wD [104, 105, 116] = false from rfl, show sq' wD [115, 105, 122, 101] = false from rfl]; rfl, ?_⟩
      generalize (rd p1).2 = o0
      cases o0 <;> rfl
    obtain ⟨b, hi, hb⟩ := hi
    have hn := nums_s (a := [wD, p1]) (n := 1) (by simp) (by omega)
    simp only [List.drop_succ_cons, List.drop_zero, List.take_succ_cons, List.take_zero, List.all_cons, List.all_nil, List.map_cons, List.map_nil] at hn
    have e : ∃ d, spec_l24Deed [wD, p1] = some (d, ((rd p1).2)) ∧ (((rd p1).2) = true → d = ⟨2, n0, (rd p1).1, 0, 0, 0, 0⟩) := by
      unfold spec_l24Deed
      rw [ix0, bnd_some]
      simp only [show sq' wD [103, 114, 111, 117, 112] = false from rfl, show sq' wD [114, 101, 99, 116] = false from rfl, show sq' wD [108, 105, 110, 101] = false from rfl, cnd_true, cnd_false]
      have hq : ((rd p1).2) = ((rd p1).2 && true) := by simp [Bool.and_assoc]
      replace hn : spec_l24Nums [wD, p1] 1 1 = _ := hn
      by_cases hA : ((rd p1).2 && true) = true
      · rw [if_pos hA] at hn
        have st : spec_l24Deed_l0 [wD, p1] 0 = some (.inr (.inr (2, (rd p1).1, 0, 0, 0, 0, true))) := by
          unfold spec_l24Deed_l0; simp only [ix00, ix1, ix2, ix3, ix4, ix5, ix6, bnd_some, List.length_cons, List.length_nil]; rw [ilf (by omega), cnd_false, show sq' wD [100, 114, 111, 112] = true from rfl, cnd_true, wr_in (n := 1 + 1) (by omega), iqx (by omega), cnd_true, hn, bnd_some]
          rfl
        refine ⟨_, by rw [loopI_end (r := .inr (2, (rd p1).1, 0, 0, 0, 0, true)) st, bnd_some, hq, hA]; first | done | rfl, fun hh => ?_⟩
        rfl
      · rw [if_neg hA] at hn
        have st : spec_l24Deed_l0 [wD, p1] 0 = some (.inr (.inr (0, 0, 0, 0, 0, 0, false))) := by
          unfold spec_l24Deed_l0; simp only [ix00, ix1, ix2, ix3, ix4, ix5, ix6, bnd_some, List.length_cons, List.length_nil]; rw [ilf (by omega), cnd_false, show sq' wD [100, 114, 111, 112] = true from rfl, cnd_true, wr_in (n := 1 + 1) (by omega), iqx (by omega), cnd_true, hn, bnd_some]; rfl
        have hk : ((rd p1).2) = false := by rw [hq, Bool.eq_false_iff.2 hA]
        refine ⟨_, by rw [loopI_end (r := .inr (0, 0, 0, 0, 0, 0, false)) st, bnd_some, hk]; first | done | rfl, fun hh => ?_⟩
        rw [hk] at hh; cases hh
    obtain ⟨d, e1, e2⟩ := e
    exact deedYes hi hb e1 e2 (by first | exact rp_l _ | simp)
theorem spec_P_no (ps : List (List UInt8)) (h : ps.length ≠ 3) : spec_l24Deed (wP :: ps) = some (d0, false) := by
  have e : loopI (spec_l24Deed_l0 (wP :: ps)) 0 = some (.inl ()) := by
    rw [loopI_go (x := 0) (y := 1) (by rfl)]
    have st : spec_l24Deed_l0 (wP :: ps) 1 = some (.inl 2) := by
      unfold spec_l24Deed_l0
      simp only [ix00, ix1, ix2, ix3, ix4, ix5, ix6, bnd_some, List.length_cons, List.length_nil]
      rw [ilf (by omega), cnd_false, show sq' wP [112, 108, 97, 99, 101] = true from rfl, cnd_true, wr_in (n := 3 + 1) (by omega), iqf (by omega), cnd_false]; rfl
    rw [loopI_go st]
    rw [loopI_go (x := 2) (y := 3) (by rfl)]
    rw [loopI_go (x := 3) (y := 4) (by rfl)]
    rw [loopI_go (x := 4) (y := 5) (by rfl)]
    exact loopI_end (by rfl)
  unfold spec_l24Deed
  rw [ix0, bnd_some]
  simp only [show sq' wP [103, 114, 111, 117, 112] = false from rfl, show sq' wP [114, 101, 99, 116] = false from rfl, show sq' wP [108, 105, 110, 101] = false from rfl, cnd_true, cnd_false]
  rw [e, bnd_some]; rfl
theorem deed_P (ps : List (List UInt8)) : DeedOk (wP :: ps) := by
  by_cases h : ps.length = 3
  case neg =>
    have hs := spec_P_no ps h
    match ps, h, hs with
    | [], _, hs => exact deedNo (by unfold impl_lineReader_deed; simp only [nx_cons, bnd_some, num_cons, num_nil, col_cons, col_nil', rp_i, impl_lineReader_created, impl_lineReader_box, impl_Still, cnd_true, cnd_false, show sq' wP [103, 114, 111, 117, 112] = false from rfl, show sq' wP [114, 101, 99, 116] = false from rfl, show sq' wP [108, 105, 110, 101] = false from rfl, show sq' wP [100, 114, 111, 112] = false from rfl, show sq' wP [112, 108, 97, 99, 101] = true from rfl, show sq' wP [112, 97, 105, 110, 116] = false from rfl, show sq' wP [104, 105, 116] = false from rfl, show sq' wP [115, 105, 122, 101] = false from rfl]; rfl) (by rfl) hs (by first | exact rp_l _ | simp)
    | [p1], _, hs => exact deedNo (by unfold impl_lineReader_deed; simp only [nx_cons, bnd_some, num_cons, num_nil, col_cons, col_nil', rp_i, impl_lineReader_created, impl_lineReader_box, impl_Still, cnd_true, cnd_false, show sq' wP [103, 114, 111, 117, 112] = false from rfl, show sq' wP [114, 101, 99, 116] = false from rfl, show sq' wP [108, 105, 110, 101] = false from rfl, show sq' wP [100, 114, 111, 112] = false from rfl, show sq' wP [112, 108, 97, 99, 101] = true from rfl, show sq' wP [112, 97, 105, 110, 116] = false from rfl, show sq' wP [104, 105, 116] = false from rfl, show sq' wP [115, 105, 122, 101] = false from rfl]; rfl) (by rfl) hs (by first | exact rp_l _ | simp)
    | [p1, p2], _, hs => exact deedNo (by unfold impl_lineReader_deed; simp only [nx_cons, bnd_some, num_cons, num_nil, col_cons, col_nil', rp_i, impl_lineReader_created, impl_lineReader_box, impl_Still, cnd_true, cnd_false, show sq' wP [103, 114, 111, 117, 112] = false from rfl, show sq' wP [114, 101, 99, 116] = false from rfl, show sq' wP [108, 105, 110, 101] = false from rfl, show sq' wP [100, 114, 111, 112] = false from rfl, show sq' wP [112, 108, 97, 99, 101] = true from rfl, show sq' wP [112, 97, 105, 110, 116] = false from rfl, show sq' wP [104, 105, 116] = false from rfl, show sq' wP [115, 105, 122, 101] = false from rfl]; rfl) (by rfl) hs (by first | exact rp_l _ | simp)
    | p1 :: p2 :: p3 :: x :: l, _, hs => exact deedNo (by unfold impl_lineReader_deed; simp only [nx_cons, bnd_some, num_cons, num_nil, col_cons, col_nil', rp_i, impl_lineReader_created, impl_lineReader_box, impl_Still, cnd_true, cnd_false, show sq' wP [103, 114, 111, 117, 112] = false from rfl, show sq' wP [114, 101, 99, 116] = false from rfl, show sq' wP [108, 105, 110, 101] = false from rfl, show sq' wP [100, 114, 111, 112] = false from rfl, show sq' wP [112, 108, 97, 99, 101] = true from rfl, show sq' wP [112, 97, 105, 110, 116] = false from rfl, show sq' wP [104, 105, 116] = false from rfl, show sq' wP [115, 105, 122, 101] = false from rfl]; rfl) (by try dsimp only; rw [iqf (by simp; omega), Bool.and_false]) hs (by first | exact rp_l _ | simp)
    | [p1, p2, p3], h, hs => exact (h rfl).elim
  case pos =>
    obtain ⟨p1, p2, p3, rfl⟩ : ∃ p1 p2 p3, ps = [p1, p2, p3] := by
      match ps, h with
      | [p1, p2, p3], _ => exact ⟨p1, p2, p3, rfl⟩
    have hi : ∃ b, impl_lineReader_deed ⟨[wP, p1, p2, p3], false⟩ = some (3, 0, 0, false, m0, false, 0, pt0, 0, 0, (rd p1).1, (rd p2).1, (rd p3).1, 0, 0, ⟨[], b⟩, [], []) ∧ (!b && ieq 0 0) = ((rd p1).2 && (rd p2).2 && (rd p3).2) := by
      refine ⟨_, by unfold impl_lineReader_deed; simp only [nx_cons, bnd_some, num_cons, num_nil, col_cons, col_nil', rp_i, impl_lineReader_created, impl_lineReader_box, impl_Still, cnd_true, cnd_false, show sq' wP [103, 114, 111, 117, 112] = false from rfl, show sq' wP [114, 101, 99, 116] = false from rfl, show sq' wP [108, 105, 110, 101] = false from rfl, show sq' wP [100, 114, 111, 112] = false from rfl, show sq' wP [112, 108, 97, 99, 101] = true from rfl, show sq' wP [112, 97, 105, 110, 116] = false from rfl, show sq' wP [104, 105, 116] = false from rfl, show sq' wP [115, 105, 122, 101] = false from rfl]; rfl, ?_⟩
      generalize (rd p1).2 = o0
      generalize (rd p2).2 = o1
      generalize (rd p3).2 = o2
      cases o0 <;> cases o1 <;> cases o2 <;> rfl
    obtain ⟨b, hi, hb⟩ := hi
    have hn := nums_s (a := [wP, p1, p2, p3]) (n := 3) (by simp) (by omega)
    simp only [List.drop_succ_cons, List.drop_zero, List.take_succ_cons, List.take_zero, List.all_cons, List.all_nil, List.map_cons, List.map_nil] at hn
    have e : ∃ d, spec_l24Deed [wP, p1, p2, p3] = some (d, ((rd p1).2 && (rd p2).2 && (rd p3).2)) ∧ (((rd p1).2 && (rd p2).2 && (rd p3).2) = true → d = ⟨3, n0, (rd p1).1, (rd p2).1, (rd p3).1, 0, 0⟩) := by
      unfold spec_l24Deed
      rw [ix0, bnd_some]
      simp only [show sq' wP [103, 114, 111, 117, 112] = false from rfl, show sq' wP [114, 101, 99, 116] = false from rfl, show sq' wP [108, 105, 110, 101] = false from rfl, cnd_true, cnd_false]
      rw [loopI_go (x := 0) (y := 1) (by rfl)]
      have hq : ((rd p1).2 && (rd p2).2 && (rd p3).2) = ((rd p1).2 && ((rd p2).2 && ((rd p3).2 && true))) := by simp [Bool.and_assoc]
      replace hn : spec_l24Nums [wP, p1, p2, p3] 1 3 = _ := hn
      by_cases hA : ((rd p1).2 && ((rd p2).2 && ((rd p3).2 && true))) = true
      · rw [if_pos hA] at hn
        have st : spec_l24Deed_l0 [wP, p1, p2, p3] 1 = some (.inr (.inr (3, (rd p1).1, (rd p2).1, (rd p3).1, 0, 0, true))) := by
          unfold spec_l24Deed_l0; simp only [ix00, ix1, ix2, ix3, ix4, ix5, ix6, bnd_some, List.length_cons, List.length_nil]; rw [ilf (by omega), cnd_false, show sq' wP [112, 108, 97, 99, 101] = true from rfl, cnd_true, wr_in (n := 3 + 1) (by omega), iqx (by omega), cnd_true, hn, bnd_some]
          rfl
        refine ⟨_, by rw [loopI_end (r := .inr (3, (rd p1).1, (rd p2).1, (rd p3).1, 0, 0, true)) st, bnd_some, hq, hA]; first | done | rfl, fun hh => ?_⟩
        rfl
      · rw [if_neg hA] at hn
        have st : spec_l24Deed_l0 [wP, p1, p2, p3] 1 = some (.inr (.inr (0, 0, 0, 0, 0, 0, false))) := by
          unfold spec_l24Deed_l0; simp only [ix00, ix1, ix2, ix3, ix4, ix5, ix6, bnd_some, List.length_cons, List.length_nil]; rw [ilf (by omega), cnd_false, show sq' wP [112, 108, 97, 99, 101] = true from rfl, cnd_true, wr_in (n := 3 + 1) (by omega), iqx (by omega), cnd_true, hn, bnd_some]; rfl
        have hk : ((rd p1).2 && (rd p2).2 && (rd p3).2) = false := by rw [hq, Bool.eq_false_iff.2 hA]
        refine ⟨_, by rw [loopI_end (r := .inr (0, 0, 0, 0, 0, 0, false)) st, bnd_some, hk]; first | done | rfl, fun hh => ?_⟩
        rw [hk] at hh; cases hh
    obtain ⟨d, e1, e2⟩ := e
    exact deedYes hi hb e1 e2 (by first | exact rp_l _ | simp)
theorem spec_H_no (ps : List (List UInt8)) (h : ps.length ≠ 2) : spec_l24Deed (wH :: ps) = some (d0, false) := by
  have e : loopI (spec_l24Deed_l0 (wH :: ps)) 0 = some (.inl ()) := by
    rw [loopI_go (x := 0) (y := 1) (by rfl)]
    rw [loopI_go (x := 1) (y := 2) (by rfl)]
    rw [loopI_go (x := 2) (y := 3) (by rfl)]
    have st : spec_l24Deed_l0 (wH :: ps) 3 = some (.inl 4) := by
      unfold spec_l24Deed_l0
      simp only [ix00, ix1, ix2, ix3, ix4, ix5, ix6, bnd_some, List.length_cons, List.length_nil]
      rw [ilf (by omega), cnd_false, show sq' wH [104, 105, 116] = true from rfl, cnd_true, wr_in (n := 2 + 1) (by omega), iqf (by omega), cnd_false]; rfl
    rw [loopI_go st]
    rw [loopI_go (x := 4) (y := 5) (by rfl)]
    exact loopI_end (by rfl)
  unfold spec_l24Deed
  rw [ix0, bnd_some]
  simp only [show sq' wH [103, 114, 111, 117, 112] = false from rfl, show sq' wH [114, 101, 99, 116] = false from rfl, show sq' wH [108, 105, 110, 101] = false from rfl, cnd_true, cnd_false]
  rw [e, bnd_some]; rfl
theorem deed_H (ps : List (List UInt8)) : DeedOk (wH :: ps) := by
  by_cases h : ps.length = 2
  case neg =>
    have hs := spec_H_no ps h
    match ps, h, hs with
    | [], _, hs => exact deedNo (by unfold impl_lineReader_deed; simp only [nx_cons, bnd_some, num_cons, num_nil, col_cons, col_nil', rp_i, impl_lineReader_created, impl_lineReader_box, impl_Still, cnd_true, cnd_false, show sq' wH [103, 114, 111, 117, 112] = false from rfl, show sq' wH [114, 101, 99, 116] = false from rfl, show sq' wH [108, 105, 110, 101] = false from rfl, show sq' wH [100, 114, 111, 112] = false from rfl, show sq' wH [112, 108, 97, 99, 101] = false from rfl, show sq' wH [112, 97, 105, 110, 116] = false from rfl, show sq' wH [104, 105, 116] = true from rfl, show sq' wH [115, 105, 122, 101] = false from rfl]; rfl) (by rfl) hs (by first | exact rp_l _ | simp)
    | [p1], _, hs => exact deedNo (by unfold impl_lineReader_deed; simp only [nx_cons, bnd_some, num_cons, num_nil, col_cons, col_nil', rp_i, impl_lineReader_created, impl_lineReader_box, impl_Still, cnd_true, cnd_false, show sq' wH [103, 114, 111, 117, 112] = false from rfl, show sq' wH [114, 101, 99, 116] = false from rfl, show sq' wH [108, 105, 110, 101] = false from rfl, show sq' wH [100, 114, 111, 112] = false from rfl, show sq' wH [112, 108, 97, 99, 101] = false from rfl, show sq' wH [112, 97, 105, 110, 116] = false from rfl, show sq' wH [104, 105, 116] = true from rfl, show sq' wH [115, 105, 122, 101] = false from rfl]; rfl) (by rfl) hs (by first | exact rp_l _ | simp)
    | p1 :: p2 :: x :: l, _, hs => exact deedNo (by unfold impl_lineReader_deed; simp only [nx_cons, bnd_some, num_cons, num_nil, col_cons, col_nil', rp_i, impl_lineReader_created, impl_lineReader_box, impl_Still, cnd_true, cnd_false, show sq' wH [103, 114, 111, 117, 112] = false from rfl, show sq' wH [114, 101, 99, 116] = false from rfl, show sq' wH [108, 105, 110, 101] = false from rfl, show sq' wH [100, 114, 111, 112] = false from rfl, show sq' wH [112, 108, 97, 99, 101] = false from rfl, show sq' wH [112, 97, 105, 110, 116] = false from rfl, show sq' wH [104, 105, 116] = true from rfl, show sq' wH [115, 105, 122, 101] = false from rfl]; rfl) (by try dsimp only; rw [iqf (by simp; omega), Bool.and_false]) hs (by first | exact rp_l _ | simp)
    | [p1, p2], h, hs => exact (h rfl).elim
  case pos =>
    obtain ⟨p1, p2, rfl⟩ : ∃ p1 p2, ps = [p1, p2] := by
      match ps, h with
      | [p1, p2], _ => exact ⟨p1, p2, rfl⟩
    have hi : ∃ b, impl_lineReader_deed ⟨[wH, p1, p2], false⟩ = some (6, 0, 0, false, m0, false, 0, pt0, 0, 0, 0, 0, 0, (rd p1).1, (rd p2).1, ⟨[], b⟩, [], []) ∧ (!b && ieq 0 0) = ((rd p1).2 && (rd p2).2) := by
      refine ⟨_, by unfold impl_lineReader_deed; simp only [nx_cons, bnd_some, num_cons, num_nil, col_cons, col_nil', rp_i, impl_lineReader_created, impl_lineReader_box, impl_Still, cnd_true, cnd_false, show sq' wH [103, 114, 111, 117, 112] = false from rfl, show sq' wH [114, 101, 99, 116] = false from rfl, show sq' wH [108, 105, 110, 101] = false from rfl, show sq' wH [100, 114, 111, 112] = false from rfl, show sq' wH [112, 108, 97, 99, 101] = false from rfl, show sq' wH [112, 97, 105, 110, 116] = false from rfl, show sq' wH [104, 105, 116] = true from rfl, show sq' wH [115, 105, 122, 101] = false from rfl]; rfl, ?_⟩
      generalize (rd p1).2 = o0
      generalize (rd p2).2 = o1
      cases o0 <;> cases o1 <;> rfl
    obtain ⟨b, hi, hb⟩ := hi
    have hn := nums_s (a := [wH, p1, p2]) (n := 2) (by simp) (by omega)
    simp only [List.drop_succ_cons, List.drop_zero, List.take_succ_cons, List.take_zero, List.all_cons, List.all_nil, List.map_cons, List.map_nil] at hn
    have e : ∃ d, spec_l24Deed [wH, p1, p2] = some (d, ((rd p1).2 && (rd p2).2)) ∧ (((rd p1).2 && (rd p2).2) = true → d = ⟨6, n0, 0, 0, 0, (rd p1).1, (rd p2).1⟩) := by
      unfold spec_l24Deed
      rw [ix0, bnd_some]
      simp only [show sq' wH [103, 114, 111, 117, 112] = false from rfl, show sq' wH [114, 101, 99, 116] = false from rfl, show sq' wH [108, 105, 110, 101] = false from rfl, cnd_true, cnd_false]
      rw [loopI_go (x := 0) (y := 1) (by rfl)]
      rw [loopI_go (x := 1) (y := 2) (by rfl)]
      rw [loopI_go (x := 2) (y := 3) (by rfl)]
      have hq : ((rd p1).2 && (rd p2).2) = ((rd p1).2 && ((rd p2).2 && true)) := by simp [Bool.and_assoc]
      replace hn : spec_l24Nums [wH, p1, p2] 1 2 = _ := hn
      by_cases hA : ((rd p1).2 && ((rd p2).2 && true)) = true
      · rw [if_pos hA] at hn
        have st : spec_l24Deed_l0 [wH, p1, p2] 3 = some (.inr (.inr (6, 0, 0, 0, (rd p1).1, (rd p2).1, true))) := by
          unfold spec_l24Deed_l0; simp only [ix00, ix1, ix2, ix3, ix4, ix5, ix6, bnd_some, List.length_cons, List.length_nil]; rw [ilf (by omega), cnd_false, show sq' wH [104, 105, 116] = true from rfl, cnd_true, wr_in (n := 2 + 1) (by omega), iqx (by omega), cnd_true, hn, bnd_some]
          rfl
        refine ⟨_, by rw [loopI_end (r := .inr (6, 0, 0, 0, (rd p1).1, (rd p2).1, true)) st, bnd_some, hq, hA]; first | done | rfl, fun hh => ?_⟩
        rfl
      · rw [if_neg hA] at hn
        have st : spec_l24Deed_l0 [wH, p1, p2] 3 = some (.inr (.inr (0, 0, 0, 0, 0, 0, false))) := by
          unfold spec_l24Deed_l0; simp only [ix00, ix1, ix2, ix3, ix4, ix5, ix6, bnd_some, List.length_cons, List.length_nil]; rw [ilf (by omega), cnd_false, show sq' wH [104, 105, 116] = true from rfl, cnd_true, wr_in (n := 2 + 1) (by omega), iqx (by omega), cnd_true, hn, bnd_some]; rfl
        have hk : ((rd p1).2 && (rd p2).2) = false := by rw [hq, Bool.eq_false_iff.2 hA]
        refine ⟨_, by rw [loopI_end (r := .inr (0, 0, 0, 0, 0, 0, false)) st, bnd_some, hk]; first | done | rfl, fun hh => ?_⟩
        rw [hk] at hh; cases hh
    obtain ⟨d, e1, e2⟩ := e
    exact deedYes hi hb e1 e2 (by first | exact rp_l _ | simp)
theorem spec_S_no (ps : List (List UInt8)) (h : ps.length ≠ 2) : spec_l24Deed (wS :: ps) = some (d0, false) := by
  have e : loopI (spec_l24Deed_l0 (wS :: ps)) 0 = some (.inl ()) := by
    rw [loopI_go (x := 0) (y := 1) (by rfl)]
    rw [loopI_go (x := 1) (y := 2) (by rfl)]
    rw [loopI_go (x := 2) (y := 3) (by rfl)]
    rw [loopI_go (x := 3) (y := 4) (by rfl)]
    have st : spec_l24Deed_l0 (wS :: ps) 4 = some (.inl 5) := by
      unfold spec_l24Deed_l0
      simp only [ix00, ix1, ix2, ix3, ix4, ix5, ix6, bnd_some, List.length_cons, List.length_nil]
      rw [ilf (by omega), cnd_false, show sq' wS [115, 105, 122, 101] = true from rfl, cnd_true, wr_in (n := 2 + 1) (by omega), iqf (by omega), cnd_false]; rfl
    rw [loopI_go st]
    exact loopI_end (by rfl)
  unfold spec_l24Deed
  rw [ix0, bnd_some]
  simp only [show sq' wS [103, 114, 111, 117, 112] = false from rfl, show sq' wS [114, 101, 99, 116] = false from rfl, show sq' wS [108, 105, 110, 101] = false from rfl, cnd_true, cnd_false]
  rw [e, bnd_some]; rfl
theorem deed_S (ps : List (List UInt8)) : DeedOk (wS :: ps) := by
  by_cases h : ps.length = 2
  case neg =>
    have hs := spec_S_no ps h
    match ps, h, hs with
    | [], _, hs => exact deedNo (by unfold impl_lineReader_deed; simp only [nx_cons, bnd_some, num_cons, num_nil, col_cons, col_nil', rp_i, impl_lineReader_created, impl_lineReader_box, impl_Still, cnd_true, cnd_false, show sq' wS [103, 114, 111, 117, 112] = false from rfl, show sq' wS [114, 101, 99, 116] = false from rfl, show sq' wS [108, 105, 110, 101] = false from rfl, show sq' wS [100, 114, 111, 112] = false from rfl, show sq' wS [112, 108, 97, 99, 101] = false from rfl, show sq' wS [112, 97, 105, 110, 116] = false from rfl, show sq' wS [104, 105, 116] = false from rfl, show sq' wS [115, 105, 122, 101] = true from rfl]; rfl) (by rfl) hs (by first | exact rp_l _ | simp)
    | [p1], _, hs => exact deedNo (by unfold impl_lineReader_deed; simp only [nx_cons, bnd_some, num_cons, num_nil, col_cons, col_nil', rp_i, impl_lineReader_created, impl_lineReader_box, impl_Still, cnd_true, cnd_false, show sq' wS [103, 114, 111, 117, 112] = false from rfl, show sq' wS [114, 101, 99, 116] = false from rfl, show sq' wS [108, 105, 110, 101] = false from rfl, show sq' wS [100, 114, 111, 112] = false from rfl, show sq' wS [112, 108, 97, 99, 101] = false from rfl, show sq' wS [112, 97, 105, 110, 116] = false from rfl, show sq' wS [104, 105, 116] = false from rfl, show sq' wS [115, 105, 122, 101] = true from rfl]; rfl) (by rfl) hs (by first | exact rp_l _ | simp)
    | p1 :: p2 :: x :: l, _, hs => exact deedNo (by unfold impl_lineReader_deed; simp only [nx_cons, bnd_some, num_cons, num_nil, col_cons, col_nil', rp_i, impl_lineReader_created, impl_lineReader_box, impl_Still, cnd_true, cnd_false, show sq' wS [103, 114, 111, 117, 112] = false from rfl, show sq' wS [114, 101, 99, 116] = false from rfl, show sq' wS [108, 105, 110, 101] = false from rfl, show sq' wS [100, 114, 111, 112] = false from rfl, show sq' wS [112, 108, 97, 99, 101] = false from rfl, show sq' wS [112, 97, 105, 110, 116] = false from rfl, show sq' wS [104, 105, 116] = false from rfl, show sq' wS [115, 105, 122, 101] = true from rfl]; rfl) (by try dsimp only; rw [iqf (by simp; omega), Bool.and_false]) hs (by first | exact rp_l _ | simp)
    | [p1, p2], h, hs => exact (h rfl).elim
  case pos =>
    obtain ⟨p1, p2, rfl⟩ : ∃ p1 p2, ps = [p1, p2] := by
      match ps, h with
      | [p1, p2], _ => exact ⟨p1, p2, rfl⟩
    have hi : ∃ b, impl_lineReader_deed ⟨[wS, p1, p2], false⟩ = some (7, 0, 0, false, m0, false, 0, pt0, 0, 0, 0, 0, 0, (rd p1).1, (rd p2).1, ⟨[], b⟩, [], []) ∧ (!b && ieq 0 0) = ((rd p1).2 && (rd p2).2) := by
      refine ⟨_, by unfold impl_lineReader_deed; simp only [nx_cons, bnd_some, num_cons, num_nil, col_cons, col_nil', rp_i, impl_lineReader_created, impl_lineReader_box, impl_Still, cnd_true, cnd_false, show sq' wS [103, 114, 111, 117, 112] = false from rfl, show sq' wS [114, 101, 99, 116] = false from rfl, show sq' wS [108, 105, 110, 101] = false from rfl, show sq' wS [100, 114, 111, 112] = false from rfl, show sq' wS [112, 108, 97, 99, 101] = false from rfl, show sq' wS [112, 97, 105, 110, 116] = false from rfl, show sq' wS [104, 105, 116] = false from rfl, show sq' wS [115, 105, 122, 101] = true from rfl]; rfl, ?_⟩
      generalize (rd p1).2 = o0
      generalize (rd p2).2 = o1
      cases o0 <;> cases o1 <;> rfl
    obtain ⟨b, hi, hb⟩ := hi
    have hn := nums_s (a := [wS, p1, p2]) (n := 2) (by simp) (by omega)
    simp only [List.drop_succ_cons, List.drop_zero, List.take_succ_cons, List.take_zero, List.all_cons, List.all_nil, List.map_cons, List.map_nil] at hn
    have e : ∃ d, spec_l24Deed [wS, p1, p2] = some (d, ((rd p1).2 && (rd p2).2)) ∧ (((rd p1).2 && (rd p2).2) = true → d = ⟨7, n0, 0, 0, 0, (rd p1).1, (rd p2).1⟩) := by
      unfold spec_l24Deed
      rw [ix0, bnd_some]
      simp only [show sq' wS [103, 114, 111, 117, 112] = false from rfl, show sq' wS [114, 101, 99, 116] = false from rfl, show sq' wS [108, 105, 110, 101] = false from rfl, cnd_true, cnd_false]
      rw [loopI_go (x := 0) (y := 1) (by rfl)]
      rw [loopI_go (x := 1) (y := 2) (by rfl)]
      rw [loopI_go (x := 2) (y := 3) (by rfl)]
      rw [loopI_go (x := 3) (y := 4) (by rfl)]
      have hq : ((rd p1).2 && (rd p2).2) = ((rd p1).2 && ((rd p2).2 && true)) := by simp [Bool.and_assoc]
      replace hn : spec_l24Nums [wS, p1, p2] 1 2 = _ := hn
      by_cases hA : ((rd p1).2 && ((rd p2).2 && true)) = true
      · rw [if_pos hA] at hn
        have st : spec_l24Deed_l0 [wS, p1, p2] 4 = some (.inr (.inr (7, 0, 0, 0, (rd p1).1, (rd p2).1, true))) := by
          unfold spec_l24Deed_l0; simp only [ix00, ix1, ix2, ix3, ix4, ix5, ix6, bnd_some, List.length_cons, List.length_nil]; rw [ilf (by omega), cnd_false, show sq' wS [115, 105, 122, 101] = true from rfl, cnd_true, wr_in (n := 2 + 1) (by omega), iqx (by omega), cnd_true, hn, bnd_some]
          rfl
        refine ⟨_, by rw [loopI_end (r := .inr (7, 0, 0, 0, (rd p1).1, (rd p2).1, true)) st, bnd_some, hq, hA]; first | done | rfl, fun hh => ?_⟩
        rfl
      · rw [if_neg hA] at hn
        have st : spec_l24Deed_l0 [wS, p1, p2] 4 = some (.inr (.inr (0, 0, 0, 0, 0, 0, false))) := by
          unfold spec_l24Deed_l0; simp only [ix00, ix1, ix2, ix3, ix4, ix5, ix6, bnd_some, List.length_cons, List.length_nil]; rw [ilf (by omega), cnd_false, show sq' wS [115, 105, 122, 101] = true from rfl, cnd_true, wr_in (n := 2 + 1) (by omega), iqx (by omega), cnd_true, hn, bnd_some]; rfl
        have hk : ((rd p1).2 && (rd p2).2) = false := by rw [hq, Bool.eq_false_iff.2 hA]
        refine ⟨_, by rw [loopI_end (r := .inr (0, 0, 0, 0, 0, 0, false)) st, bnd_some, hk]; first | done | rfl, fun hh => ?_⟩
        rw [hk] at hh; cases hh
    obtain ⟨d, e1, e2⟩ := e
    exact deedYes hi hb e1 e2 (by first | exact rp_l _ | simp)
theorem spec_G_no (ps : List (List UInt8)) (h : ps.length ≠ 5) : spec_l24Deed (wG :: ps) = some (d0, false) := by
  have e : loopI (spec_l24Create_l0 (wG :: ps)) 0 = some (.inl ()) := by
    have st : spec_l24Create_l0 (wG :: ps) 0 = some (.inl 1) := by
      unfold spec_l24Create_l0
      simp only [ix00, ix1, ix2, ix3, ix4, ix5, ix6, bnd_some, List.length_cons, List.length_nil]
      rw [ilf (by omega), cnd_false, show sq' wG [103, 114, 111, 117, 112] = true from rfl, cnd_true, iqf (by omega), cnd_false]; rfl
    rw [loopI_go st]
    rw [loopI_go (x := 1) (y := 2) (by rfl)]
    rw [loopI_go (x := 2) (y := 3) (by rfl)]
    exact loopI_end (by rfl)
  unfold spec_l24Deed
  rw [ix0, bnd_some]
  simp only [show sq' wG [103, 114, 111, 117, 112] = true from rfl, show sq' wG [114, 101, 99, 116] = false from rfl, show sq' wG [108, 105, 110, 101] = false from rfl, cnd_true, cnd_false]
  unfold spec_l24Create
  rw [e, bnd_some]; rfl
theorem deed_G (ps : List (List UInt8)) : DeedOk (wG :: ps) := by
  by_cases h : ps.length = 5
  case neg =>
    have hs := spec_G_no ps h
    match ps, h, hs with
    | [], _, hs => exact deedNo (by unfold impl_lineReader_deed; simp only [nx_cons, bnd_some, num_cons, num_nil, col_cons, col_nil', rp_i, impl_lineReader_created, impl_lineReader_box, impl_Still, cnd_true, cnd_false, show sq' wG [103, 114, 111, 117, 112] = true from rfl, show sq' wG [114, 101, 99, 116] = false from rfl, show sq' wG [108, 105, 110, 101] = false from rfl, show sq' wG [100, 114, 111, 112] = false from rfl, show sq' wG [112, 108, 97, 99, 101] = false from rfl, show sq' wG [112, 97, 105, 110, 116] = false from rfl, show sq' wG [104, 105, 116] = false from rfl, show sq' wG [115, 105, 122, 101] = false from rfl]; rfl) (by rfl) hs (by first | exact rp_l _ | simp)
    | [p1], _, hs => exact deedNo (by unfold impl_lineReader_deed; simp only [nx_cons, bnd_some, num_cons, num_nil, col_cons, col_nil', rp_i, impl_lineReader_created, impl_lineReader_box, impl_Still, cnd_true, cnd_false, show sq' wG [103, 114, 111, 117, 112] = true from rfl, show sq' wG [114, 101, 99, 116] = false from rfl, show sq' wG [108, 105, 110, 101] = false from rfl, show sq' wG [100, 114, 111, 112] = false from rfl, show sq' wG [112, 108, 97, 99, 101] = false from rfl, show sq' wG [112, 97, 105, 110, 116] = false from rfl, show sq' wG [104, 105, 116] = false from rfl, show sq' wG [115, 105, 122, 101] = false from rfl]; rfl) (by rfl) hs (by first | exact rp_l _ | simp)
    | [p1, p2], _, hs => exact deedNo (by unfold impl_lineReader_deed; simp only [nx_cons, bnd_some, num_cons, num_nil, col_cons, col_nil', rp_i, impl_lineReader_created, impl_lineReader_box, impl_Still, cnd_true, cnd_false, show sq' wG [103, 114, 111, 117, 112] = true from rfl, show sq' wG [114, 101, 99, 116] = false from rfl, show sq' wG [108, 105, 110, 101] = false from rfl, show sq' wG [100, 114, 111, 112] = false from rfl, show sq' wG [112, 108, 97, 99, 101] = false from rfl, show sq' wG [112, 97, 105, 110, 116] = false from rfl, show sq' wG [104, 105, 116] = false from rfl, show sq' wG [115, 105, 122, 101] = false from rfl]; rfl) (by rfl) hs (by first | exact rp_l _ | simp)
    | [p1, p2, p3], _, hs => exact deedNo (by unfold impl_lineReader_deed; simp only [nx_cons, bnd_some, num_cons, num_nil, col_cons, col_nil', rp_i, impl_lineReader_created, impl_lineReader_box, impl_Still, cnd_true, cnd_false, show sq' wG [103, 114, 111, 117, 112] = true from rfl, show sq' wG [114, 101, 99, 116] = false from rfl, show sq' wG [108, 105, 110, 101] = false from rfl, show sq' wG [100, 114, 111, 112] = false from rfl, show sq' wG [112, 108, 97, 99, 101] = false from rfl, show sq' wG [112, 97, 105, 110, 116] = false from rfl, show sq' wG [104, 105, 116] = false from rfl, show sq' wG [115, 105, 122, 101] = false from rfl]; rfl) (by rfl) hs (by first | exact rp_l _ | simp)
    | [p1, p2, p3, p4], _, hs => exact deedNo (by unfold impl_lineReader_deed; simp only [nx_cons, bnd_some, num_cons, num_nil, col_cons, col_nil', rp_i, impl_lineReader_created, impl_lineReader_box, impl_Still, cnd_true, cnd_false, show sq' wG [103, 114, 111, 117, 112] = true from rfl, show sq' wG [114, 101, 99, 116] = false from rfl, show sq' wG [108, 105, 110, 101] = false from rfl, show sq' wG [100, 114, 111, 112] = false from rfl, show sq' wG [112, 108, 97, 99, 101] = false from rfl, show sq' wG [112, 97, 105, 110, 116] = false from rfl, show sq' wG [104, 105, 116] = false from rfl, show sq' wG [115, 105, 122, 101] = false from rfl]; rfl) (by rfl) hs (by first | exact rp_l _ | simp)
    | p1 :: p2 :: p3 :: p4 :: p5 :: x :: l, _, hs => exact deedNo (by unfold impl_lineReader_deed; simp only [nx_cons, bnd_some, num_cons, num_nil, col_cons, col_nil', rp_i, impl_lineReader_created, impl_lineReader_box, impl_Still, cnd_true, cnd_false, show sq' wG [103, 114, 111, 117, 112] = true from rfl, show sq' wG [114, 101, 99, 116] = false from rfl, show sq' wG [108, 105, 110, 101] = false from rfl, show sq' wG [100, 114, 111, 112] = false from rfl, show sq' wG [112, 108, 97, 99, 101] = false from rfl, show sq' wG [112, 97, 105, 110, 116] = false from rfl, show sq' wG [104, 105, 116] = false from rfl, show sq' wG [115, 105, 122, 101] = false from rfl]; rfl) (by try dsimp only; rw [iqf (by simp; omega), Bool.and_false]) hs (by first | exact rp_l _ | simp)
    | [p1, p2, p3, p4, p5], h, hs => exact (h rfl).elim
  case pos =>
    obtain ⟨p1, p2, p3, p4, p5, rfl⟩ : ∃ p1 p2 p3 p4 p5, ps = [p1, p2, p3, p4, p5] := by
      match ps, h with
      | [p1, p2, p3, p4, p5], _ => exact ⟨p1, p2, p3, p4, p5, rfl⟩
    have hi : ∃ b, impl_lineReader_deed ⟨[wG, p1, p2, p3, p4, p5], false⟩ = some (1, (rd p1).1, (rd p2).1, true, ⟨65536, 0, 0, 65536, (rd p3).1, (rd p4).1⟩, false, 0, pt0, 1, (rd p5).1, 0, 0, 0, 0, 0, ⟨[], b⟩, [], []) ∧ (!b && ieq 0 0) = ((rd p1).2 && (rd p2).2 && (rd p3).2 && (rd p4).2 && (rd p5).2) := by
      refine ⟨_, by unfold impl_lineReader_deed; simp only [nx_cons, bnd_some, num_cons, num_nil, col_cons, col_nil', rp_i, impl_lineReader_created, impl_lineReader_box, impl_Still, cnd_true, cnd_false, show sq' wG [103, 114, 111, 117, 112] = true from rfl, show sq' wG [114, 101, 99, 116] = false from rfl, show sq' wG [108, 105, 110, 101] = false from rfl, show sq' wG [100, 114, 111, 112] = false from rfl, show sq' wG [112, 108, 97, 99, 101] = false from rfl, show sq' wG [112, 97, 105, 110, 116] = false from rfl, show sq' wG [104, 105, 116] = false from rfl, show sq' wG [115, 105, 122, 101] = false from rfl]; rfl, ?_⟩
      generalize (rd p1).2 = o0
      generalize (rd p2).2 = o1
      generalize (rd p3).2 = o2
      generalize (rd p4).2 = o3
      generalize (rd p5).2 = o4
      cases o0 <;> cases o1 <;> cases o2 <;> cases o3 <;> cases o4 <;> rfl
    obtain ⟨b, hi, hb⟩ := hi
    have hn := nums_s (a := [wG, p1, p2, p3, p4, p5]) (n := 5) (by simp) (by omega)
    simp only [List.drop_succ_cons, List.drop_zero, List.take_succ_cons, List.take_zero, List.all_cons, List.all_nil, List.map_cons, List.map_nil] at hn
    have e : ∃ d, spec_l24Deed [wG, p1, p2, p3, p4, p5] = some (d, ((rd p1).2 && (rd p2).2 && (rd p3).2 && (rd p4).2 && (rd p5).2)) ∧ (((rd p1).2 && (rd p2).2 && (rd p3).2 && (rd p4).2 && (rd p5).2) = true → d = ⟨1, ⟨(rd p1).1, (rd p2).1, true, ⟨65536, 0, 0, 65536, (rd p3).1, (rd p4).1⟩, ⟨[], []⟩, false, 0, [], pt0, 1, (rd p5).1, ⟨[], []⟩⟩, 0, 0, 0, 0, 0⟩) := by
      unfold spec_l24Deed
      rw [ix0, bnd_some]
      simp only [show sq' wG [103, 114, 111, 117, 112] = true from rfl, show sq' wG [114, 101, 99, 116] = false from rfl, show sq' wG [108, 105, 110, 101] = false from rfl, cnd_true, cnd_false]
      unfold spec_l24Create
      have hq : ((rd p1).2 && (rd p2).2 && (rd p3).2 && (rd p4).2 && (rd p5).2) = ((rd p1).2 && ((rd p2).2 && ((rd p3).2 && ((rd p4).2 && ((rd p5).2 && true))))) := by simp [Bool.and_assoc]
      replace hn : spec_l24Nums [wG, p1, p2, p3, p4, p5] 1 5 = _ := hn
      by_cases hA : ((rd p1).2 && ((rd p2).2 && ((rd p3).2 && ((rd p4).2 && ((rd p5).2 && true))))) = true
      · rw [if_pos hA] at hn
        have st : spec_l24Create_l0 [wG, p1, p2, p3, p4, p5] 0 = some (.inr (.inr ((rd p1).1, (rd p2).1, 65536, 0, 0, 65536, (rd p3).1, (rd p4).1, (rd p5).1, true, true, [], [], 0, 0, 0, 0, 0, 0, 0, 0, 0, 0, 0, 0, 0, 0, 1, 1))) := by
          unfold spec_l24Create_l0; simp only [ix00, ix1, ix2, ix3, ix4, ix5, ix6, bnd_some, List.length_cons, List.length_nil]; rw [ilf (by omega), cnd_false, show sq' wG [103, 114, 111, 117, 112] = true from rfl, cnd_true, iqx (by omega), cnd_true, hn, bnd_some]
          rfl
        refine ⟨_, by rw [loopI_end (r := .inr ((rd p1).1, (rd p2).1, 65536, 0, 0, 65536, (rd p3).1, (rd p4).1, (rd p5).1, true, true, [], [], 0, 0, 0, 0, 0, 0, 0, 0, 0, 0, 0, 0, 0, 0, 1, 1)) st, bnd_some, hq, hA]; first | done | rfl, fun hh => ?_⟩
        rfl
      · rw [if_neg hA] at hn
        have st : spec_l24Create_l0 [wG, p1, p2, p3, p4, p5] 0 = some (.inr (.inr (0, 0, 0, 0, 0, 0, 0, 0, 0, false, false, [], [], 0, 0, 0, 0, 0, 0, 0, 0, 0, 0, 0, 0, 0, 0, 0, 0))) := by
          unfold spec_l24Create_l0; simp only [ix00, ix1, ix2, ix3, ix4, ix5, ix6, bnd_some, List.length_cons, List.length_nil]; rw [ilf (by omega), cnd_false, show sq' wG [103, 114, 111, 117, 112] = true from rfl, cnd_true, iqx (by omega), cnd_true, hn, bnd_some]; rfl
        have hk : ((rd p1).2 && (rd p2).2 && (rd p3).2 && (rd p4).2 && (rd p5).2) = false := by rw [hq, Bool.eq_false_iff.2 hA]
        refine ⟨_, by rw [loopI_end (r := .inr (0, 0, 0, 0, 0, 0, 0, 0, 0, false, false, [], [], 0, 0, 0, 0, 0, 0, 0, 0, 0, 0, 0, 0, 0, 0, 0, 0)) st, bnd_some, hk]; first | done | rfl, fun hh => ?_⟩
        rw [hk] at hh; cases hh
    obtain ⟨d, e1, e2⟩ := e
    exact deedYes hi hb e1 e2 (by first | exact rp_l _ | simp)
theorem spec_R_no (ps : List (List UInt8)) (h : ps.length ≠ 7) : spec_l24Deed (wR :: ps) = some (d0, false) := by
  have e : loopI (spec_l24Create_l0 (wR :: ps)) 0 = some (.inl ()) := by
    rw [loopI_go (x := 0) (y := 1) (by rfl)]
    have st : spec_l24Create_l0 (wR :: ps) 1 = some (.inl 2) := by
      unfold spec_l24Create_l0
      simp only [ix00, ix1, ix2, ix3, ix4, ix5, ix6, bnd_some, List.length_cons, List.length_nil]
      rw [ilf (by omega), cnd_false, show sq' wR [114, 101, 99, 116] = true from rfl, cnd_true, iqf (by omega), cnd_false]; rfl
    rw [loopI_go st]
    rw [loopI_go (x := 2) (y := 3) (by rfl)]
    exact loopI_end (by rfl)
  unfold spec_l24Deed
  rw [ix0, bnd_some]
  simp only [show sq' wR [103, 114, 111, 117, 112] = false from rfl, show sq' wR [114, 101, 99, 116] = true from rfl, show sq' wR [108, 105, 110, 101] = false from rfl, cnd_true, cnd_false]
  unfold spec_l24Create
  rw [e, bnd_some]; rfl
theorem deed_R (ps : List (List UInt8)) : DeedOk (wR :: ps) := by
  by_cases h : ps.length = 7
  case neg =>
    have hs := spec_R_no ps h
    match ps, h, hs with
    | [], _, hs => exact deedNo (by unfold impl_lineReader_deed; simp only [nx_cons, bnd_some, num_cons, num_nil, col_cons, col_nil', rp_i, impl_lineReader_created, impl_lineReader_box, impl_Still, cnd_true, cnd_false, show sq' wR [103, 114, 111, 117, 112] = false from rfl, show sq' wR [114, 101, 99, 116] = true from rfl, show sq' wR [108, 105, 110, 101] = false from rfl, show sq' wR [100, 114, 111, 112] = false from rfl, show sq' wR [112, 108, 97, 99, 101] = false from rfl, show sq' wR [112, 97, 105, 110, 116] = false from rfl, show sq' wR [104, 105, 116] = false from rfl, show sq' wR [115, 105, 122, 101] = false from rfl]; rfl) (by rfl) hs (by first | exact rp_l _ | simp)
    | [p1], _, hs => exact deedNo (by unfold impl_lineReader_deed; simp only [nx_cons, bnd_some, num_cons, num_nil, col_cons, col_nil', rp_i, impl_lineReader_created, impl_lineReader_box, impl_Still, cnd_true, cnd_false, show sq' wR [103, 114, 111, 117, 112] = false from rfl, show sq' wR [114, 101, 99, 116] = true from rfl, show sq' wR [108, 105, 110, 101] = false from rfl, show sq' wR [100, 114, 111, 112] = false from rfl, show sq' wR [112, 108, 97, 99, 101] = false from rfl, show sq' wR [112, 97, 105, 110, 116] = false from rfl, show sq' wR [104, 105, 116] = false from rfl, show sq' wR [115, 105, 122, 101] = false from rfl]; rfl) (by rfl) hs (by first | exact rp_l _ | simp)
    | [p1, p2], _, hs => exact deedNo (by unfold impl_lineReader_deed; simp only [nx_cons, bnd_some, num_cons, num_nil, col_cons, col_nil', rp_i, impl_lineReader_created, impl_lineReader_box, impl_Still, cnd_true, cnd_false, show sq' wR [103, 114, 111, 117, 112] = false from rfl, show sq' wR [114, 101, 99, 116] = true from rfl, show sq' wR [108, 105, 110, 101] = false from rfl, show sq' wR [100, 114, 111, 112] = false from rfl, show sq' wR [112, 108, 97, 99, 101] = false from rfl, show sq' wR [112, 97, 105, 110, 116] = false from rfl, show sq' wR [104, 105, 116] = false from rfl, show sq' wR [115, 105, 122, 101] = false from rfl]; rfl) (by rfl) hs (by first | exact rp_l _ | simp)
    | [p1, p2, p3], _, hs => exact deedNo (by unfold impl_lineReader_deed; simp only [nx_cons, bnd_some, num_cons, num_nil, col_cons, col_nil', rp_i, impl_lineReader_created, impl_lineReader_box, impl_Still, cnd_true, cnd_false, show sq' wR [103, 114, 111, 117, 112] = false from rfl, show sq' wR [114, 101, 99, 116] = true from rfl, show sq' wR [108, 105, 110, 101] = false from rfl, show sq' wR [100, 114, 111, 112] = false from rfl, show sq' wR [112, 108, 97, 99, 101] = false from rfl, show sq' wR [112, 97, 105, 110, 116] = false from rfl, show sq' wR [104, 105, 116] = false from rfl, show sq' wR [115, 105, 122, 101] = false from rfl]; rfl) (by rfl) hs (by first | exact rp_l _ | simp)
    | [p1, p2, p3, p4], _, hs => exact deedNo (by unfold impl_lineReader_deed; simp only [nx_cons, bnd_some, num_cons, num_nil, col_cons, col_nil', rp_i, impl_lineReader_created, impl_lineReader_box, impl_Still, cnd_true, cnd_false, show sq' wR [103, 114, 111, 117, 112] = false from rfl, show sq' wR [114, 101, 99, 116] = true from rfl, show sq' wR [108, 105, 110, 101] = false from rfl, show sq' wR [100, 114, 111, 112] = false from rfl, show sq' wR [112, 108, 97, 99, 101] = false from rfl, show sq' wR [112, 97, 105, 110, 116] = false from rfl, show sq' wR [104, 105, 116] = false from rfl, show sq' wR [115, 105, 122, 101] = false from rfl]; rfl) (by rfl) hs (by first | exact rp_l _ | simp)
    | [p1, p2, p3, p4, p5], _, hs => exact deedNo (by unfold impl_lineReader_deed; simp only [nx_cons, bnd_some, num_cons, num_nil, col_cons, col_nil', rp_i, impl_lineReader_created, impl_lineReader_box, impl_Still, cnd_true, cnd_false, show sq' wR [103, 114, 111, 117, 112] = false from rfl, show sq' wR [114, 101, 99, 116] = true from rfl, show sq' wR [108, 105, 110, 101] = false from rfl, show sq' wR [100, 114, 111, 112] = false from rfl, show sq' wR [112, 108, 97, 99, 101] = false from rfl, show sq' wR [112, 97, 105, 110, 116] = false from rfl, show sq' wR [104, 105, 116] = false from rfl, show sq' wR [115, 105, 122, 101] = false from rfl]; rfl) (by rfl) hs (by first | exact rp_l _ | simp)
    | [p1, p2, p3, p4, p5, p6], _, hs => exact deedNo (by unfold impl_lineReader_deed; simp only [nx_cons, bnd_some, num_cons, num_nil, col_cons, col_nil', rp_i, impl_lineReader_created, impl_lineReader_box, impl_Still, cnd_true, cnd_false, show sq' wR [103, 114, 111, 117, 112] = false from rfl, show sq' wR [114, 101, 99, 116] = true from rfl, show sq' wR [108, 105, 110, 101] = false from rfl, show sq' wR [100, 114, 111, 112] = false from rfl, show sq' wR [112, 108, 97, 99, 101] = false from rfl, show sq' wR [112, 97, 105, 110, 116] = false from rfl, show sq' wR [104, 105, 116] = false from rfl, show sq' wR [115, 105, 122, 101] = false from rfl]; rfl) (by rfl) hs (by first | exact rp_l _ | simp)
    | p1 :: p2 :: p3 :: p4 :: p5 :: p6 :: p7 :: x :: l, _, hs => exact deedNo (by unfold impl_lineReader_deed; simp only [nx_cons, bnd_some, num_cons, num_nil, col_cons, col_nil', rp_i, impl_lineReader_created, impl_lineReader_box, impl_Still, cnd_true, cnd_false, show sq' wR [103, 114, 111, 117, 112] = false from rfl, show sq' wR [114, 101, 99, 116] = true from rfl, show sq' wR [108, 105, 110, 101] = false from rfl, show sq' wR [100, 114, 111, 112] = false from rfl, show sq' wR [112, 108, 97, 99, 101] = false from rfl, show sq' wR [112, 97, 105, 110, 116] = false from rfl, show sq' wR [104, 105, 116] = false from rfl, show sq' wR [115, 105, 122, 101] = false from rfl]; rfl) (by try dsimp only; rw [iqf (by simp; omega), Bool.and_false]) hs (by first | exact rp_l _ | simp)
    | [p1, p2, p3, p4, p5, p6, p7], h, hs => exact (h rfl).elim
  case pos =>
    obtain ⟨p1, p2, p3, p4, p5, p6, p7, rfl⟩ : ∃ p1 p2 p3 p4 p5 p6 p7, ps = [p1, p2, p3, p4, p5, p6, p7] := by
      match ps, h with
      | [p1, p2, p3, p4, p5, p6, p7], _ => exact ⟨p1, p2, p3, p4, p5, p6, p7, rfl⟩
    have hi : ∃ b, impl_lineReader_deed ⟨[wR, p1, p2, p3, p4, p5, p6, p7], false⟩ = some (1, (rd p1).1, (rd p2).1, false, ⟨65536, 0, 0, 65536, 0, 0⟩, false, 0, ⟨1, pcl p7, c0, ⟨0, 0⟩, ⟨0, 0⟩⟩, 1, 255, 0, 0, 0, 0, 0, ⟨[], b⟩, (rp ⟨(rd p3).1, (rd p4).1, (rd p5).1, (rd p6).1⟩).1, (rp ⟨(rd p3).1, (rd p4).1, (rd p5).1, (rd p6).1⟩).2) ∧ (!b && ieq 0 0) = ((rd p1).2 && (rd p2).2 && (rd p3).2 && (rd p4).2 && (rd p5).2 && (rd p6).2 && pok p7) := by
      refine ⟨_, by unfold impl_lineReader_deed; simp only [nx_cons, bnd_some, num_cons, num_nil, col_cons, col_nil', rp_i, impl_lineReader_created, impl_lineReader_box, impl_Still, cnd_true, cnd_false, show sq' wR [103, 114, 111, 117, 112] = false from rfl, show sq' wR [114, 101, 99, 116] = true from rfl, show sq' wR [108, 105, 110, 101] = false from rfl, show sq' wR [100, 114, 111, 112] = false from rfl, show sq' wR [112, 108, 97, 99, 101] = false from rfl, show sq' wR [112, 97, 105, 110, 116] = false from rfl, show sq' wR [104, 105, 116] = false from rfl, show sq' wR [115, 105, 122, 101] = false from rfl]; rfl, ?_⟩
      generalize (rd p1).2 = o0
      generalize (rd p2).2 = o1
      generalize (rd p3).2 = o2
      generalize (rd p4).2 = o3
      generalize (rd p5).2 = o4
      generalize (rd p6).2 = o5
      generalize pok p7 = o6
      cases o0 <;> cases o1 <;> cases o2 <;> cases o3 <;> cases o4 <;> cases o5 <;> cases o6 <;> rfl
    obtain ⟨b, hi, hb⟩ := hi
    have hn := nums_s (a := [wR, p1, p2, p3, p4, p5, p6, p7]) (n := 6) (by simp) (by omega)
    simp only [List.drop_succ_cons, List.drop_zero, List.take_succ_cons, List.take_zero, List.all_cons, List.all_nil, List.map_cons, List.map_nil] at hn
    have e : ∃ d, spec_l24Deed [wR, p1, p2, p3, p4, p5, p6, p7] = some (d, ((rd p1).2 && (rd p2).2 && (rd p3).2 && (rd p4).2 && (rd p5).2 && (rd p6).2 && pok p7)) ∧ (((rd p1).2 && (rd p2).2 && (rd p3).2 && (rd p4).2 && (rd p5).2 && (rd p6).2 && pok p7) = true → d = ⟨1, ⟨(rd p1).1, (rd p2).1, false, ⟨65536, 0, 0, 65536, 0, 0⟩, ⟨(rp ⟨(rd p3).1, (rd p4).1, (rd p5).1, (rd p6).1⟩).1, (rp ⟨(rd p3).1, (rd p4).1, (rd p5).1, (rd p6).1⟩).2⟩, false, 0, [], ⟨1, pcl p7, c0, ⟨0, 0⟩, ⟨0, 0⟩⟩, 1, 255, ⟨[], []⟩⟩, 0, 0, 0, 0, 0⟩) := by
      unfold spec_l24Deed
      rw [ix0, bnd_some]
      simp only [show sq' wR [103, 114, 111, 117, 112] = false from rfl, show sq' wR [114, 101, 99, 116] = true from rfl, show sq' wR [108, 105, 110, 101] = false from rfl, cnd_true, cnd_false]
      unfold spec_l24Create
      rw [loopI_go (x := 0) (y := 1) (by rfl)]
      have hq : ((rd p1).2 && (rd p2).2 && (rd p3).2 && (rd p4).2 && (rd p5).2 && (rd p6).2) = ((rd p1).2 && ((rd p2).2 && ((rd p3).2 && ((rd p4).2 && ((rd p5).2 && ((rd p6).2 && true)))))) := by simp [Bool.and_assoc]
      replace hn : spec_l24Nums [wR, p1, p2, p3, p4, p5, p6, p7] 1 6 = _ := hn
      by_cases hA : ((rd p1).2 && ((rd p2).2 && ((rd p3).2 && ((rd p4).2 && ((rd p5).2 && ((rd p6).2 && true)))))) = true
      · rw [if_pos hA] at hn
        obtain ⟨P, hP⟩ : ∃ P : TPaint, P = if pok p7 then ⟨1, pcl p7, c0, ⟨0, 0⟩, ⟨0, 0⟩⟩ else pt0 := ⟨_, rfl⟩
        have st : spec_l24Create_l0 [wR, p1, p2, p3, p4, p5, p6, p7] 1 = some (.inr (.inr ((rd p1).1, (rd p2).1, 65536, 0, 0, 65536, 0, 0, 255, pok p7, false, (rp ⟨(rd p3).1, (rd p4).1, (rd p5).1, (rd p6).1⟩).1, (rp ⟨(rd p3).1, (rd p4).1, (rd p5).1, (rd p6).1⟩).2, P.kind, P.first.r, P.first.g, P.first.b, P.first.a, P.last.r, P.last.g, P.last.b, P.last.a, P.from_.x, P.from_.y, P.to.x, P.to.y, 0, 1, 1))) := by
          unfold spec_l24Create_l0; simp only [ix00, ix1, ix2, ix3, ix4, ix5, ix6, bnd_some, List.length_cons, List.length_nil]; rw [ilf (by omega), cnd_false, show sq' wR [114, 101, 99, 116] = true from rfl, cnd_true, iqx (by omega), cnd_true, hn, bnd_some]
          dsimp only
          rw [cnd_true]; simp only [ix00, ix1, ix2, ix3, ix4, ix5, ix6, bnd_some, spec_Still, spec_Shift]
          rw [show ieq (1 : Int) 0 = false from rfl, cnd_false, wr_in (n := 8 - 1) (by omega), show ((8 : Int) - 1) = ((7 : Nat) : Int) from rfl, idx_some (x := p7) rfl, bnd_some, plain_s, bnd_some, ← hP]
          dsimp only
          rw [show ieq (1 : Int) 1 = true from rfl, cnd_true, rp_s, bnd_some]
        refine ⟨_, by rw [loopI_end (r := .inr ((rd p1).1, (rd p2).1, 65536, 0, 0, 65536, 0, 0, 255, pok p7, false, (rp ⟨(rd p3).1, (rd p4).1, (rd p5).1, (rd p6).1⟩).1, (rp ⟨(rd p3).1, (rd p4).1, (rd p5).1, (rd p6).1⟩).2, P.kind, P.first.r, P.first.g, P.first.b, P.first.a, P.last.r, P.last.g, P.last.b, P.last.a, P.from_.x, P.from_.y, P.to.x, P.to.y, 0, 1, 1)) st, bnd_some, hq, hA]; first | done | rfl, fun hh => ?_⟩
        have hc : pok p7 = true := by rw [hq, hA] at hh; simpa using hh
        rw [if_pos hc] at hP; subst hP; rfl
      · rw [if_neg hA] at hn
        have st : spec_l24Create_l0 [wR, p1, p2, p3, p4, p5, p6, p7] 1 = some (.inr (.inr (0, 0, 0, 0, 0, 0, 0, 0, 0, false, false, [], [], 0, 0, 0, 0, 0, 0, 0, 0, 0, 0, 0, 0, 0, 0, 0, 0))) := by
          unfold spec_l24Create_l0; simp only [ix00, ix1, ix2, ix3, ix4, ix5, ix6, bnd_some, List.length_cons, List.length_nil]; rw [ilf (by omega), cnd_false, show sq' wR [114, 101, 99, 116] = true from rfl, cnd_true, iqx (by omega), cnd_true, hn, bnd_some]; rfl
        have hk : ((rd p1).2 && (rd p2).2 && (rd p3).2 && (rd p4).2 && (rd p5).2 && (rd p6).2 && pok p7) = false := by rw [hq, Bool.eq_false_iff.2 hA]; rfl
        refine ⟨_, by rw [loopI_end (r := .inr (0, 0, 0, 0, 0, 0, 0, 0, 0, false, false, [], [], 0, 0, 0, 0, 0, 0, 0, 0, 0, 0, 0, 0, 0, 0, 0, 0)) st, bnd_some, hk]; first | done | rfl, fun hh => ?_⟩
        rw [hk] at hh; cases hh
    obtain ⟨d, e1, e2⟩ := e
    exact deedYes hi hb e1 e2 (by first | exact rp_l _ | simp)
theorem spec_L_no (ps : List (List UInt8)) (h : ps.length ≠ 8) : spec_l24Deed (wL :: ps) = some (d0, false) := by
  have e : loopI (spec_l24Create_l0 (wL :: ps)) 0 = some (.inl ()) := by
    rw [loopI_go (x := 0) (y := 1) (by rfl)]
    rw [loopI_go (x := 1) (y := 2) (by rfl)]
    have st : spec_l24Create_l0 (wL :: ps) 2 = some (.inl 3) := by
      unfold spec_l24Create_l0
      simp only [ix00, ix1, ix2, ix3, ix4, ix5, ix6, bnd_some, List.length_cons, List.length_nil]
      rw [ilf (by omega), cnd_false, show sq' wL [108, 105, 110, 101] = true from rfl, cnd_true, iqf (by omega), cnd_false]; rfl
    rw [loopI_go st]
    exact loopI_end (by rfl)
  unfold spec_l24Deed
  rw [ix0, bnd_some]
  simp only [show sq' wL [103, 114, 111, 117, 112] = false from rfl, show sq' wL [114, 101, 99, 116] = false from rfl, show sq' wL [108, 105, 110, 101] = true from rfl, cnd_true, cnd_false]
  unfold spec_l24Create
  rw [e, bnd_some]; rfl
theorem deed_L (ps : List (List UInt8)) : DeedOk (wL :: ps) := by
  by_cases h : ps.length = 8
  case neg =>
    have hs := spec_L_no ps h
    match ps, h, hs with
    | [], _, hs => exact deedNo (by unfold impl_lineReader_deed; simp only [nx_cons, bnd_some, num_cons, num_nil, col_cons, col_nil', rp_i, impl_lineReader_created, impl_lineReader_box, impl_Still, cnd_true, cnd_false, show sq' wL [103, 114, 111, 117, 112] = false from rfl, show sq' wL [114, 101, 99, 116] = false from rfl, show sq' wL [108, 105, 110, 101] = true from rfl, show sq' wL [100, 114, 111, 112] = false from rfl, show sq' wL [112, 108, 97, 99, 101] = false from rfl, show sq' wL [112, 97, 105, 110, 116] = false from rfl, show sq' wL [104, 105, 116] = false from rfl, show sq' wL [115, 105, 122, 101] = false from rfl]; rfl) (by rfl) hs (by first | exact rp_l _ | simp)
    | [p1], _, hs => exact deedNo (by unfold impl_lineReader_deed; simp only [nx_cons, bnd_some, num_cons, num_nil, col_cons, col_nil', rp_i, impl_lineReader_created, impl_lineReader_box, impl_Still, cnd_true, cnd_false, show sq' wL [103, 114, 111, 117, 112] = false from rfl, show sq' wL [114, 101, 99, 116] = false from rfl, show sq' wL [108, 105, 110, 101] = true from rfl, show sq' wL [100, 114, 111, 112] = false from rfl, show sq' wL [112, 108, 97, 99, 101] = false from rfl, show sq' wL [112, 97, 105, 110, 116] = false from rfl, show sq' wL [104, 105, 116] = false from rfl, show sq' wL [115, 105, 122, 101] = false from rfl]; rfl) (by rfl) hs (by first | exact rp_l _ | simp)
    | [p1, p2], _, hs => exact deedNo (by unfold impl_lineReader_deed; simp only [nx_cons, bnd_some, num_cons, num_nil, col_cons, col_nil', rp_i, impl_lineReader_created, impl_lineReader_box, impl_Still, cnd_true, cnd_false, show sq' wL [103, 114, 111, 117, 112] = false from rfl, show sq' wL [114, 101, 99, 116] = false from rfl, show sq' wL [108, 105, 110, 101] = true from rfl, show sq' wL [100, 114, 111, 112] = false from rfl, show sq' wL [112, 108, 97, 99, 101] = false from rfl, show sq' wL [112, 97, 105, 110, 116] = false from rfl, show sq' wL [104, 105, 116] = false from rfl, show sq' wL [115, 105, 122, 101] = false from rfl]; rfl) (by rfl) hs (by first | exact rp_l _ | simp)
    | [p1, p2, p3], _, hs => exact deedNo (by unfold impl_lineReader_deed; simp only [nx_cons, bnd_some, num_cons, num_nil, col_cons, col_nil', rp_i, impl_lineReader_created, impl_lineReader_box, impl_Still, cnd_true, cnd_false, show sq' wL [103, 114, 111, 117, 112] = false from rfl, show sq' wL [114, 101, 99, 116] = false from rfl, show sq' wL [108, 105, 110, 101] = true from rfl, show sq' wL [100, 114, 111, 112] = false from rfl, show sq' wL [112, 108, 97, 99, 101] = false from rfl, show sq' wL [112, 97, 105, 110, 116] = false from rfl, show sq' wL [104, 105, 116] = false from rfl, show sq' wL [115, 105, 122, 101] = false from rfl]; rfl) (by rfl) hs (by first | exact rp_l _ | simp)
    | [p1, p2, p3, p4], _, hs => exact deedNo (by unfold impl_lineReader_deed; simp only [nx_cons, bnd_some, num_cons, num_nil, col_cons, col_nil', rp_i, impl_lineReader_created, impl_lineReader_box, impl_Still, cnd_true, cnd_false, show sq' wL [103, 114, 111, 117, 112] = false from rfl, show sq' wL [114, 101, 99, 116] = false from rfl, show sq' wL [108, 105, 110, 101] = true from rfl, show sq' wL [100, 114, 111, 112] = false from rfl, show sq' wL [112, 108, 97, 99, 101] = false from rfl, show sq' wL [112, 97, 105, 110, 116] = false from rfl, show sq' wL [104, 105, 116] = false from rfl, show sq' wL [115, 105, 122, 101] = false from rfl]; rfl) (by rfl) hs (by first | exact rp_l _ | simp)
    | [p1, p2, p3, p4, p5], _, hs => exact deedNo (by unfold impl_lineReader_deed; simp only [nx_cons, bnd_some, num_cons, num_nil, col_cons, col_nil', rp_i, impl_lineReader_created, impl_lineReader_box, impl_Still, cnd_true, cnd_false, show sq' wL [103, 114, 111, 117, 112] = false from rfl, show sq' wL [114, 101, 99, 116] = false from rfl, show sq' wL [108, 105, 110, 101] = true from rfl, show sq' wL [100, 114, 111, 112] = false from rfl, show sq' wL [112, 108, 97, 99, 101] = false from rfl, show sq' wL [112, 97, 105, 110, 116] = false from rfl, show sq' wL [104, 105, 116] = false from rfl, show sq' wL [115, 105, 122, 101] = false from rfl]; rfl) (by rfl) hs (by first | exact rp_l _ | simp)
    | [p1, p2, p3, p4, p5, p6], _, hs => exact deedNo (by unfold impl_lineReader_deed; simp only [nx_cons, bnd_some, num_cons, num_nil, col_cons, col_nil', rp_i, impl_lineReader_created, impl_lineReader_box, impl_Still, cnd_true, cnd_false, show sq' wL [103, 114, 111, 117, 112] = false from rfl, show sq' wL [114, 101, 99, 116] = false from rfl, show sq' wL [108, 105, 110, 101] = true from rfl, show sq' wL [100, 114, 111, 112] = false from rfl, show sq' wL [112, 108, 97, 99, 101] = false from rfl, show sq' wL [112, 97, 105, 110, 116] = false from rfl, show sq' wL [104, 105, 116] = false from rfl, show sq' wL [115, 105, 122, 101] = false from rfl]; rfl) (by rfl) hs (by first | exact rp_l _ | simp)
    | [p1, p2, p3, p4, p5, p6, p7], _, hs => exact deedNo (by unfold impl_lineReader_deed; simp only [nx_cons, bnd_some, num_cons, num_nil, col_cons, col_nil', rp_i, impl_lineReader_created, impl_lineReader_box, impl_Still, cnd_true, cnd_false, show sq' wL [103, 114, 111, 117, 112] = false from rfl, show sq' wL [114, 101, 99, 116] = false from rfl, show sq' wL [108, 105, 110, 101] = true from rfl, show sq' wL [100, 114, 111, 112] = false from rfl, show sq' wL [112, 108, 97, 99, 101] = false from rfl, show sq' wL [112, 97, 105, 110, 116] = false from rfl, show sq' wL [104, 105, 116] = false from rfl, show sq' wL [115, 105, 122, 101] = false from rfl]; rfl) (by rfl) hs (by first | exact rp_l _ | simp)
    | p1 :: p2 :: p3 :: p4 :: p5 :: p6 :: p7 :: p8 :: x :: l, _, hs => exact deedNo (by unfold impl_lineReader_deed; simp only [nx_cons, bnd_some, num_cons, num_nil, col_cons, col_nil', rp_i, impl_lineReader_created, impl_lineReader_box, impl_Still, cnd_true, cnd_false, show sq' wL [103, 114, 111, 117, 112] = false from rfl, show sq' wL [114, 101, 99, 116] = false from rfl, show sq' wL [108, 105, 110, 101] = true from rfl, show sq' wL [100, 114, 111, 112] = false from rfl, show sq' wL [112, 108, 97, 99, 101] = false from rfl, show sq' wL [112, 97, 105, 110, 116] = false from rfl, show sq' wL [104, 105, 116] = false from rfl, show sq' wL [115, 105, 122, 101] = false from rfl]; rfl) (by try dsimp only; rw [iqf (by simp; omega), Bool.and_false]) hs (by first | exact rp_l _ | simp)
    | [p1, p2, p3, p4, p5, p6, p7, p8], h, hs => exact (h rfl).elim
  case pos =>
    obtain ⟨p1, p2, p3, p4, p5, p6, p7, p8, rfl⟩ : ∃ p1 p2 p3 p4 p5 p6 p7 p8, ps = [p1, p2, p3, p4, p5, p6, p7, p8] := by
      match ps, h with
      | [p1, p2, p3, p4, p5, p6, p7, p8], _ => exact ⟨p1, p2, p3, p4, p5, p6, p7, p8, rfl⟩
    have hi : ∃ b, impl_lineReader_deed ⟨[wL, p1, p2, p3, p4, p5, p6, p7, p8], false⟩ = some (1, (rd p1).1, (rd p2).1, false, ⟨65536, 0, 0, 65536, 0, 0⟩, false, (rd p7).1, ⟨1, pcl p8, c0, ⟨0, 0⟩, ⟨0, 0⟩⟩, 1, 255, 0, 0, 0, 0, 0, ⟨[], b⟩, [1, 2], [⟨(rd p3).1, (rd p4).1⟩, ⟨(rd p5).1, (rd p6).1⟩]) ∧ (!b && ieq 0 0) = ((rd p1).2 && (rd p2).2 && (rd p3).2 && (rd p4).2 && (rd p5).2 && (rd p6).2 && (rd p7).2 && pok p8) := by
      refine ⟨_, by unfold impl_lineReader_deed; simp only [nx_cons, bnd_some, num_cons, num_nil, col_cons, col_nil', rp_i, impl_lineReader_created, impl_lineReader_box, impl_Still, cnd_true, cnd_false, show sq' wL [103, 114, 111, 117, 112] = false from rfl, show sq' wL [114, 101, 99, 116] = false from rfl, show sq' wL [108, 105, 110, 101] = true from rfl, show sq' wL [100, 114, 111, 112] = false from rfl, show sq' wL [112, 108, 97, 99, 101] = false from rfl, show sq' wL [112, 97, 105, 110, 116] = false from rfl, show sq' wL [104, 105, 116] = false from rfl, show sq' wL [115, 105, 122, 101] = false from rfl]; rfl, ?_⟩
      generalize (rd p1).2 = o0
      generalize (rd p2).2 = o1
      generalize (rd p3).2 = o2
      generalize (rd p4).2 = o3
      generalize (rd p5).2 = o4
      generalize (rd p6).2 = o5
      generalize (rd p7).2 = o6
      generalize pok p8 = o7
      cases o0 <;> cases o1 <;> cases o2 <;> cases o3 <;> cases o4 <;> cases o5 <;> cases o6 <;> cases o7 <;> rfl
    obtain ⟨b, hi, hb⟩ := hi
    have hn := nums_s (a := [wL, p1, p2, p3, p4, p5, p6, p7, p8]) (n := 7) (by simp) (by omega)
    simp only [List.drop_succ_cons, List.drop_zero, List.take_succ_cons, List.take_zero, List.all_cons, List.all_nil, List.map_cons, List.map_nil] at hn
    have e : ∃ d, spec_l24Deed [wL, p1, p2, p3, p4, p5, p6, p7, p8] = some (d, ((rd p1).2 && (rd p2).2 && (rd p3).2 && (rd p4).2 && (rd p5).2 && (rd p6).2 && (rd p7).2 && pok p8)) ∧ (((rd p1).2 && (rd p2).2 && (rd p3).2 && (rd p4).2 && (rd p5).2 && (rd p6).2 && (rd p7).2 && pok p8) = true → d = ⟨1, ⟨(rd p1).1, (rd p2).1, false, ⟨65536, 0, 0, 65536, 0, 0⟩, ⟨[1, 2], [⟨(rd p3).1, (rd p4).1⟩, ⟨(rd p5).1, (rd p6).1⟩]⟩, false, (rd p7).1, [], ⟨1, pcl p8, c0, ⟨0, 0⟩, ⟨0, 0⟩⟩, 1, 255, ⟨[], []⟩⟩, 0, 0, 0, 0, 0⟩) := by
      unfold spec_l24Deed
      rw [ix0, bnd_some]
      simp only [show sq' wL [103, 114, 111, 117, 112] = false from rfl, show sq' wL [114, 101, 99, 116] = false from rfl, show sq' wL [108, 105, 110, 101] = true from rfl, cnd_true, cnd_false]
      unfold spec_l24Create
      rw [loopI_go (x := 0) (y := 1) (by rfl)]
      rw [loopI_go (x := 1) (y := 2) (by rfl)]
      have hq : ((rd p1).2 && (rd p2).2 && (rd p3).2 && (rd p4).2 && (rd p5).2 && (rd p6).2 && (rd p7).2) = ((rd p1).2 && ((rd p2).2 && ((rd p3).2 && ((rd p4).2 && ((rd p5).2 && ((rd p6).2 && ((rd p7).2 && true))))))) := by simp [Bool.and_assoc]
      replace hn : spec_l24Nums [wL, p1, p2, p3, p4, p5, p6, p7, p8] 1 7 = _ := hn
      by_cases hA : ((rd p1).2 && ((rd p2).2 && ((rd p3).2 && ((rd p4).2 && ((rd p5).2 && ((rd p6).2 && ((rd p7).2 && true))))))) = true
      · rw [if_pos hA] at hn
        obtain ⟨P, hP⟩ : ∃ P : TPaint, P = if pok p8 then ⟨1, pcl p8, c0, ⟨0, 0⟩, ⟨0, 0⟩⟩ else pt0 := ⟨_, rfl⟩
        have st : spec_l24Create_l0 [wL, p1, p2, p3, p4, p5, p6, p7, p8] 2 = some (.inr (.inr ((rd p1).1, (rd p2).1, 65536, 0, 0, 65536, 0, 0, 255, pok p8, false, [1, 2], [⟨(rd p3).1, (rd p4).1⟩, ⟨(rd p5).1, (rd p6).1⟩], P.kind, P.first.r, P.first.g, P.first.b, P.first.a, P.last.r, P.last.g, P.last.b, P.last.a, P.from_.x, P.from_.y, P.to.x, P.to.y, (rd p7).1, 1, 1))) := by
          unfold spec_l24Create_l0; simp only [ix00, ix1, ix2, ix3, ix4, ix5, ix6, bnd_some, List.length_cons, List.length_nil]; rw [ilf (by omega), cnd_false, show sq' wL [108, 105, 110, 101] = true from rfl, cnd_true, iqx (by omega), cnd_true, hn, bnd_some]
          dsimp only
          rw [cnd_true]; simp only [ix00, ix1, ix2, ix3, ix4, ix5, ix6, bnd_some, spec_Still, spec_Shift]
          rw [show ieq (2 : Int) 0 = false from rfl, cnd_false, wr_in (n := 9 - 1) (by omega), show ((9 : Int) - 1) = ((8 : Nat) : Int) from rfl, idx_some (x := p8) rfl, bnd_some, plain_s, bnd_some, ← hP]
          dsimp only
          rw [show ieq (2 : Int) 1 = false from rfl, cnd_false]
        refine ⟨_, by rw [loopI_end (r := .inr ((rd p1).1, (rd p2).1, 65536, 0, 0, 65536, 0, 0, 255, pok p8, false, [1, 2], [⟨(rd p3).1, (rd p4).1⟩, ⟨(rd p5).1, (rd p6).1⟩], P.kind, P.first.r, P.first.g, P.first.b, P.first.a, P.last.r, P.last.g, P.last.b, P.last.a, P.from_.x, P.from_.y, P.to.x, P.to.y, (rd p7).1, 1, 1)) st, bnd_some, hq, hA]; first | done | rfl, fun hh => ?_⟩
        have hc : pok p8 = true := by rw [hq, hA] at hh; simpa using hh
        rw [if_pos hc] at hP; subst hP; rfl
      · rw [if_neg hA] at hn
        have st : spec_l24Create_l0 [wL, p1, p2, p3, p4, p5, p6, p7, p8] 2 = some (.inr (.inr (0, 0, 0, 0, 0, 0, 0, 0, 0, false, false, [], [], 0, 0, 0, 0, 0, 0, 0, 0, 0, 0, 0, 0, 0, 0, 0, 0))) := by
          unfold spec_l24Create_l0; simp only [ix00, ix1, ix2, ix3, ix4, ix5, ix6, bnd_some, List.length_cons, List.length_nil]; rw [ilf (by omega), cnd_false, show sq' wL [108, 105, 110, 101] = true from rfl, cnd_true, iqx (by omega), cnd_true, hn, bnd_some]; rfl
        have hk : ((rd p1).2 && (rd p2).2 && (rd p3).2 && (rd p4).2 && (rd p5).2 && (rd p6).2 && (rd p7).2 && pok p8) = false := by rw [hq, Bool.eq_false_iff.2 hA]; rfl
        refine ⟨_, by rw [loopI_end (r := .inr (0, 0, 0, 0, 0, 0, 0, 0, 0, false, false, [], [], 0, 0, 0, 0, 0, 0, 0, 0, 0, 0, 0, 0, 0, 0, 0, 0)) st, bnd_some, hk]; first | done | rfl, fun hh => ?_⟩
        rw [hk] at hh; cases hh
    obtain ⟨d, e1, e2⟩ := e
    exact deedYes hi hb e1 e2 (by first | exact rp_l _ | simp)

/-! ## FnExactReadScript: all of it -/
theorem deedS_st {x : TDeed} (hx : NB x.node) {k : Int} (h0 : 0 ≤ k) (h1 : k ≤ 562949953421312) : ∃ (y : TDeed) (k' : Int), k ≤ k' ∧ k' ≤ k + ((16777216 : Nat) : Int) ∧
      (∀ (i : Nat) (l : List TDeed), i < 1048576 → l[i]? = some x → laws_markDeedS_l0 (k, (i : Int), l) = some (.inl (k', ((i + 1 : Nat) : Int), l.set i y))) ∧
      (∀ (i : Nat) (l : List TDeed), i < 1048576 → l[i]? = some y → laws_heldDeedS_l0 l (k, (i : Int)) = some (.inl (k', ((i + 1 : Nat) : Int)))) := by
  obtain ⟨v1, v2, v3, v4, v5⟩ := hx
  obtain ⟨p, hp⟩ : ∃ p, p = k + 10 + (x.node.path.verbs.length : Int) := ⟨_, rfl⟩
  obtain ⟨q, hq⟩ : ∃ q, q = p + 2 * (x.node.path.points.length : Int) := ⟨_, rfl⟩
  obtain ⟨r, hr⟩ : ∃ r, r = q + 2 + (x.node.dashes.length : Int) := ⟨_, rfl⟩
  obtain ⟨s, hs⟩ : ∃ s, s = r + 15 + (x.node.clip.verbs.length : Int) := ⟨_, rfl⟩
  obtain ⟨t, ht⟩ : ∃ t, t = s + 2 * (x.node.clip.points.length : Int) := ⟨_, rfl⟩
  refine ⟨⟨k, ⟨k + 1, k + 2, ieq (Int.tmod (k + 3) 3) 0, ⟨k + 4, k + 5, k + 6, k + 7, k + 8, k + 9⟩, ⟨inM (k + 10) x.node.path.verbs.length, ptM p x.node.path.points.length⟩, ieq (Int.tmod q 3) 0, q + 1, inM (q + 2) x.node.dashes.length,
    ⟨r, ⟨r + 1, r + 2, r + 3, r + 4⟩, ⟨r + 5, r + 6, r + 7, r + 8⟩, ⟨r + 9, r + 10⟩, ⟨r + 11, r + 12⟩⟩, r + 13, r + 14, ⟨inM (r + 15) x.node.clip.verbs.length, ptM s x.node.clip.points.length⟩⟩, t, t + 1, t + 2, t + 3, t + 4⟩, t + 5, by omega, by omega, fun i l hi hl => ?_, fun i l hi hl => ?_⟩
  · have hb := (List.getElem?_eq_some_iff.1 hl).1
    rw [laws_markDeedS_l0, ilf (by omega), cnd_false, idx_some hl, bnd_some]
    simp (disch := omega) only [wr_in, Int.add_assoc, Int.reduceAdd]
    rw [inM_m (by omega) (by omega) v1, bnd_some]
    dsimp only
    rw [← hp, ptM_m (by omega) (by omega) v2, bnd_some]
    dsimp only
    rw [← hq]
    simp (disch := omega) only [wr_in, Int.add_assoc, Int.reduceAdd]
    rw [inM_m (by omega) (by omega) v3, bnd_some]
    dsimp only
    rw [← hr]
    simp (disch := omega) only [wr_in, Int.add_assoc, Int.reduceAdd]
    rw [inM_m (by omega) (by omega) v4, bnd_some]
    dsimp only
    rw [← hs, ptM_m (by omega) (by omega) v5, bnd_some]
    dsimp only
    rw [← ht]
    simp (disch := omega) only [wr_in, Int.add_assoc, Int.reduceAdd, Int.toNat_natCast]
    rfl
  · have hb := (List.getElem?_eq_some_iff.1 hl).1
    rw [laws_heldDeedS_l0, ilf (by omega), cnd_false, idx_some hl, bnd_some]
    simp (disch := omega) only [wr_in, Int.add_assoc, Int.reduceAdd, iqt, cnd_true, decide_true, andB, Bool.and_self]
    rw [inM_h (by omega) (by omega) v1, bnd_some, ← hp, ilt (by omega), cnd_true, ptM_h (by omega) (by omega) v2, bnd_some, ← hq, ilt (by omega), cnd_true]
    simp (disch := omega) only [wr_in, Int.add_assoc, Int.reduceAdd, iqt, cnd_true, decide_true, andB, Bool.and_self]
    rw [inM_h (by omega) (by omega) v3, bnd_some, ← hr, ilt (by omega), cnd_true]
    simp (disch := omega) only [wr_in, Int.add_assoc, Int.reduceAdd, iqt, cnd_true, decide_true, andB, Bool.and_self]
    rw [inM_h (by omega) (by omega) v4, bnd_some, ← hs, ilt (by omega), cnd_true, ptM_h (by omega) (by omega) v5, bnd_some, ← ht, ilt (by omega), cnd_true]
    simp (disch := omega) only [wr_in, Int.add_assoc, Int.reduceAdd, iqt, cnd_true]
    rfl
theorem deedS_mh {a : List TDeed} (hl : a.length ≤ 1048576) (hx : ∀ x ∈ a, NB x.node) : ∃ (L : List TDeed) (k : Int), (1 ≤ k ∧ k ≤ 562949953421312) ∧ L.length = a.length ∧ laws_markDeedS 1 a = some (k, L) ∧ laws_heldDeedS L 1 = some k := by
  obtain ⟨L, k, e1, e2, e3, e4⟩ := mh_loop (f := laws_markDeedS_l0) (g := laws_heldDeedS_l0) a 16777216 hl (by omega) (fun k l => by rw [laws_markDeedS_l0, ilt (by omega), cnd_true]) (fun k l => by rw [laws_heldDeedS_l0, ilt (by omega), cnd_true]) (fun x h k h0 h1 => deedS_st (hx x h) h0 h1) (k0 := 1) (by omega) (by omega)
  refine ⟨L, k, by omega, e2, ?_, ?_⟩
  · unfold laws_markDeedS; rw [e3]; rfl
  · unfold laws_heldDeedS; rw [e4, bnd_some]
theorem deed_other (w : List UInt8) (ps : List (List UInt8)) (hG : w ≠ wG) (hR : w ≠ wR) (hL : w ≠ wL) (hD : w ≠ wD) (hP : w ≠ wP) (hT : w ≠ wT) (hH : w ≠ wH) (hS : w ≠ wS) : DeedOk (w :: ps) := by
  have sG : sq' w [103, 114, 111, 117, 112] = false := sq_f hG
  have sR : sq' w [114, 101, 99, 116] = false := sq_f hR
  have sL : sq' w [108, 105, 110, 101] = false := sq_f hL
  have sD : sq' w [100, 114, 111, 112] = false := sq_f hD
  have sP : sq' w [112, 108, 97, 99, 101] = false := sq_f hP
  have sT : sq' w [112, 97, 105, 110, 116] = false := sq_f hT
  have sH : sq' w [104, 105, 116] = false := sq_f hH
  have sS : sq' w [115, 105, 122, 101] = false := sq_f hS
  have e1 : impl_lineReader_deed ⟨w :: ps, false⟩ = some (0, 0, 0, false, m0, false, 0, pt0, 0, 0, 0, 0, 0, 0, 0, ⟨ps, true⟩, [], []) := by
    unfold impl_lineReader_deed
    rw [nx_cons, bnd_some]
    try dsimp only
    rw [sG, cnd_false, sR, cnd_false, sL, cnd_false, sD, cnd_false, sP, cnd_false, sT, cnd_false, sH, cnd_false, sS, cnd_false]; rfl
  refine deedNo e1 rfl ?_ (by simp)
  have st : ∀ (j : Int) (v : List UInt8) (h0 : 0 ≤ j) (h1 : j < 5), idx [wD, wP, wT, wH, wS] j = some v → w ≠ v → spec_l24Deed_l0 (w :: ps) j = some (.inl (j + 1)) := fun j v h0 h1 h2 h3 => by
    have h2' : idx [[100, 114, 111, 112], [112, 108, 97, 99, 101], [112, 97, 105, 110, 116], [104, 105, 116], [115, 105, 122, 101]] j = some v := h2
    unfold spec_l24Deed_l0
    rw [ilf (by simp; omega), cnd_false, ix0, bnd_some, h2', bnd_some, sq_f h3, cnd_false, wr_in (by omega)]
  unfold spec_l24Deed
  rw [ix0, bnd_some, sG, cnd_false, sR, cnd_false, sL, cnd_false]
  rw [loopI_go (x := 0) (y := 1) (st 0 wD (by omega) (by omega) rfl hD), loopI_go (x := 1) (y := 2) (st 1 wP (by omega) (by omega) rfl hP), loopI_go (x := 2) (y := 3) (st 2 wT (by omega) (by omega) rfl hT), loopI_go (x := 3) (y := 4) (st 3 wH (by omega) (by omega) rfl hH), loopI_go (x := 4) (y := 5) (st 4 wS (by omega) (by omega) rfl hS), loopI_end (r := .inl ()) (by rfl), bnd_some]
  rfl
theorem deed_all {p : List (List UInt8)} (h : p ≠ []) : DeedOk p := by
  match p, h with
  | w :: ps, _ =>
    by_cases hG : w = wG
    · subst hG; exact deed_G ps
    by_cases hR : w = wR
    · subst hR; exact deed_R ps
    by_cases hL : w = wL
    · subst hL; exact deed_L ps
    by_cases hD : w = wD
    · subst hD; exact deed_D ps
    by_cases hP : w = wP
    · subst hP; exact deed_P ps
    by_cases hT : w = wT
    · subst hT; exact deed_T ps
    by_cases hH : w = wH
    · subst hH; exact deed_H ps
    by_cases hS : w = wS
    · subst hS; exact deed_S ps
    exact deed_other w ps hG hR hL hD hP hT hH hS
theorem deed_nil : ∃ r, impl_readDeed [] = some r := ⟨_, rdeed_of (k := 0) (i := 0) (pp := 0) (g := false) (m := m0) (ev := false) (w := 0) (pt := pt0) (md := 0) (fd := 0) (i2 := 0) (p2 := 0) (b2 := 0) (x := 0) (y := 0) (q := ⟨[], true⟩) (vs := []) (ps := []) (by rfl)⟩
theorem eng_new (x y : Int) : ∃ e, spec_EngineNew x y = some (e, tin x 1 12 && tin y 1 12) := by
  unfold spec_EngineNew
  cases hx : tin x 1 12 with
  | false =>
    have e : spec_SurfaceNew x y = some (⟨0, 0, []⟩, false) := by unfold spec_SurfaceNew; rw [m_spec_l01In, bnd_some, hx, cnd_false]
    rw [e, bnd_some]; exact ⟨_, rfl⟩
  | true =>
    cases hy : tin y 1 12 with
    | false =>
      have e : spec_SurfaceNew x y = some (⟨0, 0, []⟩, false) := by unfold spec_SurfaceNew; rw [m_spec_l01In, bnd_some, hx, cnd_true, m_spec_l01In, bnd_some, hy, cnd_false]
      rw [e, bnd_some]; exact ⟨_, rfl⟩
    | true =>
      rw [m_spec_SurfaceNew hx hy, bnd_some]
      try dsimp only
      rw [cnd_true, m_spec_TileCount, bnd_some]
      have h1 := tin_t.1 hx
      have h2 := tin_t.1 hy
      have ht : 0 ≤ tileCount x y ∧ tileCount x y ≤ 1048576 := by
        unfold tileCount
        have a1 : 0 ≤ (x + 3) / 4 ∧ (x + 3) / 4 ≤ 3 := by omega
        have a2 : 0 ≤ (y + 3) / 4 ∧ (y + 3) / 4 ≤ 3 := by omega
        rw [hx, hy]
        simp only [Bool.and_self, if_true]
        have := Int.mul_nonneg a1.1 a2.1
        have := Int.mul_le_mul a1.2 a2.2 a2.1 (by omega)
        omega
      rw [chkP_pos ⟨by omega, by omega, by omega, by omega⟩, nam_eq]
      exact ⟨_, rfl⟩
def RI (n : Nat) (x : Int × Int × Int × List TDeed) : Prop := ∃ (i : Nat) (w h : Int) (ds : List TDeed), x = ((i : Int), w, h, ds) ∧ i ≤ n ∧ n ≤ 60 ∧ 0 ≤ w ∧ (w = 0 → ds = []) ∧ ds.length ≤ 40 ∧ ∀ d ∈ ds, NB d.node
theorem rs_step {v1 : List (List UInt8)} {x : Int × Int × Int × List TDeed} (h : RI v1.length x) : impl_ReadScript_l0 v1 x = spec_ReadScript_l0 v1 x ∧
    ((∃ y, spec_ReadScript_l0 v1 x = some (.inl y) ∧ RI v1.length y ∧ v1.length - y.1.toNat < v1.length - x.1.toNat) ∨ ∃ r, spec_ReadScript_l0 v1 x = some (.inr r) ∧ ∀ ds w h, r = .inl (ds, w, h) → ds.length ≤ 40 ∧ ∀ d ∈ ds, NB d.node) := by
  obtain ⟨i, w, hh, ds, rfl, h1, h2, h3, h4, h5, h6⟩ := h
  rw [impl_ReadScript_l0, spec_ReadScript_l0]
  by_cases he : i = v1.length
  · rw [ilt (by omega)]; simp only [cnd_true]
    exact ⟨by first | rfl | trivial, .inr ⟨_, rfl, fun ds' w' h' e => by cases e; exact ⟨h5, h6⟩⟩⟩
  have hi : i < v1.length := by omega
  rw [ilf (by omega)]; simp only [cnd_false]
  rw [idx_nat hi, bnd_some, bnd_some, parts_i, parts_s, bnd_some, bnd_some]
  try dsimp only
  rw [wr_in (n := (i : Int) + 1) (by omega)]
  have hw : ((i : Int) + 1) = ((i + 1 : Nat) : Int) := by omega
  have bad : ∀ r : Int, ∃ r', (some (Sum.inr (Sum.inr r)) : Option ((Int × Int × Int × List TDeed) ⊕ ((List TDeed × Int × Int) ⊕ Int))) = some (.inr r') ∧ ∀ ds w h, r' = .inl (ds, w, h) → ds.length ≤ 40 ∧ ∀ d ∈ ds, NB d.node := fun r => ⟨_, rfl, fun _ _ _ e => by cases e⟩
  have go : ∀ (w' h' : Int) (ds' : List TDeed), 0 ≤ w' → (w' = 0 → ds' = []) → ds'.length ≤ 40 → (∀ d ∈ ds', NB d.node) → ∃ y, (some (Sum.inl ((i : Int) + 1, w', h', ds')) : Option ((Int × Int × Int × List TDeed) ⊕ ((List TDeed × Int × Int) ⊕ Int))) = some (.inl y) ∧ RI v1.length y ∧ v1.length - y.1.toNat < v1.length - (i : Int).toNat := fun w' h' ds' g1 g2 g3 g4 =>
    ⟨_, rfl, ⟨i + 1, w', h', ds', by rw [hw], by omega, h2, g1, g2, g3, g4⟩, by dsimp only; omega⟩
  obtain ⟨p, o, hpo, hne⟩ : ∃ p o, partsOf v1[i] = (p, o) ∧ ∀ z ∈ p, z ≠ [] := by
    unfold partsOf
    split
    · refine ⟨_, _, rfl, fun z hz => ?_⟩
      rw [wds_sp, List.mem_filter] at hz
      exact ne0_t.1 hz.2
    · exact ⟨_, _, rfl, by simp⟩
  rw [hpo]
  try dsimp only
  cases o with
  | false =>
    simp only [cnd_false]
    have hd : ∃ r, impl_readDeed p = some r := by
      by_cases hp : p = []
      · subst hp; exact deed_nil
      · obtain ⟨r, hr, _⟩ := deed_all hp; exact ⟨r, hr⟩
    obtain ⟨⟨a1, a2, a3, a4, a5, a6, a7, a8, a9, a10, a11, a12, a13, a14, a15, a16, a17, a18⟩, hr⟩ := hd
    rw [hr, bnd_some]
    exact ⟨rfl, .inr (bad _)⟩
  | true =>
    simp only [cnd_true]
    match p, hne with
    | [], _ =>
      rw [show ieq ((List.length ([] : List (List UInt8)) : Nat) : Int) 0 = true from rfl]
      simp only [cnd_true]
      exact ⟨by first | rfl | trivial, .inl (go w hh ds h3 h4 h5 h6)⟩
    | z :: ps, hne =>
      rw [iqf (by simp; omega)]
      simp only [cnd_false]
      rw [ix0, bnd_some, bnd_some]
      match z, hne z (.head _) with
      | c :: z', _ =>
        rw [show idx (c :: z') 0 = some c from rfl, bnd_some, bnd_some]
        by_cases h35 : (c.toNat : Int) = 35
        · rw [h35, iqt]; simp only [cnd_true]
          exact ⟨by first | rfl | trivial, .inl (go w hh ds h3 h4 h5 h6)⟩
        rw [iqf h35]; simp only [cnd_false]
        obtain ⟨r, hr, ⟨d, hd, hdo⟩, l1, l2⟩ := deed_all (p := (c :: z') :: ps) (by simp)
        rw [hr, hd, bnd_some, bnd_some]
        obtain ⟨a1, a2, a3, a4, a5, a6, a7, a8, a9, a10, a11, a12, a13, a14, a15, a16, a17, a18⟩ := r
        try dsimp only
        try dsimp only [fOf]
        obtain ⟨en, hen⟩ := eng_new d.x d.y
        cases a16 with
        | false =>
          simp only [cnd_false]
          by_cases hw0 : w = 0
          · rw [hw0, iqt, cnd_true, hen, bnd_some]
            exact ⟨rfl, .inr (bad _)⟩
          · rw [iqf hw0, cnd_false]
            exact ⟨rfl, .inr (bad _)⟩
        | true =>
          have hd' := hdo rfl
          dsimp only [dOf] at hd'
          subst hd'
          simp only [cnd_true]
          have hNB : NB (⟨a2, a3, a4, a5, ⟨a17, a18⟩, a6, a7, [], a8, a9, a10, ⟨[], []⟩⟩ : TNode) := by
            dsimp only [dOf] at l1 l2
            exact ⟨by dsimp only; omega, by dsimp only; omega, by simp, by simp, by simp⟩
          by_cases hw0 : w = 0
          · have hds := h4 hw0
            subst hds
            rw [hw0, iqt, cnd_true, hen, bnd_some, ilf (by simp), cnd_false, ilt (by omega), cnd_true]
            try dsimp only
            by_cases hk : a1 = 7
            · rw [hk, iqt]; simp only [cnd_true]
              rw [m_impl_isSide, m_impl_isSide, bnd_some]
              cases hx : tin a14 1 12 with
              | false => simp only [cnd_false, Bool.false_and]; exact ⟨by first | rfl | trivial, .inr (bad _)⟩
              | true =>
                rw [cnd_true, bnd_some]
                cases hy : tin a15 1 12 with
                | false => simp only [cnd_false, Bool.and_false]; exact ⟨by first | rfl | trivial, .inr (bad _)⟩
                | true =>
                  simp only [cnd_true, Bool.and_self]
                  have := tin_t.1 hx
                  exact ⟨by first | rfl | trivial, .inl (go _ _ [] (by omega) (fun _ => rfl) (by simp) (by simp))⟩
            · rw [iqf hk]; simp only [cnd_false]
              exact ⟨by first | rfl | trivial, .inr (bad _)⟩
          · rw [iqf hw0, cnd_false]
            by_cases h40 : ds.length = 40
            · rw [ilt (by omega), cnd_true, iqx (by omega), cnd_true]
              exact ⟨rfl, .inr (bad _)⟩
            · have q1 : ile 40 (ds.length : Int) = false := ilf (by omega)
              have q2 : ile w 0 = false := ilf (by omega)
              have q3 : ieq (ds.length : Int) 40 = false := iqf (by omega)
              rw [q1, q2, q3]; simp only [cnd_false]
              rw [chkP_pos (by omega), chkP_pos (by omega), nam_eq]
              refine ⟨rfl, .inl (go _ _ _ h3 (fun e => (hw0 e).elim) (by simp; omega) fun d hd => ?_)⟩
              rcases List.mem_append.1 hd with hd | hd
              · exact h6 d hd
              · simp only [List.mem_singleton] at hd
                subst hd; exact hNB
theorem rs_all (a : List UInt8) (ha : a.length ≤ 1048576) : ∃ w h ds l, spec_ReadScript a = some (w, h, ds, l) ∧ impl_ReadScript a = some (w, h, l, ds) ∧ ds.length ≤ 40 ∧ ∀ d ∈ ds, NB d.node := by
  unfold spec_ReadScript impl_ReadScript
  rw [lines_i ha, lines_s ha, bnd_some, bnd_some]
  by_cases h1 : a.length ≤ 4000
  case neg => rw [ilf (by omega)]; simp only [cnd_false]; exact ⟨_, _, _, _, rfl, rfl, by simp, by simp⟩
  rw [ilt (by omega)]; simp only [cnd_true]
  by_cases h2 : (lns [] a).length ≤ 60
  case neg => rw [ilf (by omega)]; simp only [cnd_false]; exact ⟨_, _, _, _, rfl, rfl, by simp, by simp⟩
  rw [ilt (by omega)]; simp only [cnd_true]
  have h0 : RI (lns [] a).length (0, 0, 0, []) := ⟨0, 0, 0, [], rfl, by omega, h2, by omega, fun _ => rfl, by simp, by simp⟩
  have e := loopI_congr (f := impl_ReadScript_l0 (lns [] a)) (g := spec_ReadScript_l0 (lns [] a)) (RI (lns [] a).length) (fun x hx => (rs_step hx).1) (fun x y hx hy => by
    obtain ⟨g1, ⟨z, g2, g3, _⟩ | ⟨r, g2, _⟩⟩ := rs_step hx
    · rw [g1, g2] at hy; cases hy; exact g3
    · rw [g1, g2] at hy; cases hy) h0
  obtain ⟨r, e2, hq⟩ := loopI_tot (f := spec_ReadScript_l0 (lns [] a)) (RI (lns [] a).length) (fun r => ∀ ds w h, r = .inl (ds, w, h) → ds.length ≤ 40 ∧ ∀ d ∈ ds, NB d.node) (fun x => (lns [] a).length - x.1.toNat) (fun x hx => (rs_step hx).2) h0
  rw [e, e2, bnd_some, bnd_some]
  cases r with
  | inr y => exact ⟨_, _, _, _, rfl, rfl, by simp, by simp⟩
  | inl y =>
    obtain ⟨ds, w, h⟩ := y
    obtain ⟨g1, g2⟩ := hq ds w h rfl
    try dsimp only
    by_cases hw : w = 0
    · rw [hw, iqt]; simp only [cnd_true]; exact ⟨_, _, _, _, rfl, rfl, by simp, by simp⟩
    · rw [iqf hw]; simp only [cnd_false]; exact ⟨_, _, _, _, rfl, rfl, g1, g2⟩
theorem m_FnExactReadScript {a : List UInt8} (_ : a.length ≤ maxLen) : laws_FnExactReadScript a = some true := by
  unfold laws_FnExactReadScript
  by_cases h : a.length ≤ 1048576
  case neg => rw [ilf (by omega), cnd_false]
  rw [ilt (by omega), cnd_true]
  obtain ⟨w, hh, ds, l, e1, e2, g1, g2⟩ := rs_all a h
  rw [e1, bnd_some]
  try dsimp only
  rw [e2, bnd_some]
  try dsimp only
  rw [iqt, cnd_true, iqt, cnd_true, f_laws_eqDeedS ⟨by omega, fun d hd => gd_nb (g2 d hd)⟩, bnd_some, cnd_true, iqt, cnd_true]
  obtain ⟨L, k, k1, _, k3, k4⟩ := deedS_mh (a := ds) (by omega) g2
  rw [k3, bnd_some]
  try dsimp only
  rw [k4, bnd_some, ilt (by omega), cnd_true, iqt, cnd_true]

end Go.Proofs.YtapchldnmkfkoabDoor.Am
