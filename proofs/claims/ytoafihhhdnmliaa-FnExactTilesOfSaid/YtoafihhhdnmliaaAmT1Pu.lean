import Derived.Test.YtoafihhhdnmliaaAmT1Mo
import Derived.Test.YtoafihhhdnmliaaAmRo
import Derived.Test.YtoafihhhdnmliaaAmLw
set_option linter.unusedVariables false
set_option linter.unusedSimpArgs false
set_option linter.unusedSectionVars false
namespace Go.Proofs.Ytoafihhhdnmliaa.Am
open Go Go.Proofs
def ok_Box (x : TBox) : Prop := (okN .i64) x.x0 ∧ (okN .i64) x.y0 ∧ (okN .i64) x.x1 ∧ (okN .i64) x.y1
theorem dm_Box : Dm (.struct [.int .i64, .int .i64, .int .i64, .int .i64]) eBox ok_Box := ⟨fun cs h => by
  rw [Dom] at h; simp only [DomL] at h
  obtain ⟨_, _, rfl, h0, _, _, rfl, h1, _, _, rfl, h2, _, _, rfl, h3, rfl⟩ := h
  obtain ⟨x0, rfl, k0⟩ := dm_int.c h0
  obtain ⟨x1, rfl, k1⟩ := dm_int.c h1
  obtain ⟨x2, rfl, k2⟩ := dm_int.c h2
  obtain ⟨x3, rfl, k3⟩ := dm_int.c h3
  exact ⟨⟨x0, x1, x2, x3⟩, by simp [elA, Ty.isS], k0, k1, k2, k3⟩⟩
end Go.Proofs.Ytoafihhhdnmliaa.Am
namespace Go.Proofs.Ytoafihhhdnmliaa.Am
open Go Go.Proofs
set_option linter.unusedVariables false
set_option linter.unusedSimpArgs false
theorem f_laws_szBoxS {a : List TBox} {left : Int} (ho : okL ok_Box a) (h0 : 0 ≤ left) (h1 : left ≤ 1048576) : ∃ v, laws_szBoxS a left = some v ∧ szR v left (gdL tt a) := by
  unfold laws_szBoxS; exact sz_row (maxL ho.1) h0 h1
theorem f_laws_toBox {a : TBox} : laws_toBox a = some a := by
  unfold laws_toBox
  rfl
theorem f_laws_toBoxS {a : List TBox} (hg : (gdL tt) a) : laws_toBoxS a = some a := by
  unfold laws_toBoxS
  rw [chkP_pos (ch_row hg.1 (by omega))]
  have h := to_loop (f := laws_toBoxS_l0 a) (toE := laws_toBox) ((TBox.mk 0 0 0 0)) (fun x hx => f_laws_toBox ) (fun _ _ => rfl) hg.1
  simp only [nam_eq, h, bnd_some]
theorem f_laws_eqIntS {a : List Int} (hg : (gdL tt) a) : laws_eqIntS a a = some true := by
  unfold laws_eqIntS
  have h := eq_loop (f := laws_eqIntS_l0 a a) (eqE := (fun x y => some (ieq x y))) (fun _ _ => by simp [ieq, sq']) (fun _ => rfl) hg.1
  rw [iqt, cnd_true, h]; rfl
theorem f_laws_eqBox {a : TBox} : laws_eqBox a a = some true := by
  unfold laws_eqBox
  simp only [bnd_some, cnd_true, iqt, andB, decide_true, Bool.and_self, Bool.and_true]
theorem f_laws_eqBoxS {a : List TBox} (hg : (gdL tt) a) : laws_eqBoxS a a = some true := by
  unfold laws_eqBoxS
  have h := eq_loop (f := laws_eqBoxS_l0 a a) (eqE := laws_eqBox) (fun x hx => f_laws_eqBox ) (fun _ => rfl) hg.1
  rw [iqt, cnd_true, h]; rfl
end Go.Proofs.Ytoafihhhdnmliaa.Am
namespace Go.Proofs.Ytoafihhhdnmliaa.Am
open Go Go.Proofs
set_option linter.unusedSimpArgs false
set_option linter.unusedVariables false
set_option maxRecDepth 100000
/-! ## Small words -/
def tin (x a b : Int) : Bool := ile a x && ile x b
theorem tin_t {x a b : Int} : tin x a b = true ↔ a ≤ x ∧ x ≤ b := by simp [tin, ile_t]
@[simp] theorem m_spec_l01In (x a b : Int) : spec_l01In x a b = some (tin x a b) := by
  unfold spec_l01In tin; cases ile a x <;> simp
@[simp] theorem m_impl_inRange (x a b : Int) : impl_inRange x a b = some (tin x a b) := by
  unfold impl_inRange tin; cases ile a x <;> simp
@[simp] theorem m_impl_isSide (x : Int) : impl_isSide x = some (tin x 1 12) := by unfold impl_isSide; simp
def tileCount (w h : Int) : Int := if tin w 1 12 && tin h 1 12 then ((w + 3) / 4) * ((h + 3) / 4) else 0
theorem four {w : Int} (h : tin w 1 12 = true) : (w + 3) / 4 = 1 ∨ (w + 3) / 4 = 2 ∨ (w + 3) / 4 = 3 := by rw [tin_t] at h; omega
theorem wr9 {w h : Int} (hw : tin w 1 12 = true) (hh : tin h 1 12 = true) : IntKind.i64.wrap ((w + 3) / 4 * ((h + 3) / 4)) = (w + 3) / 4 * ((h + 3) / 4) := by
  refine wr_in ?_
  rcases four hw with e | e | e <;> rcases four hh with f | f | f <;> rw [e, f] <;> decide
theorem up4 {w : Int} (h : tin w 1 12 = true) : IntKind.i64.wrap ((IntKind.i64.wrap (w + 3)).tdiv 4) = (w + 3) / 4 := by
  rw [tin_t] at h
  rw [wr_in (n := w + 3) (by omega), Int.tdiv_eq_ediv_of_nonneg (by omega), wr_in (by omega)]
theorem m_along {x : Int} (h : tin x 1 12 = true) : impl_tilesAlong x = some ((x + 3) / 4) := by
  rw [tin_t] at h
  unfold impl_tilesAlong
  rw [wr_in (n := x + 4) (by omega), wr_in (n := x + 4 - 1) (by omega), Int.tdiv_eq_ediv_of_nonneg (by omega), wr_in (by omega)]
  congr 1; omega
@[simp] theorem m_impl_TileCount (w h : Int) : impl_TileCount w h = some (tileCount w h) := by
  unfold impl_TileCount tileCount
  cases hw : tin w 1 12 <;> cases hh : tin h 1 12 <;> simp [m_along, wr9, *]
@[simp] theorem m_spec_TileCount (w h : Int) : spec_TileCount w h = some (tileCount w h) := by
  unfold spec_TileCount tileCount
  cases hw : tin w 1 12 <;> cases hh : tin h 1 12 <;> simp [up4, wr9, *]

def TBox.empty (b : TBox) : Bool := ile b.x1 b.x0 || ile b.y1 b.y0
def TBox.zero : TBox := ⟨0, 0, 0, 0⟩
def meet (a b : TBox) : TBox :=
  let c : TBox := ⟨max a.x0 b.x0, max a.y0 b.y0, min a.x1 b.x1, min a.y1 b.y1⟩
  if c.empty then .zero else c
@[simp] theorem m_impl_Empty (b : TBox) : impl_Empty b = some b.empty := by
  unfold impl_Empty TBox.empty; cases ile b.x1 b.x0 <;> simp
@[simp] theorem m_spec_Empty (b : TBox) : spec_Empty b = some b.empty := by
  unfold spec_Empty TBox.empty; cases ile b.x1 b.x0 <;> simp
@[simp] theorem m_spec_l05Most (a b : Int) : spec_l05Most a b = some (max a b) := by
  unfold spec_l05Most; cases h : ile a b
  · rw [ile_f] at h; simp; omega
  · rw [ile_t] at h; simp; omega
@[simp] theorem m_spec_l05Least (a b : Int) : spec_l05Least a b = some (min a b) := by
  unfold spec_l05Least; cases h : ile b a
  · rw [ile_f] at h; simp; omega
  · rw [ile_t] at h; simp; omega
@[simp] theorem m_impl_MeetBox (a b : TBox) : impl_MeetBox a b = some (meet a b) := by
  unfold impl_MeetBox meet
  simp
  cases h : TBox.empty ⟨max a.x0 b.x0, max a.y0 b.y0, min a.x1 b.x1, min a.y1 b.y1⟩ <;> simp [TBox.zero]
@[simp] theorem m_spec_MeetBox (a b : TBox) : spec_MeetBox a b = some (meet a b) := by
  unfold spec_MeetBox meet
  simp
  cases h : TBox.empty ⟨max a.x0 b.x0, max a.y0 b.y0, min a.x1 b.x1, min a.y1 b.y1⟩ <;> simp [TBox.zero]
def tileBox (w h i : Int) : TBox :=
  if tin i 0 (tileCount w h - 1) then
    let x := i % ((w + 3) / 4) * 4
    let y := i / ((w + 3) / 4) * 4
    meet ⟨x, y, x + 4, y + 4⟩ ⟨0, 0, w, h⟩
  else .zero
theorem tc_bd (w h : Int) : 0 ≤ tileCount w h ∧ tileCount w h ≤ 9 := by
  unfold tileCount
  cases hw : tin w 1 12 <;> cases hh : tin h 1 12 <;> simp
  rcases four hw with e | e | e <;> rcases four hh with f | f | f <;> rw [e, f] <;> decide
@[simp] theorem tc_wrap (w h : Int) : IntKind.i64.wrap (tileCount w h - 1) = tileCount w h - 1 := by
  have := tc_bd w h
  exact wr_in (by omega)
theorem tb_facts {w h i : Int} (hi : tin i 0 (tileCount w h - 1) = true) : tin w 1 12 = true ∧ 0 ≤ i ∧ i ≤ 8 := by
  have := tc_bd w h
  rw [tin_t] at hi
  refine ⟨?_, by omega, by omega⟩
  cases hw : tin w 1 12 with
  | true => rfl
  | false =>
    have : tileCount w h = 0 := by simp [tileCount, hw]
    omega
theorem tb_x {r i : Int} (hr : r = 1 ∨ r = 2 ∨ r = 3) (h0 : 0 ≤ i) (h1 : i ≤ 8) : IntKind.i64.wrap (i.tmod r * 4) = i % r * 4 ∧ IntKind.i64.wrap (i % r * 4 + 4) = i % r * 4 + 4 ∧
    IntKind.i64.wrap (IntKind.i64.wrap (i.tdiv r) * 4) = i / r * 4 ∧ IntKind.i64.wrap (i / r * 4 + 4) = i / r * 4 + 4 := by
  rw [Int.tmod_eq_emod_of_nonneg h0, Int.tdiv_eq_ediv_of_nonneg h0]
  rcases hr with rfl | rfl | rfl
  · rw [wr_in (n := i / 1) (by omega)]; exact ⟨wr_in (by omega), wr_in (by omega), wr_in (by omega), wr_in (by omega)⟩
  · rw [wr_in (n := i / 2) (by omega)]; exact ⟨wr_in (by omega), wr_in (by omega), wr_in (by omega), wr_in (by omega)⟩
  · rw [wr_in (n := i / 3) (by omega)]; exact ⟨wr_in (by omega), wr_in (by omega), wr_in (by omega), wr_in (by omega)⟩
theorem four' {w : Int} (h : tin w 1 12 = true) : ¬ (w + 3) / 4 = 0 := by rcases four h with e | e | e <;> omega
@[simp] theorem m_impl_TileBox (w h i : Int) : impl_TileBox w h i = some (tileBox w h i) := by
  unfold impl_TileBox
  cases hi : tin i 0 (tileCount w h - 1) with
  | false => simp [tileBox, hi, TBox.zero]
  | true =>
    obtain ⟨hw, h0, h1⟩ := tb_facts hi
    obtain ⟨e1, e2, e3, e4⟩ := tb_x (four hw) h0 h1
    simp [tileBox, hi, m_along hw, chkP_pos (four' hw), e1, e2, e3, e4]

/-! ## Draws -/
/-- A loop over a row that is left at the first element with a property. -/
theorem loopI_any {α ρ : Type} {f : Int → Option (Int ⊕ ρ)} (l : List α) (p : α → Bool) (r1 r0 : ρ) (hs : ∀ (i : Nat) x, l[i]? = some x → f i = some (if p x = true then .inr r1 else .inl ((i + 1 : Nat) : Int)))
    (he : f (l.length : Nat) = some (.inr r0)) : loopI f ((0 : Nat) : Int) = some (if l.any p = true then r1 else r0) := by
  have key : ∀ d i, i + d = l.length → loopI f (i : Nat) = some (if (l.drop i).any p = true then r1 else r0) := by
    intro d
    induction d with
    | zero =>
      intro i hi
      have : i = l.length := by omega
      subst this
      rw [loopI_end he]; simp
    | succ d ih =>
      intro i hi
      have hlt : i < l.length := by omega
      have h1 := hs i l[i] (List.getElem?_eq_getElem hlt)
      rw [List.drop_eq_getElem_cons hlt, List.any_cons]
      cases hp : p l[i] with
      | true => rw [hp, if_pos rfl] at h1; rw [loopI_end h1]; simp
      | false =>
        rw [hp, if_neg (by simp)] at h1
        rw [loopI_go h1, ih (i + 1) (by omega)]; simp
  simpa using key l.length 0 (by omega)

def meets (b : TBox) (list : List TBox) : Bool := list.any fun x => !(meet b x).empty
theorem m_impl_meetsAny {b : TBox} {list : List TBox} (h : list.length ≤ 9223372036854775806) : impl_meetsAny b list = some (meets b list) := by
  unfold impl_meetsAny
  have := loopI_any (f := impl_meetsAny_l0 b list) list (fun x => !(meet b x).empty) (.inr ()) (.inl ())
    (fun i x hx => by
      have hi : i < list.length := (List.getElem?_eq_some_iff.1 hx).1
      have e1 : ile (list.length : Int) (i : Int) = false := by rw [ile_f]; omega
      simp only [impl_meetsAny_l0, e1, cnd_false, idx_some hx, bnd_some, m_impl_MeetBox, m_impl_Empty]
      rw [wr_in (n := (i : Int) + 1) (by omega)]
      cases (meet b x).empty <;> simp)
    (by simp [impl_meetsAny_l0])
  have e : loopI (impl_meetsAny_l0 b list) 0 = some (if meets b list = true then .inr () else .inl ()) := this
  rw [e]
  cases meets b list <;> rfl
def tilesOf (w h : Int) (list : List TBox) : List Int := ((List.range (tileCount w h).toNat).filter fun i : Nat => meets (tileBox w h (i : Int)) list).map fun i : Nat => (i : Int)
theorem filter_succ {n : Nat} {p : Nat → Bool} : (List.range (n + 1)).filter p = (List.range n).filter p ++ (if p n = true then [n] else []) := by
  rw [List.range_succ, List.filter_append]
  cases h : p n <;> simp [h]
theorem m_impl_TilesOf {w h : Int} {list : List TBox} (hl : list.length ≤ 9223372036854775806) : impl_TilesOf w h list = some (tilesOf w h list) := by
  unfold impl_TilesOf
  simp only [m_impl_TileCount, bnd_some]
  have hb := tc_bd w h
  obtain ⟨s, h1, h2⟩ := loopI_inv (f := impl_TilesOf_l0 w h list (tileCount w h)) (fun i (s : List Int) => (s, (i : Int))) (tileCount w h).toNat
    (fun i s => s = ((List.range i).filter fun i : Nat => meets (tileBox w h (i : Int)) list).map fun i : Nat => (i : Int)) (fun s => s) (s0 := []) rfl
    (fun i s hi hI => by
      have e1 : ile (tileCount w h) (i : Int) = false := by rw [ile_f]; omega
      have e2 : (s.length + 1) * 8 ≤ 17592186044416 := by
        have : s.length ≤ i := by rw [hI]; simp; exact Nat.le_trans (List.length_filter_le _ _) (by simp)
        omega
      refine ⟨if meets (tileBox w h (i : Int)) list = true then s ++ [(i : Int)] else s, ?_, ?_⟩
      · simp only [impl_TilesOf_l0, e1, cnd_false, m_impl_TileBox, bnd_some, m_impl_meetsAny hl, chkP_pos e2, nam]
        rw [wr_in (n := (i : Int) + 1) (by omega)]
        cases meets (tileBox w h (i : Int)) list <;> simp
      · rw [filter_succ, hI]
        cases meets (tileBox w h (i : Int)) list <;> simp)
    (fun s hI => by
      have e1 : ile (tileCount w h) (((tileCount w h).toNat : Nat) : Int) = true := by rw [ile_t]; omega
      simp only [impl_TilesOf_l0, e1, cnd_true])
  have e : loopI (impl_TilesOf_l0 w h list (tileCount w h)) ([], 0) = some s := h1
  rw [e]
  simp only [bnd_some]
  rw [h2]; rfl
/-! ## Each square is in one tile -/
section
variable {a0 : List Int} {v3 v4 w h : Int}
end

/-! ## Loops that ask the same of all -/
/-! ## Masks -/
def TBox.isZero (b : TBox) : Bool := decide (b.x0 = 0) && (decide (b.y0 = 0) && (decide (b.x1 = 0) && (decide (b.y1 = 0))))
/-! ## The first of a row that is asked for -/
/-! ## Caches -/
/-! ## Surfaces -/
/-! ## Loops from a number to another one -/
theorem m_spec_TileBox (w h i : Int) : spec_TileBox w h i = some (tileBox w h i) := by
  unfold spec_TileBox
  rw [m_spec_TileCount, bnd_some, tc_wrap, m_spec_l01In, bnd_some]
  cases hi : tin i 0 (tileCount w h - 1) with
  | false => simp [tileBox, hi, TBox.zero]
  | true =>
    obtain ⟨hw, h0, h1⟩ := tb_facts hi
    obtain ⟨e1, e2, e3, e4⟩ := tb_x (four hw) h0 h1
    rw [cnd_true, up4 hw, chkP_pos (four' hw), e1, e2, e3, e4]
    simp [tileBox, hi]

/-! ## Sparing -/
/-! ## Marks -/
def marked {α : Type} (mk : Int → α) (c k : Int) (n : Nat) : List α := (List.range n).map fun i : Nat => mk (k + c * (i : Int))
theorem marked_len {α : Type} {mk : Int → α} {c k : Int} {n : Nat} : (marked mk c k n).length = n := by simp [marked]
theorem cmul {c : Int} {i n : Nat} (hc : 0 ≤ c ∧ c ≤ 64) (hi : i ≤ n) (hn : n ≤ 1048576) : 0 ≤ c * (i : Int) ∧ c * (i : Int) ≤ 67108864 := by
  refine ⟨Int.mul_nonneg hc.1 (by omega), ?_⟩
  calc c * (i : Int) ≤ 64 * (i : Int) := Int.mul_le_mul_of_nonneg_right hc.2 (by omega)
    _ ≤ 67108864 := by omega
theorem csucc {c : Int} {i : Nat} : c * ((i + 1 : Nat) : Int) = c * (i : Int) + c := by
  rw [show ((i + 1 : Nat) : Int) = (i : Int) + 1 by omega, Int.mul_add, Int.mul_one]
theorem mark_loop {α : Type} (c : Int) (mk : Int → α) {f : Int × Int × List α → Option ((Int × Int × List α) ⊕ (List α × Int))} {a : List α} {k0 : Int} (hc : 0 ≤ c ∧ c ≤ 64) (h0 : 0 ≤ k0 ∧ k0 ≤ 1099511627776) (ha : a.length ≤ 1048576)
    (he : ∀ (k : Int) (l : List α), f (k, (l.length : Int), l) = some (.inr (l, k)))
    (hf : ∀ (k : Int) (i : Nat) (l : List α), i < l.length → l.length ≤ 1048576 → 0 ≤ k → k ≤ 4398046511104 → f (k, (i : Int), l) = some (.inl (k + c, ((i + 1 : Nat) : Int), l.set i (mk k)))) :
    loopI f (k0, 0, a) = some (marked mk c k0 a.length, k0 + c * (a.length : Int)) := by
  have key := loopI_n (f := f) (fun i => (k0 + c * (i : Int), (i : Int), marked mk c k0 i ++ a.drop i)) a.length (r := (marked mk c k0 a.length, k0 + c * (a.length : Int))) (fun i hi => ?_) ?_
  · have e : (k0 + c * ((0 : Nat) : Int), ((0 : Nat) : Int), marked mk c k0 0 ++ a.drop 0) = (k0, 0, a) := by simp [marked]
    rwa [e] at key
  · obtain ⟨b1, b2⟩ := cmul (n := a.length) hc (Nat.le_of_lt hi) ha
    have hl : (marked mk c k0 i ++ a.drop i).length = a.length := by simp [marked_len]; omega
    rw [hf _ i _ (by omega) (by omega) (by omega) (by omega)]
    have e1 : k0 + c * (i : Int) + c = k0 + c * ((i + 1 : Nat) : Int) := by rw [csucc]; omega
    have e2 : (marked mk c k0 i ++ a.drop i).set i (mk (k0 + c * (i : Int))) = marked mk c k0 (i + 1) ++ a.drop (i + 1) := by
      have h1 : a.drop i = a[i] :: a.drop (i + 1) := List.drop_eq_getElem_cons hi
      rw [List.set_append_right _ _ (by rw [marked_len]; omega), marked_len, Nat.sub_self, h1, List.set_cons_zero]
      unfold marked
      rw [List.range_succ, List.map_append, List.append_assoc]
      rfl
    rw [e1, e2]
  · have e : marked mk c k0 a.length ++ a.drop a.length = marked mk c k0 a.length := by simp
    try dsimp only
    rw [e]
    have := he (k0 + c * (a.length : Int)) (marked mk c k0 a.length)
    rwa [marked_len] at this
theorem held_loop {α : Type} (c : Int) (mk : Int → α) {f : Int × Int → Option ((Int × Int) ⊕ (Int ⊕ Unit))} {n : Nat} {k0 : Int} (hc : 0 ≤ c ∧ c ≤ 64) (h0 : 0 ≤ k0 ∧ k0 ≤ 1099511627776) (hn : n ≤ 1048576)
    (he : ∀ k : Int, f (k, (n : Int)) = some (.inr (.inl k)))
    (hf : ∀ (k : Int) (i : Nat) (x : α), (marked mk c k0 n)[i]? = some x → i < n → x = mk k → 0 ≤ k → k ≤ 4398046511104 → f (k, (i : Int)) = some (.inl (k + c, ((i + 1 : Nat) : Int)))) :
    loopI f (k0, 0) = some (.inl (k0 + c * (n : Int))) := by
  have key := loopI_n (f := f) (fun i => (k0 + c * (i : Int), (i : Int))) n (r := .inl (k0 + c * (n : Int))) (fun i hi => ?_) (he _)
  · have e : (k0 + c * ((0 : Nat) : Int), ((0 : Nat) : Int)) = (k0, (0 : Int)) := by simp
    rwa [e] at key
  · obtain ⟨b1, b2⟩ := cmul (n := n) hc (Nat.le_of_lt hi) hn
    rw [hf (k0 + c * (i : Int)) i (mk (k0 + c * (i : Int))) (by unfold marked; rw [List.getElem?_map, List.getElem?_range hi]; rfl) hi rfl (by omega) (by omega)]
    rw [csucc, Int.add_assoc]
theorem idx_set {α : Type} {l : List α} {i : Nat} {x : α} (h : i < l.length) : idx (l.set i x) (i : Int) = some x := by
  refine idx_some ?_
  rw [List.getElem?_set_self h]
theorem m_markIntS {k : Int} {l : List Int} (hk : 0 ≤ k ∧ k ≤ 1099511627776) (hl : l.length ≤ 1048576) : laws_markIntS k l = some (k + 1 * (l.length : Int), marked (fun k => k) 1 k l.length) := by
  unfold laws_markIntS
  rw [mark_loop (f := laws_markIntS_l0) 1 (fun k => k) (by omega) hk hl (fun k l => by rw [laws_markIntS_l0, ilt (by omega), cnd_true]) (fun k i l hi hl h0 h1 => by
    rw [laws_markIntS_l0, ilf (by omega), cnd_false, idx_nat hi, bnd_some, nam_eq, Int.toNat_natCast, wr_in (n := k + 1) (by omega), wr_in (by omega)]; rfl)]
  rfl
theorem m_heldIntS {k : Int} {n : Nat} (hk : 0 ≤ k ∧ k ≤ 1099511627776) (hl : n ≤ 1048576) : laws_heldIntS (marked (fun k => k) 1 k n) k = some (k + 1 * (n : Int)) := by
  unfold laws_heldIntS
  rw [held_loop (f := laws_heldIntS_l0 (marked (fun k => k) 1 k n)) 1 (fun k => k) (n := n) (by omega) hk hl (fun k => by rw [laws_heldIntS_l0, marked_len, ilt (by omega), cnd_true]) (fun k i x hx hi he h0 h1 => by
    rw [laws_heldIntS_l0, marked_len, ilf (by omega), cnd_false, idx_some hx, bnd_some, he, iqt, cnd_true, wr_in (n := k + 1) (by omega), wr_in (by omega)]; rfl)]
  rfl
theorem m_markBoxS {k : Int} {l : List TBox} (hk : 0 ≤ k ∧ k ≤ 1099511627776) (hl : l.length ≤ 1048576) : laws_markBoxS k l = some (k + 4 * (l.length : Int), marked (fun k => ⟨k, k + 1, k + 1 + 1, k + 1 + 1 + 1⟩) 4 k l.length) := by
  unfold laws_markBoxS
  rw [mark_loop (f := laws_markBoxS_l0) 4 (fun k => (⟨k, k + 1, k + 1 + 1, k + 1 + 1 + 1⟩ : TBox)) (by omega) hk hl (fun k l => by rw [laws_markBoxS_l0, ilt (by omega), cnd_true]) (fun k i l hi hl h0 h1 => by
    rw [laws_markBoxS_l0, ilf (by omega), cnd_false, idx_nat hi, bnd_some, wr_in (n := k + 1) (by omega), wr_in (n := k + 1 + 1) (by omega), wr_in (n := k + 1 + 1 + 1) (by omega), wr_in (n := k + 1 + 1 + 1 + 1) (by omega), wr_in (n := (i : Int) + 1) (by omega)]
    simp only [nam_eq, Int.toNat_natCast]
    rw [idx_set hi, bnd_some, List.set_set, idx_set hi, bnd_some, List.set_set, idx_set hi, bnd_some, List.set_set]
    congr 2
    · congr 1; omega)]
  rfl
/-! ## TilesOf -/
theorem m_tiles_l0 {a0 a1 : Int} {list : List TBox} {box : TBox} {x : Int} {acc : List Int} (hd : list.length ≤ 1048576) : loopI (spec_TilesOf_l0 a0 a1 list box x acc) (false, 0) = some (meets box list) := by
  have key := loopI_n (f := spec_TilesOf_l0 a0 a1 list box x acc) (fun i => ((list.take i).any fun y => !(meet box y).empty, (i : Int))) list.length (r := meets box list) (fun i hi => ?_) ?_
  · simpa using key
  · rw [spec_TilesOf_l0, ilf (by omega), cnd_false]
    have e : (list.take (i + 1)).any (fun y => !(meet box y).empty) = ((list.take i).any (fun y => !(meet box y).empty) || !(meet box list[i]).empty) := by
      rw [List.take_add_one, List.getElem?_eq_getElem hi, List.any_append]; simp only [Option.toList, List.any_cons, List.any_nil, Bool.or_false]
    rw [e, idx_nat hi, bnd_some, m_spec_MeetBox, bnd_some, m_spec_Empty, bnd_some, wr_in (by omega)]
    cases (list.take i).any (fun y => !(meet box y).empty) <;> simp
  · rw [spec_TilesOf_l0, ilt (by omega), cnd_true]; simp [meets]
theorem m_spec_TilesOf {w h : Int} {list : List TBox} (hl : list.length ≤ 1048576) : spec_TilesOf w h list = some (tilesOf w h list) := by
  have hb := tc_bd w h
  unfold spec_TilesOf
  have key := loopI_n (f := spec_TilesOf_l1 w h list) (fun i => ((i : Int), ((List.range i).filter fun i : Nat => meets (tileBox w h (i : Int)) list).map fun i : Nat => (i : Int))) (tileCount w h).toNat (r := tilesOf w h list) (fun i hi => ?_) ?_
  · have e : loopI (spec_TilesOf_l1 w h list) (0, []) = some (tilesOf w h list) := key
    rw [e]; rfl
  · rw [spec_TilesOf_l1, m_spec_TileCount, bnd_some, ilf (by omega), cnd_false, m_spec_TileBox, bnd_some, m_tiles_l0 hl, bnd_some, wr_in (by omega)]
    have hlen : ((List.range i).filter fun i : Nat => meets (tileBox w h (i : Int)) list).length ≤ i := by
      have := List.length_filter_le (fun i : Nat => meets (tileBox w h (i : Int)) list) (List.range i)
      simpa using this
    rw [filter_succ, List.map_append]
    cases meets (tileBox w h (i : Int)) list
    · simp
    · rw [cnd_true, chkP_pos (by rw [List.length_map]; omega), nam_eq]; simp
  · rw [spec_TilesOf_l1, m_spec_TileCount, bnd_some, ilt (by omega), cnd_true]; rfl
theorem tilesOf_len (w h : Int) (list : List TBox) : (tilesOf w h list).length ≤ 9 := by
  have hb := tc_bd w h
  unfold tilesOf
  rw [List.length_map]
  have := List.length_filter_le (fun i : Nat => meets (tileBox w h (i : Int)) list) (List.range (tileCount w h).toNat)
  simp only [List.length_range] at this
  omega
theorem m_FnExactTilesOf {w h : Int} {l : List TBox} (_ : okN .i64 w) (_ : okN .i64 h) (hl : okL ok_Box l) : laws_FnExactTilesOf w h l = some true := by
  obtain ⟨v, e, _, _, g⟩ := f_laws_szBoxS hl (left := 1048576) (by omega) (by omega)
  unfold laws_FnExactTilesOf
  rw [e, bnd_some]
  by_cases hv : 0 ≤ v
  case neg => rw [ilf (by omega), cnd_false]
  have hg := g hv
  have h1 := hg.1
  have h9 := tilesOf_len w h l
  rw [ilt hv, cnd_true, f_laws_toBoxS hg, bnd_some, m_spec_TilesOf h1, bnd_some, m_impl_TilesOf (by omega), bnd_some, f_laws_eqIntS ⟨by omega, fun _ _ => trivial⟩, bnd_some, cnd_true, f_laws_eqBoxS hg, bnd_some, cnd_true,
    m_markBoxS (by omega) h1, bnd_some]
  try dsimp only
  rw [ilt (by omega), cnd_true, m_markIntS (by omega) (by omega), bnd_some]
  try dsimp only
  rw [m_heldIntS (by omega) (by omega), bnd_some, ilt (by omega), cnd_true, iqt, cnd_true]

/-! ## Painting a part of a surface -/
section
variable {α : Type}
end

/-! ## Colours: the program's words are the reference's -/
/-! ## LayOver -/
end Go.Proofs.Ytoafihhhdnmliaa.Am
