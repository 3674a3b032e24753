import Derived.Test.YtapchldnmkfkoaaAmFoMo
import Derived.Test.YtapchldnmkfkoaaAmRo
import Derived.Test.YtapchldnmkfkoaaAmLw
set_option linter.unusedVariables false
set_option linter.unusedSimpArgs false
set_option linter.unusedSectionVars false
namespace Go.Proofs.Ytapchldnmkfkoaa.Am
open Go Go.Proofs
def ok_Box (x : TBox) : Prop := (okN .i64) x.x0 ∧ (okN .i64) x.y0 ∧ (okN .i64) x.x1 ∧ (okN .i64) x.y1
theorem dm_Box : Dm (.struct [.int .i64, .int .i64, .int .i64, .int .i64]) eBox ok_Box := ⟨fun cs h => by
  rw [Dom] at h; simp only [DomL] at h
  obtain ⟨_, _, rfl, h0, _, _, rfl, h1, _, _, rfl, h2, _, _, rfl, h3, rfl⟩ := h
  obtain ⟨x0, rfl, k0⟩ := dm_int.c h0
  obtain ⟨x1, rfl, k1⟩ := dm_int.c h1
  obtain ⟨x2, rfl, k2⟩ := dm_int.c h2
  obtain ⟨x3, rfl, k3⟩ := dm_int.c h3
  exact ⟨⟨x0, x1, x2, x3⟩, by simp [elA, Ty.isS], k0, k1, k2, k3⟩⟩
def ok_Mask (x : TMask) : Prop := ok_Box x.box ∧ (okL (okN .i64)) x.bits
theorem dm_Mask : Dm (.struct [.struct [.int .i64, .int .i64, .int .i64, .int .i64], .slice (.int .i64)]) eMask ok_Mask := ⟨fun cs h => by
  rw [Dom] at h; simp only [DomL] at h
  obtain ⟨_, _, rfl, h0, _, _, rfl, h1, rfl⟩ := h
  obtain ⟨x0, rfl, k0⟩ := dm_Box.c h0
  obtain ⟨x1, rfl, k1⟩ := (dm_sl dm_int).c h1
  exact ⟨⟨x0, x1⟩, by simp [elA, Ty.isS], k0, k1⟩⟩
def ok_Kept (x : TKept) : Prop := (okN .i64) x.id ∧ ok_Mask x.mask
theorem dm_Kept : Dm (.struct [.int .i64, .struct [.struct [.int .i64, .int .i64, .int .i64, .int .i64], .slice (.int .i64)]]) eKept ok_Kept := ⟨fun cs h => by
  rw [Dom] at h; simp only [DomL] at h
  obtain ⟨_, _, rfl, h0, _, _, rfl, h1, rfl⟩ := h
  obtain ⟨x0, rfl, k0⟩ := dm_int.c h0
  obtain ⟨x1, rfl, k1⟩ := dm_Mask.c h1
  exact ⟨⟨x0, x1⟩, by simp [elA, Ty.isS], k0, k1⟩⟩
def ok_Cache (x : TCache) : Prop := (okN .i64) x.most ∧ (okL ok_Kept) x.list
theorem dm_Cache : Dm (.struct [.int .i64, .slice (.struct [.int .i64, .struct [.struct [.int .i64, .int .i64, .int .i64, .int .i64], .slice (.int .i64)]])]) eCache ok_Cache := ⟨fun cs h => by
  rw [Dom] at h; simp only [DomL] at h
  obtain ⟨_, _, rfl, h0, _, _, rfl, h1, rfl⟩ := h
  obtain ⟨x0, rfl, k0⟩ := dm_int.c h0
  obtain ⟨x1, rfl, k1⟩ := (dm_sl dm_Kept).c h1
  exact ⟨⟨x0, x1⟩, by simp [elA, Ty.isS], k0, k1⟩⟩
end Go.Proofs.Ytapchldnmkfkoaa.Am
namespace Go.Proofs.Ytapchldnmkfkoaa.Am
open Go Go.Proofs
set_option linter.unusedVariables false
set_option linter.unusedSimpArgs false
theorem f_laws_szIntS {a : List Int} {left : Int} (ho : okL (okN .i64) a) (h0 : 0 ≤ left) (h1 : left ≤ 1048576) : ∃ v, laws_szIntS a left = some v ∧ szR v left (gdL tt a) := by
  unfold laws_szIntS; exact sz_row (maxL ho.1) h0 h1
def gd_Mask (x : TMask) : Prop := (gdL tt) x.bits
theorem f_laws_szMask {a : TMask} {left : Int} (ho : ok_Mask a) (h0 : 0 ≤ left) (h1 : left ≤ 1048576) : ∃ v, laws_szMask a left = some v ∧ szR v left (gd_Mask a) := by
  obtain ⟨o0, o1⟩ := ho
  unfold laws_szMask
  obtain ⟨v1, e1, l1, m1, g1⟩ := f_laws_szIntS o1 h0 (by omega)
  rw [e1, bnd_some]
  by_cases c1 : 0 ≤ v1
  case neg => rw [ilf (by omega), cnd_false]; exact ⟨-1, rfl, by omega, by omega, fun h => by omega⟩
  rw [ilt c1, cnd_true]
  exact ⟨v1, rfl, by omega, by omega, fun _ => g1 c1⟩
def gd_Kept (x : TKept) : Prop := gd_Mask x.mask
theorem f_laws_szKept {a : TKept} {left : Int} (ho : ok_Kept a) (h0 : 0 ≤ left) (h1 : left ≤ 1048576) : ∃ v, laws_szKept a left = some v ∧ szR v left (gd_Kept a) := by
  obtain ⟨o0, o1⟩ := ho
  unfold laws_szKept
  obtain ⟨v1, e1, l1, m1, g1⟩ := f_laws_szMask o1 h0 (by omega)
  rw [e1, bnd_some]
  by_cases c1 : 0 ≤ v1
  case neg => rw [ilf (by omega), cnd_false]; exact ⟨-1, rfl, by omega, by omega, fun h => by omega⟩
  rw [ilt c1, cnd_true]
  exact ⟨v1, rfl, by omega, by omega, fun _ => g1 c1⟩
theorem f_laws_szKeptS {a : List TKept} {left : Int} (ho : okL ok_Kept a) (h0 : 0 ≤ left) (h1 : left ≤ 1048576) : ∃ v, laws_szKeptS a left = some v ∧ szR v left ((gdL gd_Kept) a) := by
  unfold laws_szKeptS
  have hl := maxL ho.1
  rw [wr_in (by omega)]
  by_cases h : 0 ≤ left - (a.length : Int)
  · rw [ilt h, cnd_true]
    obtain ⟨v, ⟨v1, v2, v3⟩, e⟩ := sz_loop (szE := laws_szKept) (g := gd_Kept) (f := laws_szKeptS_l0 a) (left := left - (a.length : Int)) (fun x hx left => f_laws_szKept (ho.2 x hx)) (fun _ _ => rfl) h (by omega) (by omega)
    refine ⟨v, ?_, by omega, v2, v3⟩
    rcases e with ⟨e, _⟩ | ⟨e, rfl⟩ <;> rw [e] <;> rfl
  · rw [ilf (by omega), cnd_false]
    exact ⟨_, rfl, by omega, by omega, fun h => by omega⟩
def gd_Cache (x : TCache) : Prop := (gdL gd_Kept) x.list
theorem f_laws_szCache {a : TCache} {left : Int} (ho : ok_Cache a) (h0 : 0 ≤ left) (h1 : left ≤ 1048576) : ∃ v, laws_szCache a left = some v ∧ szR v left (gd_Cache a) := by
  obtain ⟨o0, o1⟩ := ho
  unfold laws_szCache
  obtain ⟨v1, e1, l1, m1, g1⟩ := f_laws_szKeptS o1 h0 (by omega)
  rw [e1, bnd_some]
  by_cases c1 : 0 ≤ v1
  case neg => rw [ilf (by omega), cnd_false]; exact ⟨-1, rfl, by omega, by omega, fun h => by omega⟩
  rw [ilt c1, cnd_true]
  exact ⟨v1, rfl, by omega, by omega, fun _ => g1 c1⟩
theorem f_laws_toBox {a : TBox} : laws_toBox a = some a := by
  unfold laws_toBox
  rfl
theorem f_laws_toIntS {a : List Int} (hg : (gdL tt) a) : laws_toIntS a = some a := by
  unfold laws_toIntS
  rw [chkP_pos (ch_row hg.1 (by omega))]
  have h := to_loop (f := laws_toIntS_l0 a) (toE := some) (0) (fun _ _ => rfl) (fun _ _ => rfl) hg.1
  simp only [nam_eq, h, bnd_some]
theorem f_laws_toMask {a : TMask} (hg : gd_Mask a) : laws_toMask a = some (a.box, a.bits) := by
  have h0 := hg
  unfold laws_toMask
  simp only [bnd_some, f_laws_toBox, f_laws_toIntS h0]
theorem f_laws_toKept {a : TKept} (hg : gd_Kept a) : laws_toKept a = some (a.id, a.mask.box, a.mask.bits) := by
  have h0 := hg
  unfold laws_toKept
  simp only [bnd_some, f_laws_toMask h0]
theorem f_laws_toKeptS {a : List TKept} (hg : (gdL gd_Kept) a) : laws_toKeptS a = some a := by
  unfold laws_toKeptS
  rw [chkP_pos (ch_row hg.1 (by omega))]
  have h := to_loop (f := laws_toKeptS_l0 a) (toE := fun v => bnd (laws_toKept v) fun (r0, r1, r2) => some (TKept.mk r0 (TMask.mk (TBox.mk r1.x0 r1.y0 r1.x1 r1.y1) r2))) ((TKept.mk 0 (TMask.mk (TBox.mk 0 0 0 0) []))) (fun x hx => by rw [f_laws_toKept (hg.2 x hx)]; rfl) (fun _ _ => congrArg (cnd _ _) (congrArg (bnd _) (funext fun v => by cases laws_toKept v <;> rfl))) hg.1
  simp only [nam_eq, h, bnd_some]
theorem f_laws_toCache {a : TCache} (hg : gd_Cache a) : laws_toCache a = some (a.most, a.list) := by
  have h0 := hg
  unfold laws_toCache
  simp only [bnd_some, f_laws_toKeptS h0]
theorem f_laws_eqBox {a : TBox} : laws_eqBox a a = some true := by
  unfold laws_eqBox
  simp only [bnd_some, cnd_true, iqt, andB, decide_true, Bool.and_self, Bool.and_true]
theorem f_laws_eqIntS {a : List Int} (hg : (gdL tt) a) : laws_eqIntS a a = some true := by
  unfold laws_eqIntS
  have h := eq_loop (f := laws_eqIntS_l0 a a) (eqE := (fun x y => some (ieq x y))) (fun _ _ => by simp [ieq, sq']) (fun _ => rfl) hg.1
  rw [iqt, cnd_true, h]; rfl
theorem f_laws_eqMask {a : TMask} (hg : gd_Mask a) : laws_eqMask a a = some true := by
  have h0 := hg
  unfold laws_eqMask
  simp only [bnd_some, cnd_true, iqt, andB, decide_true, Bool.and_self, Bool.and_true, f_laws_eqBox, f_laws_eqIntS h0]
theorem f_laws_eqKept {a : TKept} (hg : gd_Kept a) : laws_eqKept a a = some true := by
  have h0 := hg
  unfold laws_eqKept
  simp only [bnd_some, cnd_true, iqt, andB, decide_true, Bool.and_self, Bool.and_true, f_laws_eqMask h0]
theorem f_laws_eqKeptS {a : List TKept} (hg : (gdL gd_Kept) a) : laws_eqKeptS a a = some true := by
  unfold laws_eqKeptS
  have h := eq_loop (f := laws_eqKeptS_l0 a a) (eqE := laws_eqKept) (fun x hx => f_laws_eqKept (hg.2 x hx)) (fun _ => rfl) hg.1
  rw [iqt, cnd_true, h]; rfl
theorem f_laws_eqCache {a : TCache} (hg : gd_Cache a) : laws_eqCache a a = some true := by
  have h0 := hg
  unfold laws_eqCache
  simp only [bnd_some, cnd_true, iqt, andB, decide_true, Bool.and_self, Bool.and_true, f_laws_eqKeptS h0]
end Go.Proofs.Ytapchldnmkfkoaa.Am
namespace Go.Proofs.Ytapchldnmkfkoaa.Am
open Go Go.Proofs
set_option linter.unusedSimpArgs false
set_option linter.unusedVariables false
set_option maxRecDepth 100000
/-! ## Small words -/
def tin (x a b : Int) : Bool := ile a x && ile x b
theorem tin_t {x a b : Int} : tin x a b = true ↔ a ≤ x ∧ x ≤ b := by simp [tin, ile_t]
def tileCount (w h : Int) : Int := if tin w 1 12 && tin h 1 12 then ((w + 3) / 4) * ((h + 3) / 4) else 0
theorem four {w : Int} (h : tin w 1 12 = true) : (w + 3) / 4 = 1 ∨ (w + 3) / 4 = 2 ∨ (w + 3) / 4 = 3 := by rw [tin_t] at h; omega
theorem wr9 {w h : Int} (hw : tin w 1 12 = true) (hh : tin h 1 12 = true) : IntKind.i64.wrap ((w + 3) / 4 * ((h + 3) / 4)) = (w + 3) / 4 * ((h + 3) / 4) := by
  refine wr_in ?_
  rcases four hw with e | e | e <;> rcases four hh with f | f | f <;> rw [e, f] <;> decide
theorem up4 {w : Int} (h : tin w 1 12 = true) : IntKind.i64.wrap ((IntKind.i64.wrap (w + 3)).tdiv 4) = (w + 3) / 4 := by
  rw [tin_t] at h
  rw [wr_in (n := w + 3) (by omega), Int.tdiv_eq_ediv_of_nonneg (by omega), wr_in (by omega)]
def TBox.empty (b : TBox) : Bool := ile b.x1 b.x0 || ile b.y1 b.y0
def TBox.zero : TBox := ⟨0, 0, 0, 0⟩
def meet (a b : TBox) : TBox :=
  let c : TBox := ⟨max a.x0 b.x0, max a.y0 b.y0, min a.x1 b.x1, min a.y1 b.y1⟩
  if c.empty then .zero else c
def tileBox (w h i : Int) : TBox :=
  if tin i 0 (tileCount w h - 1) then
    let x := i % ((w + 3) / 4) * 4
    let y := i / ((w + 3) / 4) * 4
    meet ⟨x, y, x + 4, y + 4⟩ ⟨0, 0, w, h⟩
  else .zero
theorem tc_bd (w h : Int) : 0 ≤ tileCount w h ∧ tileCount w h ≤ 9 := by
  unfold tileCount
  cases hw : tin w 1 12 <;> cases hh : tin h 1 12 <;> simp
  rcases four hw with e | e | e <;> rcases four hh with f | f | f <;> rw [e, f] <;> decide
@[simp] theorem tc_wrap (w h : Int) : IntKind.i64.wrap (tileCount w h - 1) = tileCount w h - 1 := by
  have := tc_bd w h
  exact wr_in (by omega)
theorem tb_facts {w h i : Int} (hi : tin i 0 (tileCount w h - 1) = true) : tin w 1 12 = true ∧ 0 ≤ i ∧ i ≤ 8 := by
  have := tc_bd w h
  rw [tin_t] at hi
  refine ⟨?_, by omega, by omega⟩
  cases hw : tin w 1 12 with
  | true => rfl
  | false =>
    have : tileCount w h = 0 := by simp [tileCount, hw]
    omega
theorem tb_x {r i : Int} (hr : r = 1 ∨ r = 2 ∨ r = 3) (h0 : 0 ≤ i) (h1 : i ≤ 8) : IntKind.i64.wrap (i.tmod r * 4) = i % r * 4 ∧ IntKind.i64.wrap (i % r * 4 + 4) = i % r * 4 + 4 ∧
    IntKind.i64.wrap (IntKind.i64.wrap (i.tdiv r) * 4) = i / r * 4 ∧ IntKind.i64.wrap (i / r * 4 + 4) = i / r * 4 + 4 := by
  rw [Int.tmod_eq_emod_of_nonneg h0, Int.tdiv_eq_ediv_of_nonneg h0]
  rcases hr with rfl | rfl | rfl
  · rw [wr_in (n := i / 1) (by omega)]; exact ⟨wr_in (by omega), wr_in (by omega), wr_in (by omega), wr_in (by omega)⟩
  · rw [wr_in (n := i / 2) (by omega)]; exact ⟨wr_in (by omega), wr_in (by omega), wr_in (by omega), wr_in (by omega)⟩
  · rw [wr_in (n := i / 3) (by omega)]; exact ⟨wr_in (by omega), wr_in (by omega), wr_in (by omega), wr_in (by omega)⟩
theorem four' {w : Int} (h : tin w 1 12 = true) : ¬ (w + 3) / 4 = 0 := by rcases four h with e | e | e <;> omega
/-! ## Draws -/
/-! ## Each square is in one tile -/
section
variable {a0 : List Int} {v3 v4 w h : Int}
end

/-! ## Loops that ask the same of all -/
/-! ## Masks -/
def TBox.isZero (b : TBox) : Bool := decide (b.x0 = 0) && (decide (b.y0 = 0) && (decide (b.x1 = 0) && (decide (b.y1 = 0))))
/-! ## The first of a row that is asked for -/
/-! ## Caches -/
/-! ## Surfaces -/
/-! ## Loops from a number to another one -/
/-! ## Sparing -/
/-! ## Marks -/
def marked {α : Type} (mk : Int → α) (c k : Int) (n : Nat) : List α := (List.range n).map fun i : Nat => mk (k + c * (i : Int))
theorem marked_len {α : Type} {mk : Int → α} {c k : Int} {n : Nat} : (marked mk c k n).length = n := by simp [marked]
theorem cmul {c : Int} {i n : Nat} (hc : 0 ≤ c ∧ c ≤ 64) (hi : i ≤ n) (hn : n ≤ 1048576) : 0 ≤ c * (i : Int) ∧ c * (i : Int) ≤ 67108864 := by
  refine ⟨Int.mul_nonneg hc.1 (by omega), ?_⟩
  calc c * (i : Int) ≤ 64 * (i : Int) := Int.mul_le_mul_of_nonneg_right hc.2 (by omega)
    _ ≤ 67108864 := by omega
theorem csucc {c : Int} {i : Nat} : c * ((i + 1 : Nat) : Int) = c * (i : Int) + c := by
  rw [show ((i + 1 : Nat) : Int) = (i : Int) + 1 by omega, Int.mul_add, Int.mul_one]
theorem mark_loop {α : Type} (c : Int) (mk : Int → α) {f : Int × Int × List α → Option ((Int × Int × List α) ⊕ (List α × Int))} {a : List α} {k0 : Int} (hc : 0 ≤ c ∧ c ≤ 64) (h0 : 0 ≤ k0 ∧ k0 ≤ 1125899906842624) (ha : a.length ≤ 1048576)
    (he : ∀ (k : Int) (l : List α), f (k, (l.length : Int), l) = some (.inr (l, k)))
    (hf : ∀ (k : Int) (i : Nat) (l : List α), i < l.length → l.length ≤ 1048576 → 0 ≤ k → k ≤ 4503599627370496 → f (k, (i : Int), l) = some (.inl (k + c, ((i + 1 : Nat) : Int), l.set i (mk k)))) :
    loopI f (k0, 0, a) = some (marked mk c k0 a.length, k0 + c * (a.length : Int)) := by
  have key := loopI_n (f := f) (fun i => (k0 + c * (i : Int), (i : Int), marked mk c k0 i ++ a.drop i)) a.length (r := (marked mk c k0 a.length, k0 + c * (a.length : Int))) (fun i hi => ?_) ?_
  · have e : (k0 + c * ((0 : Nat) : Int), ((0 : Nat) : Int), marked mk c k0 0 ++ a.drop 0) = (k0, 0, a) := by simp [marked]
    rwa [e] at key
  · obtain ⟨b1, b2⟩ := cmul (n := a.length) hc (Nat.le_of_lt hi) ha
    have hl : (marked mk c k0 i ++ a.drop i).length = a.length := by simp [marked_len]; omega
    rw [hf _ i _ (by omega) (by omega) (by omega) (by omega)]
    have e1 : k0 + c * (i : Int) + c = k0 + c * ((i + 1 : Nat) : Int) := by rw [csucc]; omega
    have e2 : (marked mk c k0 i ++ a.drop i).set i (mk (k0 + c * (i : Int))) = marked mk c k0 (i + 1) ++ a.drop (i + 1) := by
      have h1 : a.drop i = a[i] :: a.drop (i + 1) := List.drop_eq_getElem_cons hi
      rw [List.set_append_right _ _ (by rw [marked_len]; omega), marked_len, Nat.sub_self, h1, List.set_cons_zero]
      unfold marked
      rw [List.range_succ, List.map_append, List.append_assoc]
      rfl
    rw [e1, e2]
  · have e : marked mk c k0 a.length ++ a.drop a.length = marked mk c k0 a.length := by simp
    try dsimp only
    rw [e]
    have := he (k0 + c * (a.length : Int)) (marked mk c k0 a.length)
    rwa [marked_len] at this
theorem held_loop {α : Type} (c : Int) (mk : Int → α) {f : Int × Int → Option ((Int × Int) ⊕ (Int ⊕ Unit))} {n : Nat} {k0 : Int} (hc : 0 ≤ c ∧ c ≤ 64) (h0 : 0 ≤ k0 ∧ k0 ≤ 1125899906842624) (hn : n ≤ 1048576)
    (he : ∀ k : Int, f (k, (n : Int)) = some (.inr (.inl k)))
    (hf : ∀ (k : Int) (i : Nat) (x : α), (marked mk c k0 n)[i]? = some x → i < n → x = mk k → 0 ≤ k → k ≤ 4503599627370496 → f (k, (i : Int)) = some (.inl (k + c, ((i + 1 : Nat) : Int)))) :
    loopI f (k0, 0) = some (.inl (k0 + c * (n : Int))) := by
  have key := loopI_n (f := f) (fun i => (k0 + c * (i : Int), (i : Int))) n (r := .inl (k0 + c * (n : Int))) (fun i hi => ?_) (he _)
  · have e : (k0 + c * ((0 : Nat) : Int), ((0 : Nat) : Int)) = (k0, (0 : Int)) := by simp
    rwa [e] at key
  · obtain ⟨b1, b2⟩ := cmul (n := n) hc (Nat.le_of_lt hi) hn
    rw [hf (k0 + c * (i : Int)) i (mk (k0 + c * (i : Int))) (by unfold marked; rw [List.getElem?_map, List.getElem?_range hi]; rfl) hi rfl (by omega) (by omega)]
    rw [csucc, Int.add_assoc]
theorem m_markIntS {k : Int} {l : List Int} (hk : 0 ≤ k ∧ k ≤ 1125899906842624) (hl : l.length ≤ 1048576) : laws_markIntS k l = some (k + 1 * (l.length : Int), marked (fun k => k) 1 k l.length) := by
  unfold laws_markIntS
  rw [mark_loop (f := laws_markIntS_l0) 1 (fun k => k) (by omega) hk hl (fun k l => by rw [laws_markIntS_l0, ilt (by omega), cnd_true]) (fun k i l hi hl h0 h1 => by
    rw [laws_markIntS_l0, ilf (by omega), cnd_false, idx_nat hi, bnd_some, nam_eq, Int.toNat_natCast, wr_in (n := k + 1) (by omega), wr_in (by omega)]; rfl)]
  rfl
theorem m_heldIntS {k : Int} {n : Nat} (hk : 0 ≤ k ∧ k ≤ 1125899906842624) (hl : n ≤ 1048576) : laws_heldIntS (marked (fun k => k) 1 k n) k = some (k + 1 * (n : Int)) := by
  unfold laws_heldIntS
  rw [held_loop (f := laws_heldIntS_l0 (marked (fun k => k) 1 k n)) 1 (fun k => k) (n := n) (by omega) hk hl (fun k => by rw [laws_heldIntS_l0, marked_len, ilt (by omega), cnd_true]) (fun k i x hx hi he h0 h1 => by
    rw [laws_heldIntS_l0, marked_len, ilf (by omega), cnd_false, idx_some hx, bnd_some, he, iqt, cnd_true, wr_in (n := k + 1) (by omega), wr_in (by omega)]; rfl)]
  rfl
/-! ## TilesOf -/
/-! ## Painting a part of a surface -/
section
variable {α : Type}
end

/-! ## Colours: the program's words are the reference's -/
/-! ## LayOver -/
/-! ## Paints -/
/-! ## PaintMask -/
/-! ## What blending yields -/
/-! ## Draws: each is told -/
/-! ## Lines and masks of drawn paths: each is told -/
/-! ## Masks of lines -/
/-! ## FnLayers -/
/-! ## FnPaintsOn -/
/-! ## Scenes: the program's word is the reference's -/
/-! ## EngineOk -/
/-! ## EngineNew -/
/-! ## FnSets: draws -/
/-! Copies -/
theorem copy_loop {α : Type} {l : List α} {f : Int × List α → Option ((Int × List α) ⊕ (List α))} (hs : ∀ (i : Nat) (h : i < l.length), f ((i : Int), l.take i) = some (.inl (((i + 1 : Nat) : Int), l.take i ++ [l[i]]))) (he : f ((l.length : Int), l) = some (.inr l)) : loopI f (0, []) = some l := by
  have key := loopI_n (f := f) (fun i => ((i : Int), l.take i)) l.length (r := l) (fun i hi => ?_) (by (try dsimp only); rw [List.take_length]; exact he)
  · exact key
  · try dsimp only
    rw [hs i hi, List.take_add_one, List.getElem?_eq_getElem hi]; rfl
/-! Any scenes and nodes -/
/-! ## FnSets: the law -/
/-! Sameness -/
/-! Right scenes -/
/-! ## Masks drawn are right -/
/-! ## Rows: deleted from, put into -/
/-! ## Caches: right ones, remembered, recalled, forgotten -/
/-! ## Deleting by a test; what is first -/
theorem filter_take_succ {α : Type} {p : α → Bool} {l : List α} {j : Nat} (hj : j < l.length) : (l.take (j + 1)).filter p = (l.take j).filter p ++ (if p l[j] then [l[j]] else []) := by
  rw [List.take_add_one, List.getElem?_eq_getElem hj, List.filter_append]
  congr 1
  simp only [Option.toList, List.filter_cons, List.filter_nil]
def isIn (x : Int) (l : List Int) : Bool := l.any fun y => ieq x y
/-! ## Scenes as maps of parents -/
/-! ## A node placed -/
section
end

/-! ## A node placed: the program and the reference -/
section
end

/-! ## FnPlaces: the law -/
section
end
/-! ## FnCreates: what is drawn is right -/
/-! ## FnCreates: nodes drawn -/
/-! ## FnCreates: a node more -/
/-! ## FnCreates: created and dropped -/
/-! ## FnExactShowFrame -/
/-! ## Marks of rows of things that hold rows -/
theorem mh_loop {α : Type} {f : Int × Int × List α → Option ((Int × Int × List α) ⊕ (List α × Int))} {g : List α → Int × Int → Option ((Int × Int) ⊕ (Int ⊕ Unit))} (a : List α) (C : Nat)
    (hl : a.length ≤ 1048576) (hC : C ≤ 16777216)
    (fe : ∀ k l, f (k, (l.length : Int), l) = some (.inr (l, k))) (ge : ∀ k l, g l (k, (l.length : Int)) = some (.inr (.inl k)))
    (st : ∀ x ∈ a, ∀ k : Int, 0 ≤ k → k ≤ 562949953421312 → ∃ (y : α) (k' : Int), k ≤ k' ∧ k' ≤ k + (C : Int) ∧
      (∀ (i : Nat) (l : List α), i < 1048576 → l[i]? = some x → f (k, (i : Int), l) = some (.inl (k', ((i + 1 : Nat) : Int), l.set i y))) ∧
      (∀ (i : Nat) (l : List α), i < 1048576 → l[i]? = some y → g l (k, (i : Int)) = some (.inl (k', ((i + 1 : Nat) : Int)))))
    {k0 : Int} (h0 : 0 ≤ k0) (h1 : k0 ≤ 1048576) : ∃ (L : List α) (k : Int), (k0 ≤ k ∧ k ≤ k0 + 17592186044416) ∧ L.length = a.length ∧ loopI f (k0, 0, a) = some (L, k) ∧ loopI (g L) (k0, 0) = some (.inl k) := by
  have key : ∀ n, n ≤ a.length → ∃ (D : List α) (k : Int), D.length = n ∧ k0 ≤ k ∧ k ≤ k0 + (C : Int) * (n : Int) ∧ loopI f (k0, 0, a) = loopI f (k, (n : Int), D ++ a.drop n) ∧
      ∀ L : List α, L.take n = D → loopI (g L) (k0, 0) = loopI (g L) (k, (n : Int)) := by
    intro n
    induction n with
    | zero => exact fun _ => ⟨[], k0, rfl, by omega, by omega, by simp, fun _ _ => rfl⟩
    | succ n ih =>
      intro hn
      obtain ⟨D, k, e1, e2, e3, e4, e5⟩ := ih (by omega)
      have hb : (C : Int) * (n : Int) ≤ 16777216 * 1048576 := Int.mul_le_mul (by omega) (by omega) (by omega) (by omega)
      have hs : (C : Int) * ((n + 1 : Nat) : Int) = (C : Int) * (n : Int) + (C : Int) := by rw [Int.natCast_add, Int.mul_add]; simp
      obtain ⟨y, k', y1, y2, y3, y4⟩ := st a[n] (List.getElem_mem (by omega)) k (by omega) (by omega)
      have hd : a.drop n = a[n] :: a.drop (n + 1) := List.drop_eq_getElem_cons (by omega)
      have hg : (D ++ a.drop n)[n]? = some a[n] := by rw [List.getElem?_append_right (by omega), e1, Nat.sub_self, hd]; rfl
      refine ⟨D ++ [y], k', by simp [e1], by omega, by rw [hs]; omega, ?_, fun L hL => ?_⟩
      · rw [e4, loopI_go (y3 n _ (by omega) hg), hd, List.set_append_right _ _ (by omega), e1, Nat.sub_self, List.set_cons_zero]
        simp
      · have hL1 : L.take n = D := by
          have := congrArg (List.take n) hL
          rw [List.take_take, Nat.min_eq_left (by omega), List.take_append_of_le_length (by omega), ← e1, List.take_length] at this
          rw [← e1]; exact this
        have hL2 : L[n]? = some y := by
          have := congrArg (fun l => l[n]?) hL
          simp only [List.getElem?_take] at this
          rw [if_pos (by omega), List.getElem?_append_right (by omega), e1, Nat.sub_self] at this
          exact this
        rw [e5 L hL1, loopI_go (y4 n L (by omega) hL2)]
  obtain ⟨D, k, e1, e2, e3, e4, e5⟩ := key a.length (Nat.le_refl _)
  have hb : (C : Int) * (a.length : Int) ≤ 16777216 * 1048576 := Int.mul_le_mul (by omega) (by omega) (by omega) (by omega)
  refine ⟨D, k, ⟨e2, by omega⟩, e1, ?_, ?_⟩
  · rw [e4, List.drop_length, List.append_nil, ← e1, loopI_end (fe k D)]
  · rw [e5 D (by rw [← e1, List.take_length]), ← e1, loopI_end (ge k D)]
def inM (k : Int) (n : Nat) : List Int := marked (fun k => k) 1 k n
theorem inM_m {k : Int} {l : List Int} (h0 : 0 ≤ k) (h1 : k ≤ 1125899906842624) (hl : l.length ≤ 1048576) : laws_markIntS k l = some (k + l.length, inM k l.length) := by
  rw [m_markIntS ⟨h0, h1⟩ hl, Int.one_mul]; rfl
theorem inM_h {k : Int} {n : Nat} (h0 : 0 ≤ k) (h1 : k ≤ 1125899906842624) (hl : n ≤ 1048576) : laws_heldIntS (inM k n) k = some (k + n) := by
  unfold inM; rw [m_heldIntS ⟨h0, h1⟩ hl, Int.one_mul]
/-! ## FnExactCreateNode -/
/-! ## FnExactSetNode -/
/-! ## Caches marked; FnExactForget -/
structure KB (x : TKept) : Prop where
  b : x.mask.bits.length ≤ 1048576
structure CB (l : List TKept) : Prop where
  n : l.length ≤ 1048576
  x : ∀ k ∈ l, KB k
theorem keptS_st {x : TKept} (hx : KB x) {k : Int} (h0 : 0 ≤ k) (h1 : k ≤ 562949953421312) : ∃ (y : TKept) (k' : Int), k ≤ k' ∧ k' ≤ k + ((16777216 : Nat) : Int) ∧
      (∀ (i : Nat) (l : List TKept), i < 1048576 → l[i]? = some x → laws_markKeptS_l0 (k, (i : Int), l) = some (.inl (k', ((i + 1 : Nat) : Int), l.set i y))) ∧
      (∀ (i : Nat) (l : List TKept), i < 1048576 → l[i]? = some y → laws_heldKeptS_l0 l (k, (i : Int)) = some (.inl (k', ((i + 1 : Nat) : Int)))) := by
  have v1 := hx.b
  obtain ⟨p, hp⟩ : ∃ p, p = k + 5 + (x.mask.bits.length : Int) := ⟨_, rfl⟩
  refine ⟨⟨k, ⟨⟨k + 1, k + 2, k + 3, k + 4⟩, inM (k + 5) x.mask.bits.length⟩⟩, p, by omega, by omega, fun i l hi hl => ?_, fun i l hi hl => ?_⟩
  · have hb := (List.getElem?_eq_some_iff.1 hl).1
    rw [laws_markKeptS_l0, ilf (by omega), cnd_false, idx_some hl, bnd_some]
    simp (disch := omega) only [wr_in, Int.add_assoc, Int.reduceAdd]
    rw [inM_m (by omega) (by omega) v1, bnd_some]
    dsimp only
    rw [← hp, Int.toNat_natCast]; rfl
  · have hb := (List.getElem?_eq_some_iff.1 hl).1
    rw [laws_heldKeptS_l0, ilf (by omega), cnd_false, idx_some hl, bnd_some]
    simp (disch := omega) only [wr_in, Int.add_assoc, Int.reduceAdd, iqt, cnd_true]
    rw [inM_h (by omega) (by omega) v1, bnd_some, ← hp, ilt (by omega), cnd_true]
    rfl
theorem keptS_mh {a : List TKept} (hl : CB a) (m : Int) : ∃ (L : List TKept) (k : Int), (1 ≤ k ∧ k ≤ 562949953421312) ∧ L.length = a.length ∧ laws_markCache m 1 a = some (k, L) ∧ laws_heldCache ⟨m, L⟩ 1 = some k := by
  obtain ⟨L, k, e1, e2, e3, e4⟩ := mh_loop (f := laws_markKeptS_l0) (g := laws_heldKeptS_l0) a 16777216 hl.n (by omega) (fun k l => by rw [laws_markKeptS_l0, ilt (by omega), cnd_true]) (fun k l => by rw [laws_heldKeptS_l0, ilt (by omega), cnd_true]) (fun x h k h0 h1 => keptS_st (hl.x x h) h0 h1) (k0 := 1) (by omega) (by omega)
  refine ⟨L, k, by omega, e2, ?_, ?_⟩
  · unfold laws_markCache laws_markKeptS; rw [e3]; rfl
  · unfold laws_heldCache laws_heldKeptS; dsimp only; rw [e4, bnd_some, bnd_some, ilt (by omega), cnd_true]
theorem o_copyMask {m : TMask} (h : m.bits.length ≤ 1048576) : impl_copyMask m = some (m.box, m.bits) := by
  unfold impl_copyMask slices_Clone_int
  rw [chkP_pos (by omega), bnd_some]
theorem o_sCopyMask {m : TMask} (h : m.bits.length ≤ 1048576) : spec_l21CopyMask m = some (m.box, m.bits) := by
  unfold spec_l21CopyMask
  rw [chkP_pos (by omega), nam_eq]
  simp
theorem o_copyCache {m : Int} {l : List TKept} (h : CB l) : impl_copyCache ⟨m, l⟩ = some (m, l) := by
  have hn := h.n
  unfold impl_copyCache
  rw [copy_loop (l := l) (f := impl_copyCache_l0 ⟨m, l⟩) (fun i hi => by
    rw [impl_copyCache_l0, ilf (by dsimp only; omega), cnd_false, idx_nat hi, bnd_some, o_copyMask (h.x _ (List.getElem_mem hi)).b, bnd_some]; dsimp only
    rw [chkP_pos (by rw [List.length_take]; omega), wr_in (by omega)]; rfl) (by rw [impl_copyCache_l0, ilt (by dsimp only; omega), cnd_true])]
  rfl
theorem o_l21Copy {m : Int} {l : List TKept} (h : CB l) : spec_l21Copy ⟨m, l⟩ = some (m, l) := by
  have hn := h.n
  unfold spec_l21Copy
  rw [copy_loop (l := l) (f := spec_l21Copy_l0 ⟨m, l⟩) (fun i hi => by
    rw [spec_l21Copy_l0, ilf (by dsimp only; omega), cnd_false, idx_nat hi, bnd_some, o_sCopyMask (h.x _ (List.getElem_mem hi)).b, bnd_some]; dsimp only
    rw [chkP_pos (by rw [List.length_take]; omega), wr_in (by omega)]; rfl) (by rw [spec_l21Copy_l0, ilt (by dsimp only; omega), cnd_true])]
  rfl
theorem cb_gd {c : TCache} (h : gd_Cache c) : CB c.list := ⟨h.1, fun y hy => ⟨(h.2 y hy).1⟩⟩
theorem gd_cb {m : Int} {l : List TKept} (h : CB l) : gd_Cache ⟨m, l⟩ := ⟨h.n, fun y hy => ⟨(h.x y hy).b, fun _ _ => trivial⟩⟩
theorem CB.filter {l : List TKept} (h : CB l) (p : TKept → Bool) : CB (l.filter p) := ⟨Nat.le_trans (List.length_filter_le _ _) h.n, fun k hk => h.x k (List.mem_filter.1 hk).1⟩
theorem forget_gone {c : TCache} {ids : List Int} (hi : ids.length ≤ 1048576) {x9 : Int} {x10 : List TKept} {k : TKept} (hk : idx c.list x9 = some k) : loopI (spec_Forget_l0 c ids x9 x10) (false, 0) = some (isIn k.id ids) := by
  have key := loopI_n (f := spec_Forget_l0 c ids x9 x10) (fun i => (isIn k.id (ids.take i), (i : Int))) ids.length (r := isIn k.id ids) (fun i hi' => ?_) ?_
  · exact key
  · try dsimp only
    have ht : ids.take (i + 1) = ids.take i ++ [ids[i]] := by rw [List.take_add_one, List.getElem?_eq_getElem hi']; rfl
    have hs : isIn k.id (ids.take (i + 1)) = (isIn k.id (ids.take i) || ieq k.id ids[i]) := by rw [ht]; unfold isIn; rw [List.any_append]; simp
    rw [spec_Forget_l0, ilf (by omega), cnd_false, hs, wr_in (by omega)]
    cases isIn k.id (ids.take i) with
    | true => rw [cnd_true]; rfl
    | false =>
      rw [cnd_false, idx_nat hi', bnd_some, hk, bnd_some, Bool.false_or]
      have : ieq ids[i] k.id = ieq k.id ids[i] := by unfold ieq; exact decide_eq_decide.2 ⟨fun h => h.symm, fun h => h.symm⟩
      rw [this]; rfl
  · try dsimp only
    rw [spec_Forget_l0, ilt (by omega), cnd_true, List.take_length]
theorem o_sForget {c : TCache} {ids : List Int} (h : CB c.list) (hi : ids.length ≤ 1048576) : spec_Forget c ids = some (c.most, c.list.filter fun k => !isIn k.id ids) := by
  have hn := h.n
  have key := loopI_n (f := spec_Forget_l1 c ids) (fun i => ((i : Int), (c.list.take i).filter fun k => !isIn k.id ids)) c.list.length (r := c.list.filter fun k => !isIn k.id ids) (fun i hi' => ?_) ?_
  · unfold spec_Forget
    have e : loopI (spec_Forget_l1 c ids) (0, []) = some (c.list.filter fun k => !isIn k.id ids) := key
    rw [e, bnd_some, o_l21Copy (h.filter _), bnd_some]
  · try dsimp only
    have kl : ((c.list.take i).filter fun k => !isIn k.id ids).length ≤ c.list.length := by
      have h1 := List.length_filter_le (fun k : TKept => !isIn k.id ids) (c.list.take i)
      rw [List.length_take] at h1; omega
    rw [filter_take_succ hi', spec_Forget_l1, ilf (by omega), cnd_false, forget_gone hi (idx_nat hi'), bnd_some, wr_in (by omega)]
    cases isIn (c.list[i]).id ids with
    | true => rw [cnd_true]; simp
    | false => rw [cnd_false, idx_nat hi', bnd_some, chkP_pos (by omega), nam_eq]; rfl
  · try dsimp only
    rw [spec_Forget_l1, ilt (by omega), cnd_true, List.take_length]
theorem o_Forget {m : Int} {l : List TKept} {ids : List Int} (h : CB l) (hi : ids.length ≤ 1048576) : impl_Forget ⟨m, l⟩ ids = some (m, l.filter fun k => !isIn k.id ids) := by
  unfold impl_Forget slices_DeleteFunc_Kept_Forget_1_n
  rw [o_copyCache h, bnd_some]; dsimp only
  rw [chkP_pos ⟨h.n, hi⟩, bnd_some]; rfl
theorem m_FnExactForget {c : TCache} {ids : List Int} (ha : ok_Cache c) (_ : okL (okN .i64) ids) : laws_FnExactForget c ids = some true := by
  unfold laws_FnExactForget
  by_cases hi : (ids.length : Int) ≤ 1048576
  case neg => rw [ilf (by omega), cnd_false]
  rw [ilt hi, cnd_true]
  obtain ⟨v, e1, l1, l2, g1⟩ := f_laws_szCache ha (left := 1048576) (by omega) (by omega)
  rw [e1, bnd_some]
  by_cases c1 : 0 ≤ v
  case neg => rw [ilf (by omega), cnd_false]
  rw [ilt c1, cnd_true]
  have hc := cb_gd (g1 c1)
  have hids : (gdL tt) ids := ⟨by omega, fun _ _ => trivial⟩
  rw [f_laws_toCache (g1 c1), bnd_some]
  dsimp only
  rw [f_laws_toIntS hids, bnd_some, o_sForget (c := ⟨c.most, c.list⟩) hc (by omega), bnd_some, o_Forget hc (by omega), bnd_some]
  dsimp only
  rw [f_laws_eqCache (gd_cb (hc.filter _)), bnd_some, cnd_true, f_laws_eqCache (g1 c1), bnd_some, cnd_true, f_laws_eqIntS hids, bnd_some, cnd_true]
  obtain ⟨L, k, k1, _, k3, _⟩ := keptS_mh hc c.most
  rw [k3, bnd_some]
  dsimp only
  rw [inM_m (by omega) (by omega) (by omega), bnd_some]
  dsimp only
  rw [ilt (by omega), cnd_true]
  obtain ⟨L', k', j1, _, j3, j4⟩ := keptS_mh (hc.filter fun k => !isIn k.id ids) c.most
  rw [j3, bnd_some]
  dsimp only
  rw [j4, bnd_some, ilt (by omega), cnd_true, iqt, cnd_true]

end Go.Proofs.Ytapchldnmkfkoaa.Am
