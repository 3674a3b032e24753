import Derived.Test.YtapchldnmkfkoaaAmIn
import Derived.Shelf.Strings.Builder1
set_option linter.unusedVariables false
set_option linter.unusedSimpArgs false
set_option linter.unusedSectionVars false
namespace Go.Proofs.Ytapchldnmkfkoaa.Am
open Go Go.RowKit

/-! ## A function that writes into a strings.Builder of its own -/
/-- What the rounds write. -/
noncomputable def showL (hx : List UInt8 → Option (List UInt8 × Bool)) (W : Int) : Int → List Int → List UInt8 → Option (List UInt8)
  | _, [], acc => some acc
  | i, a :: xs, acc => bnd (hx [UInt8.ofNat (IntKind.u8.wrap a).toNat]) fun r => chkP (0 < W ∧ W ≤ 2147483647 ∧ acc.length + r.1.length + 1 ≤ 1099511627776) (showL hx W (i + 1) xs (if i.tmod W = W - 1 then acc ++ r.1 ++ [10] else acc ++ r.1))

@[simp] theorem ba_mk (l : List UInt8) : ByteArray.mk (List.toArray l) = bs l := rfl
@[simp] theorem cvO_one {z r id nx} {a : Int} : cvO (some (.arr z [AV.int .u8 a] r)) id 0 1 1 nx = some ⟨.str (bs (toBs [a])), [id], [], nx⟩ := cvO_map (l := [a])
theorem al_size (w : World) (o : Obj) : (w.alloc o).heap.size = w.heap.size + 1 := Array.size_push ..
theorem al_new (w : World) (o : Obj) : (w.alloc o).heap[w.heap.size]? = some o := by
  show (w.heap.push o)[w.heap.size]? = _
  rw [Array.getElem?_push, if_pos rfl]
theorem isB_keep {T e : TypeId} {B b : Nat} {xs : List Value} {w w' : World} (h : Lib.IsBuilder T e B b xs w) (hh : ∀ k, k < w.heap.size → w'.heap[k]? = w.heap[k]?) : Lib.IsBuilder T e B b xs w' := by
  have key : ∀ {p : Value}, Lib.BuilderAt T e B b p xs w → Lib.BuilderAt T e B b p xs w' := by
    rintro p ⟨q1, v, q2, q3, q4⟩
    refine ⟨q1, v, by rw [hh _ (Array.getElem?_eq_some_iff.1 q2).1]; exact q2, ⟨q3.1, q3.2.imp (fun h => h) ?_⟩, q4⟩
    rintro ⟨g, cap, cur, a1, a2, a3, a4⟩
    exact ⟨g, cap, cur, a1, a2, by rw [hh _ (Array.getElem?_eq_some_iff.1 a3).1]; exact a3, a4⟩
  exact h.imp key key
theorem al_keep (w : World) (o : Obj) : ∀ k, k < w.heap.size → (w.alloc o).heap[k]? = w.heap[k]? := fun k hk => Lib.alloc_old w o k hk
theorem show_cv {P : Program} {src dst e : TypeId} (hs : P.underlying src = some (.slice e)) (he : P.underlying e = some (.int .u8)) (hd : P.underlying dst = some .string) (w : World) (x : UInt8) (o : Obj) :
    (convert src dst (.slice (some ⟨w.heap.size + 1, 0, none⟩) 1 1)).run P ((w.alloc o).alloc (.cells #[.int .u8 x.toNat] e)) = .ok (.string (bs [x])) ((w.alloc o).alloc (.cells #[.int .u8 x.toNat] e)) := by
  refine run_convert_bytes_back _ src dst e ⟨w.heap.size + 1, 0, none⟩ 1 [x] hs he hd fun j hj => ?_
  have hj0 : j = 0 := by simp only [List.length_cons, List.length_nil] at hj; omega
  subst hj0
  have := al_new (w.alloc o) (.cells #[.int .u8 x.toNat] e)
  rw [al_size] at this
  rw [Addr.add_lit, Lib.cell_of_heap this]
  rfl
theorem u8_of (a : Int) : ((UInt8.ofNat (IntKind.u8.wrap a).toNat).toNat : Int) = a % 256 := by
  rw [IntKind.wrap_u8, UInt8.toNat_ofNat']
  have h1 : (0 : Int) ≤ a % 256 := by omega
  have h2 : a % 256 < 256 := by omega
  omega

/-- A call of a function that is handed frozen values and hands back a plain one. -/
theorem ck_frozen {P : Program} {f : FuncId} {args : List AV} {v : AV} (h : CallOK P f args [] v []) {φ : FM} {w : World} {cargs : Array Value} (ha : VRL φ LM.none args cargs.toList) (hf : ∀ b o, φ b = some o → w.heap[b]? = some o) :
    Calls P f cargs w fun e w' => (∃ cv φ' m', e = .returned cv ∧ VR φ' m' v cv) ∧ Below w.heap.size w w' := by
  have hi : Inv φ LM.none (fun i => ([] : List Ob)[i]?) w := ⟨hf, fun i ob h => by simp at h, fun i i' ob ob' l l' b h => by simp at h⟩
  refine (h φ LM.none w cargs ha hi (fun _ _ => rfl)).mono fun e w' => ?_
  rintro ⟨cv, rfl, φ', m', h1, _, h3, _⟩
  exact ⟨⟨cv, φ', m', rfl, h1⟩, h3.os, h3.tape, h3.output, h3.size, fun k hk => h3.old k hk (by rintro ⟨i, ob, l, k, _⟩; simp at k)⟩

/-- A walk over a surface's colours, as a contract. -/
theorem show_call {P : Program} {f fS fH : FuncId} {α : Type} {e : α → AV} {ga : α → Int} (he : ∀ x, ∃ c0 c1 c2, e x = .agg [.int .i64 c0, .int .i64 c1, .int .i64 c2, .int .i64 (ga x)])
    {W H : Int} {xs : List α} {ok : Bool} {hx : List UInt8 → Option (List UInt8 × Bool)} {out : List UInt8}
    (hS : CallOK P fS [.agg [.int .i64 W, .int .i64 H, .fsl (xs.map e)]] [] (.bool ok) []) (hH : ∀ x r, hx x = some r → CallOK P fH [.str (bs x)] [] (.tup [.str (bs r.1), .bool r.2]) [])
    (hwalk : ∀ (b o cap : Nat) (ad : Option Addr) (w : World), (0 < (xs.map ga).length → ad = some ⟨b, o, none⟩) → (0 < (xs.map ga).length → b < w.heap.size) →
      (∀ k a, (xs.map ga)[k]? = some a → ∀ w', Below w.heap.size w w' → ∃ c0 c1 c2 : Int, w'.cell? ⟨b, o + k * 4, none⟩ = some (.int .i64 c0) ∧ w'.cell? ⟨b, o + k * 4 + 1, none⟩ = some (.int .i64 c1) ∧ w'.cell? ⟨b, o + k * 4 + 2, none⟩ = some (.int .i64 c2) ∧ w'.cell? ⟨b, o + k * 4 + 3, none⟩ = some (.int .i64 a)) →
      (∀ w', Below w.heap.size w w' → Calls P fS #[.agg #[.int .i64 W, .int .i64 H, .slice ad (xs.map ga).length cap]] w' fun e w'' => e = .returned (.bool ok) ∧ Below w'.heap.size w' w'') →
      (∀ (x : List UInt8) r, hx x = some r → ∀ w', Calls P fH #[.string (bs x)] w' fun e w'' => e = .returned (.tuple #[.string (bs r.1), .bool r.2]) ∧ Below w'.heap.size w' w'') →
      Calls P f #[.agg #[.int .i64 W, .int .i64 H, .slice ad (xs.map ga).length cap]] w fun e w' => e = .returned (.string (bs out)) ∧ Below w.heap.size w w') :
    CallOK P f [.agg [.int .i64 W, .int .i64 H, .fsl (xs.map e)]] [] (.str (bs out)) [] := by
  intro φ m w cargs hv hi hm
  have hv0 := hv
  simp only [VRL, VR] at hv
  obtain ⟨v, vs, hc, ⟨_, a, rfl, v1, vs1, ha, rfl, v2, vs2, rfl, rfl, v3, vs3, rfl, ⟨ad, cap, rfl, hcap, hels⟩, rfl⟩, rfl⟩ := hv
  have hca : cargs = #[.agg #[.int .i64 W, .int .i64 H, .slice ad (xs.map ga).length cap]] := by
    apply Array.toList_inj.1
    rw [hc]
    congr 2
    apply Array.toList_inj.1
    rw [ha]
    simp
  rw [hca] at hv0 ⊢
  have hwid : ∀ y ∈ xs.map e, y.cells.length = 4 := by
    intro y hy
    obtain ⟨x, _, rfl⟩ := List.mem_map.1 hy
    obtain ⟨c0, c1, c2, hx⟩ := he x
    rw [hx]; rfl
  have hmn : m = LM.none := by funext i; exact hm i (Nat.zero_le _)
  subst hmn
  obtain ⟨b, o, hbo⟩ : ∃ b o, 0 < (xs.map ga).length → ad = some ⟨b, o, none⟩ ∧ VRE φ (xs.map e) b o := by
    rcases hels with h0 | ⟨b, o, h1, h2⟩
    · exact ⟨0, 0, fun h => by rw [List.length_map] at h h0; omega⟩
    · exact ⟨b, o, fun _ => ⟨h1, h2⟩⟩
  have hcells : ∀ k a, (xs.map ga)[k]? = some a → ∃ c0 c1 c2 : Int, φ.cell b (o + k * 4) = some (.int .i64 c0) ∧ φ.cell b (o + k * 4 + 1) = some (.int .i64 c1) ∧ φ.cell b (o + k * 4 + 2) = some (.int .i64 c2) ∧ φ.cell b (o + k * 4 + 3) = some (.int .i64 a) := by
    intro k a hk
    have hlt : k < xs.length := by have := (List.getElem?_eq_some_iff.1 hk).1; simpa using this
    obtain ⟨_, hE⟩ := hbo (by simp; omega)
    have := VRE_get hE hwid (i := k) (e := e xs[k]) (by simp [List.getElem?_eq_getElem hlt])
    obtain ⟨c0, c1, c2, hx⟩ := he xs[k]
    rw [hx] at this
    simp only [AV.cells, VRC, VR] at this
    obtain ⟨⟨_, u0, a0, rfl⟩, ⟨_, u1, a1, rfl⟩, ⟨_, u2, a2, rfl⟩, ⟨_, u3, a3, rfl⟩, _⟩ := this
    have hga : a = ga xs[k] := by
      rw [List.getElem?_map, List.getElem?_eq_getElem hlt] at hk
      exact (Option.some.inj hk).symm
    exact ⟨c0, c1, c2, a0, a1, a2, by rw [hga]; exact a3⟩
  have hfz : ∀ w', Below w.heap.size w w' → ∀ b o, φ b = some o → w'.heap[b]? = some o := fun w' hb b o h => by
    have := hi.fz b o h
    rw [hb.block b (Array.getElem?_eq_some_iff.1 this).1]; exact this
  have hcell : ∀ w', Below w.heap.size w w' → ∀ {b o : Nat} {u : Value}, φ.cell b o = some u → w'.cell? ⟨b, o, none⟩ = some u := fun w' hb b o u h =>
    Inv.cell (m := LM.none) (g := fun i => ([] : List Ob)[i]?) ⟨hfz w' hb, fun i ob h => by simp at h, fun i i' ob ob' l l' b h => by simp at h⟩ h
  refine (hwalk b o cap ad w (fun h => (hbo h).1) (fun h => ?_) (fun k a hk w' hb => ?_) (fun w' hb => ?_) (fun x r hr w' => ?_)).mono fun ee w' => ?_
  · have hlt : 0 < xs.length := by simpa using h
    obtain ⟨c0, c1, c2, a0, _⟩ := hcells 0 (ga xs[0]) (by simp [List.getElem?_eq_getElem hlt])
    unfold FM.cell at a0
    cases hq : φ b with
    | none => rw [hq] at a0; cases a0
    | some ob => exact (Array.getElem?_eq_some_iff.1 (hi.fz b ob hq)).1
  · obtain ⟨c0, c1, c2, a0, a1, a2, a3⟩ := hcells k a hk
    exact ⟨c0, c1, c2, hcell w' hb a0, hcell w' hb a1, hcell w' hb a2, hcell w' hb a3⟩
  · refine (ck_frozen hS (φ := φ) (by simpa using hv0) (hfz w' hb)).mono fun ee w'' => ?_
    rintro ⟨⟨cv, φ', m', rfl, h1⟩, h2⟩
    simp only [VR] at h1; subst h1
    exact ⟨rfl, h2⟩
  · refine (ck_frozen (hH x r hr) (φ := fun _ => none) (w := w') (by simp [VRL, VR]) (fun b o h => by cases h)).mono fun ee w'' => ?_
    rintro ⟨⟨cv, φ', m', rfl, h1⟩, h2⟩
    simp only [VR, VRL] at h1
    obtain ⟨a, rfl, v1, vs1, ha, rfl, v2, vs2, rfl, rfl, rfl⟩ := h1
    have : a = #[.string (bs r.1), .bool r.2] := Array.toList_inj.1 (by rw [ha])
    rw [this]
    exact ⟨rfl, h2⟩
  · rintro ⟨rfl, hb⟩
    refine ⟨_, rfl, φ, LM.none, by simp [VR], ⟨hfz w' hb, fun i ob h => by simp at h, fun i i' ob ob' l l' b h => by simp at h⟩, ⟨FM.le_refl _, Ext.refl _, hb.os, hb.tape, hb.output, hb.size, fun k hk _ => hb.block k hk, fun b o h => .inl h, fun b => ?_⟩, fun _ _ => rfl, Nat.le_refl _⟩
    rintro ⟨i, ob, l, k, _⟩; simp at k
end Go.Proofs.Ytapchldnmkfkoaa.Am
