import Derived.Test.YtfhglldoejeedaaAmK
import Derived.Deep.AppendSrc
namespace Go.Proofs.Ytfhglldoejeedaa.Am
open Go

variable {P : Program}

section
variable {φ : FM} {m : LM} {g gi : Nat → Option Ob} {w w' : World}

/-- An own array's place or content turns. -/
theorem inv_repl (hi : Inv φ m g w) {id : Nat} {ob ob' : Ob} {l l' : Loc} (hg : g id = some ob) (hm : m id = some l)
    (hφ : 0 < l.cap → φ l.blk = none) (htop : l.top ≤ l'.top) (hsame : l'.top = l.top → l' = l)
    (hb : 0 < l'.cap → (0 < l.cap ∧ l'.blk = l.blk) ∨ w.heap.size ≤ l'.blk)
    (hos : w'.os = w.os) (htape : w'.tape = w.tape) (hout : w'.output = w.output) (hsz : w.heap.size ≤ w'.heap.size)
    (hh : ∀ b, b < w.heap.size → (0 < l.cap → b ≠ l.blk) → w'.heap[b]? = w.heap[b]?) (hr : ObR φ (putM m id l') w' l' ob') :
    Inv φ (putM m id l') (upd g [(id, ob')]) w' ∧ Fr φ m g w φ (putM m id l') (upd g [(id, ob')]) w' := by
  have hext : Ext m (putM m id l') := by
    intro i k hk
    unfold putM
    split
    · rename_i e; subst e
      rw [hm] at hk; cases hk
      exact ⟨l', rfl, htop, hsame⟩
    · exact ⟨k, hk, Nat.le_refl _, fun _ => rfl⟩
  have hlt : ∀ i ob k, g i = some ob → m i = some k → 0 < k.cap → k.blk < w.heap.size := fun i ob k h1 h2 h3 => hi.lt ⟨i, ob, k, h1, h2, h3, rfl⟩
  have hoth : ∀ i o k, g i = some o → m i = some k → i ≠ id → 0 < k.cap → w'.heap[k.blk]? = w.heap[k.blk]? := fun i o k h1 h2 h3 h4 =>
    hh _ (hlt i o k h1 h2 h4) (fun h5 => hi.sep _ _ _ _ _ _ h1 hg h2 hm h3 h4 h5)
  refine ⟨⟨fun b o hbo => ?_, fun i ob1 h => ?_, fun i i' o1 o2 k k' h1 h2 h3 h4 h5 h6 h7 => ?_⟩, ⟨FM.le_refl _, hext, hos, htape, hout, hsz, fun b hb hn => ?_, fun b o h => .inl h, ?_⟩⟩
  · have := hi.fz b o hbo
    rw [hh b (Array.getElem?_eq_some_iff.1 this).1 (fun h5 => by rintro rfl; rw [hφ h5] at hbo; cases hbo)]; exact this
  · rw [upd_one] at h
    split at h
    · rename_i e; subst e; cases h
      exact ⟨l', by simp [putM], hr⟩
    · rename_i hne
      have hne' : i ≠ id := fun e => hne e.symm
      obtain ⟨k, hk, hkr⟩ := hi.own i ob1 h
      refine ⟨k, by simp [putM, hne', hk], hkr.top, fun cs e => ?_, fun esz es ro e => ?_⟩
      · obtain ⟨a1, a2, a3, a4, a, t, a5, a6⟩ := hkr.box cs e
        exact ⟨a1, a2, a3, a4, a, t, by rw [hoth i _ k h hk hne' a2.2]; exact a5, VRL.mono (FM.le_refl _) _ hext a6⟩
      · obtain ⟨a1, a2, a3, a4, a5⟩ := hkr.arr esz es ro e
        refine ⟨a1, a2, a3, a4, ?_⟩
        rcases a5 with h0 | ⟨a, t, a5, a6⟩
        · exact .inl h0
        · by_cases hz : k.cap = 0
          · exact .inl hz
          · exact .inr ⟨a, t, by rw [hoth i _ k h hk hne' (by omega)]; exact a5, a6⟩
  · rw [upd_one] at h1 h2
    split at h1 <;> split at h2
    · omega
    · rename_i e1 e2
      subst e1
      simp only [putM, if_true] at h3; cases h3
      have hn : ¬ (i' = id) := fun e => e2 e.symm
      simp only [putM, if_neg hn] at h4
      rcases hb h6 with ⟨q1, q2⟩ | q
      · rw [q2]; exact fun e => hi.sep _ _ _ _ _ _ h2 hg h4 hm hn h7 q1 e.symm
      · have := hlt i' o2 k' h2 h4 h7; omega
    · rename_i e1 e2
      subst e2
      simp only [putM, if_true] at h4; cases h4
      have hn : ¬ (i = id) := fun e => e1 e.symm
      simp only [putM, if_neg hn] at h3
      rcases hb h7 with ⟨q1, q2⟩ | q
      · rw [q2]; exact hi.sep _ _ _ _ _ _ h1 hg h3 hm hn h6 q1
      · have := hlt i o1 k h1 h3 h6; omega
    · rename_i e1 e2
      have hn : ¬ (i = id) := fun e => e1 e.symm
      have hn' : ¬ (i' = id) := fun e => e2 e.symm
      simp only [putM, if_neg hn] at h3
      simp only [putM, if_neg hn'] at h4
      exact hi.sep _ _ _ _ _ _ h1 h2 h3 h4 h5 h6 h7
  · exact hh b hb (fun h5 => by rintro rfl; exact hn ⟨id, ob, l, hg, hm, h5, rfl⟩)
  · rintro b ⟨i, o1, k, h1, h2, h3, rfl⟩
    rw [upd_one] at h1
    split at h1
    · rename_i e; subst e
      simp only [putM, if_true] at h2; cases h2
      rcases hb h3 with ⟨q1, q2⟩ | q
      · exact .inr ⟨id, ob, l, hg, hm, q1, q2.symm⟩
      · exact .inl q
    · rename_i e
      have hn : ¬ (i = id) := fun e' => e e'.symm
      simp only [putM, if_neg hn] at h2
      exact .inr ⟨i, o1, k, h1, h2, h3, rfl⟩

theorem widths_iff {n : Nat} {es : List AV} (h : widths n es = true) : ∀ e ∈ es, e.cells.length = n ∧ e.cells.all AV.one = true := by
  intro e he
  have := (List.all_eq_true.1 h) e he
  simpa using this

theorem srcTy_kind {t : TypeId} (h : srcTy P t = true) : (∃ e', P.underlying t = some (.slice e')) ∨ P.underlying t = some .string := by
  unfold srcTy at h
  split at h
  · rename_i e' hu; exact .inl ⟨_, hu⟩
  · rename_i hu; exact .inr hu
  · cases h

theorem loadCells_vals {w : World} {b o n : Nat} {vs : List Value} (hl : vs.length = n) (h : ∀ (j : Nat) (v : Value), vs[j]? = some v → w.cell? ⟨b, o + j, none⟩ = some v) :
    (loadCells ⟨b, o, none⟩ n).run P w = .ok vs.toArray w := by
  subst hl
  exact run_loadCells_list (P := P) w _ vs fun j v hj => by rw [add_none]; exact h j v hj

theorem VRE_vals {es : List AV} {b o : Nat} (h : VRE φ es b o) : ∃ vs : List Value, VRL φ LM.none (es.flatMap AV.cells) vs ∧ ∀ (j : Nat) (v : Value), vs[j]? = some v → φ.cell b (o + j) = some v := by
  induction es generalizing o with
  | nil => exact ⟨[], by simp [VRL], by simp⟩
  | cons e es ih =>
    rw [VRE_cons] at h
    obtain ⟨v1, a1, a2⟩ := VRC_vals h.1
    obtain ⟨v2, b1, b2⟩ := ih h.2
    refine ⟨v1 ++ v2, by rw [List.flatMap_cons]; exact VRL_append a1 b1, fun j v hj => ?_⟩
    have hl := VRL_len a1
    rw [List.getElem?_append] at hj
    split at hj
    · exact a2 j v hj
    · have := b2 _ v hj
      rw [hl] at this
      rw [← this]; congr 1; omega

theorem bytes_flat (l : List UInt8) : (l.map byteAV).flatMap AV.cells = l.map byteAV := by
  induction l with
  | nil => rfl
  | cons x xs ih => simp [byteAV, AV.cells] at ih ⊢; exact ih

theorem bytes_VRL (l : List UInt8) : VRL φ m (l.map byteAV) (l.map fun b => Value.int .u8 b.toNat) := by
  induction l with
  | nil => simp [VRL]
  | cons x xs ih => simp only [List.map_cons, VRL]; exact ⟨_, _, rfl, by simp [byteAV, VR], ih⟩

/-- What an own array's part holds, as it lies in memory. -/
theorem own_vals (hi : Inv φ m g w) {id esz off len : Nat} {es : List AV} {ro : Bool} {l : Loc} (hg : g id = some (.arr esz es ro)) (hm : m id = some l) (hb : off + len ≤ es.length) (h0 : 0 < len) :
    ∃ vs : List Value, VRL φ LM.none (((es.drop off).take len).flatMap AV.cells) vs ∧ ∀ (j : Nat) (v : Value), vs[j]? = some v → w.cell? ⟨l.blk, off * esz + j, none⟩ = some v := by
  obtain ⟨l', hm', hr⟩ := hi.own id _ hg
  rw [hm] at hm'; cases hm'
  obtain ⟨h1, h2, h3, h4, h5⟩ := hr.arr esz es ro rfl
  obtain ⟨a, t, k1, k2, k3, k4⟩ := h5.resolve_left (by omega)
  have hw : ∀ e ∈ es, e.cells.length = esz := fun e he => (h3 e he).1
  refine ⟨((a.toList.take (es.length * esz)).drop (off * esz)).take (len * esz), ?_, fun j v hj => ?_⟩
  · have e1 : ((es.drop off).take len).flatMap AV.cells = ((es.flatMap AV.cells).drop (off * esz)).take (len * esz) := by
      clear k4 h5 hb h0 hr hg h3 h4
      induction es generalizing off len with
      | nil => simp
      | cons x xs ih =>
        have hx := hw x (by simp)
        have ih := fun {off len} => ih (off := off) (len := len) (fun e he => hw e (by simp [he]))
        cases off with
        | zero =>
          cases len with
          | zero => simp
          | succ len =>
            have := ih (off := 0) (len := len)
            simp only [List.drop_zero, Nat.zero_mul] at this ⊢
            simp only [List.take_succ_cons, List.flatMap_cons, this, List.take_append, hx, Nat.add_mul, Nat.one_mul, Nat.add_sub_cancel]
            rw [List.take_of_length_le (show x.cells.length ≤ len * esz + esz by omega)]
        | succ off =>
          have := ih (off := off) (len := len)
          simp only [List.drop_succ_cons, List.flatMap_cons, this, List.drop_append, hx, Nat.add_mul, Nat.one_mul, Nat.add_sub_cancel]
          rw [List.drop_eq_nil_of_le (show x.cells.length ≤ off * esz + esz by omega)]
          simp
    rw [e1]
    exact VRL_take (VRL_drop k4 _) _
  · rw [cell_at k1]
    rw [List.getElem?_take] at hj
    split at hj
    · rw [List.getElem?_drop, List.getElem?_take] at hj
      split at hj
      · simpa using hj
      · cases hj
    · cases hj

theorem src_sound (hi : Inv φ m g w) {x : AV} {cx : Value} {src : List AV} {is : List Nat} {t2 : TypeId} {n : Nat} (hk : srcTy P t2 = true)
    (h : elsOf gi x = some (src, is)) (hg : ∀ i ∈ is, g i = gi i) (hx : VR φ m x cx) (hw : ∀ e ∈ src, e.cells.length = n ∧ e.cells.all AV.one = true) :
    ∃ news, Src P n t2 cx src.length news w ∧ VRL φ LM.none (src.flatMap AV.cells) news := by
  have hone : (src.flatMap AV.cells).all AV.one = true := by
    rw [List.all_eq_true]; intro y hy
    obtain ⟨e, he, hye⟩ := List.mem_flatMap.1 hy
    exact (List.all_eq_true.1 (hw e he).2) y hye
  have mk : ∀ (news : List Value) (ad : Option Addr) (cap : Nat), cx = .slice ad src.length cap → VRL φ LM.none (src.flatMap AV.cells) news →
      (src.length = 0 ∨ ∃ b o, ad = some ⟨b, o, none⟩ ∧ ∀ (j : Nat) (v : Value), news[j]? = some v → w.cell? ⟨b, o + j, none⟩ = some v) → Src P n t2 cx src.length news w := by
    rintro news ad cap rfl hv hc
    have hlen : news.length = src.length * n := by rw [VRL_len hv, flat_len (fun e he => (hw e he).1)]
    have hcells : ∀ w' : World, (∀ b o, w'.cell? ⟨b, o, none⟩ = w.cell? ⟨b, o, none⟩) → (Builtin.firstCells n src.length (.slice ad src.length cap)).run P w' = .ok news.toArray w' := by
      intro w' hw'
      cases ad with
      | none =>
        rcases hc with h0 | ⟨b, o, h1, _⟩
        · have : news = [] := List.eq_nil_of_length_eq_zero (by rw [hlen, h0]; simp)
          simp [Builtin.firstCells, this]
        · cases h1
      | some a =>
        rcases hc with h0 | ⟨b, o, h1, h2⟩
        · have : news = [] := List.eq_nil_of_length_eq_zero (by rw [hlen, h0]; simp)
          subst this
          simp [Builtin.firstCells, h0, loadCells, loadCellsFrom]
        · cases h1
          simp only [Builtin.firstCells]
          exact loadCells_vals hlen fun j v hj => by rw [hw']; exact h2 j v hj
    exact ⟨srcTy_kind hk, fun _ => rfl, hcells w (fun _ _ => rfl), hcells w.drew (fun _ _ => rfl), hlen, VRL_one hv hone⟩
  cases x with
  | fsl es =>
    simp only [elsOf, Option.some.injEq, Prod.mk.injEq] at h
    obtain ⟨rfl, rfl⟩ := h
    simp only [VR] at hx
    obtain ⟨ad, cap, rfl, h1, h2⟩ := hx
    rcases h2 with h0 | ⟨b, o, rfl, h3⟩
    · have : es = [] := List.eq_nil_of_length_eq_zero h0
      subst this
      exact ⟨[], mk [] ad cap rfl (by simp [VRL]) (.inl rfl), by simp [VRL]⟩
    · obtain ⟨vs, k1, k2⟩ := VRE_vals h3
      exact ⟨vs, mk vs _ cap rfl k1 (.inr ⟨b, o, rfl, fun j v hj => hi.cell (k2 j v hj)⟩), k1⟩
  | nilsl =>
    simp only [elsOf, Option.some.injEq, Prod.mk.injEq] at h
    obtain ⟨rfl, rfl⟩ := h
    simp only [VR] at hx
    obtain ⟨ad, rfl⟩ := hx
    exact ⟨[], mk [] ad 0 rfl (by simp [VRL]) (.inl rfl), by simp [VRL]⟩
  | osl id off len tot =>
    simp only [elsOf] at h
    split at h
    · rename_i esz es ro hgi
      split at h
      · rename_i hb
        simp only [Option.some.injEq, Prod.mk.injEq] at h
        obtain ⟨rfl, rfl⟩ := h
        have hgid := (hg id (by simp)).trans hgi
        simp only [VR] at hx
        obtain ⟨_, l, hm, _, hv⟩ := hx
        obtain ⟨l', hm', hr⟩ := hi.own id _ hgid
        rw [hm] at hm'; cases hm'
        obtain ⟨ad, rfl, had⟩ := hv (by rw [hr.top]; exact hb.1)
        have hlen : ((es.drop off).take len).length = len := by simp; omega
        obtain ⟨h1, h2, h3, h4, _⟩ := hr.arr esz es ro rfl
        by_cases h0 : len = 0
        · subst h0
          refine ⟨[], mk [] ad _ (by rw [hlen]) (by simp [VRL]) (.inl (by simp)), by simp [VRL]⟩
        · obtain ⟨vs, k1, k2⟩ := own_vals hi hgid hm hb.2 (by omega)
          refine ⟨vs, mk vs ad _ (by rw [hlen]) k1 (.inr ⟨l.blk, off * esz, by rw [← h1]; exact had (by omega), k2⟩), k1⟩
      · cases h
    · cases h
  | _ => simp [elsOf] at h
end
end Go.Proofs.Ytfhglldoejeedaa.Am
