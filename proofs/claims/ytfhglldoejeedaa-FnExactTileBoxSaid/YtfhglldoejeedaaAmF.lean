import Derived.Test.YtfhglldoejeedaaAmE
namespace Go.Proofs.Ytfhglldoejeedaa.Am
open Go

variable {P : Program}

theorem lkp_one (id : Nat) (ob : Ob) (i : Nat) : lkp [(id, ob)] i = if id = i then some ob else none := by simp [lkp]

theorem upd_one (g : Nat → Option Ob) (id : Nat) (ob : Ob) (i : Nat) : upd g [(id, ob)] i = if id = i then some ob else g i := by
  unfold upd; rw [lkp_one]; split <;> simp_all

/-- A block that is one object's own is written. -/
theorem inv_put {φ : FM} {m : LM} {g : Nat → Option Ob} {w w' : World} (hi : Inv φ m g w) {id : Nat} {ob ob' : Ob} {l : Loc} (hg : g id = some ob) (hm : m id = some l)
    (hc : 0 < l.cap) (hφ : φ l.blk = none) (hos : w'.os = w.os) (htape : w'.tape = w.tape) (hout : w'.output = w.output) (hsz : w'.heap.size = w.heap.size)
    (hh : ∀ b, b ≠ l.blk → w'.heap[b]? = w.heap[b]?) (hr : ObR φ m w' l ob') :
    Inv φ m (upd g [(id, ob')]) w' ∧ Fr φ m g w φ m (upd g [(id, ob')]) w' := by
  have hown : ∀ b, ownB (upd g [(id, ob')]) m b → ownB g m b := by
    rintro b ⟨i, o, l', h1, h2, h3, h4⟩
    rw [upd_one] at h1
    split at h1
    · rename_i e; subst e; exact ⟨id, ob, l', hg, h2, h3, h4⟩
    · exact ⟨i, o, l', h1, h2, h3, h4⟩
  refine ⟨⟨fun b o hb => ?_, fun i o hio => ?_, fun i i' o o' k k' h1 h2 h3 h4 h5 h6 h7 => ?_⟩, ⟨FM.le_refl _, Ext.refl _, hos, htape, hout, by omega, fun b hb hn => ?_, fun b o h => .inl h, fun b hb => .inr (hown b hb)⟩⟩
  · rw [hh b (by rintro rfl; rw [hφ] at hb; cases hb)]; exact hi.fz b o hb
  · rw [upd_one] at hio
    split at hio
    · rename_i e; subst e; cases hio; exact ⟨l, hm, hr⟩
    · rename_i hne
      obtain ⟨k, hk, hkr⟩ := hi.own i o hio
      refine ⟨k, hk, hkr.top, fun cs e => ?_, fun esz es ro e => ?_⟩
      · obtain ⟨a1, a2, a3, a4, a, t, a5, a6⟩ := hkr.box cs e
        exact ⟨a1, a2, a3, a4, a, t, by rw [hh _ (hi.sep i id _ _ _ _ hio hg hk hm (fun e => hne e.symm) a2.2 hc)]; exact a5, a6⟩
      · obtain ⟨a1, a2, a3, a4, a5⟩ := hkr.arr esz es ro e
        refine ⟨a1, a2, a3, a4, ?_⟩
        rcases a5 with h0 | ⟨a, t, a5, a6⟩
        · exact .inl h0
        · by_cases hz : k.cap = 0
          · exact .inl hz
          · exact .inr ⟨a, t, by rw [hh _ (hi.sep i id _ _ _ _ hio hg hk hm (fun e => hne e.symm) (by omega) hc)]; exact a5, a6⟩
  · rw [upd_one] at h1 h2
    split at h1 <;> split at h2
    · omega
    · rename_i e _; subst e; exact hi.sep _ _ _ _ _ _ hg h2 h3 h4 h5 h6 h7
    · rename_i e; subst e; exact hi.sep _ _ _ _ _ _ h1 hg h3 h4 h5 h6 h7
    · exact hi.sep _ _ _ _ _ _ h1 h2 h3 h4 h5 h6 h7
  · exact hh b (by rintro rfl; exact hn ⟨id, ob, l, hg, hm, hc, rfl⟩)

theorem upd_append (g : Nat → Option Ob) (a b : Hp) : upd g (a ++ b) = upd (upd g b) a := by
  funext i
  induction a with
  | nil => simp [upd, lkp]
  | cons x xs ih =>
    simp only [upd, List.cons_append, lkp] at ih ⊢
    by_cases e : x.1 = i
    · simp [e]
    · simpa [e] using ih

theorem upd_cons (g : Nat → Option Ob) (a : Nat × Ob) (b : Hp) : upd g (a :: b) = upd (upd g b) [a] := upd_append g [a] b

/-- An array that is one object's own becomes one that nobody may write. -/
theorem inv_ro {φ : FM} {m : LM} {g : Nat → Option Ob} {w : World} (hi : Inv φ m g w) {id : Nat} {esz : Nat} {es : List AV} {ro : Bool} (hg : g id = some (.arr esz es ro)) :
    ∃ φ', Inv φ' m (upd g [(id, .arr esz es true)]) w ∧ Fr φ m g w φ' m (upd g [(id, .arr esz es true)]) w ∧
      ∀ l, m id = some l → 0 < l.cap → φ' l.blk = w.heap[l.blk]? := by
  obtain ⟨l, hm, hr⟩ := hi.own id _ hg
  obtain ⟨h1, h2, h3, h4, h5⟩ := hr.arr esz es ro rfl
  have hown : ∀ b, ownB (upd g [(id, .arr esz es true)]) m b → ownB g m b := by
    rintro b ⟨i, o, l', k1, k2, k3, k4⟩
    rw [upd_one] at k1
    split at k1
    · rename_i e; subst e; exact ⟨id, _, l', hg, k2, k3, k4⟩
    · exact ⟨i, o, l', k1, k2, k3, k4⟩
  let φ' : FM := fun b => if b = l.blk ∧ 0 < l.cap then w.heap[l.blk]? else φ b
  have hle : φ.le φ' := by
    intro b o hb
    show (if _ then _ else _) = _
    split
    · rename_i e; rw [← e.1]; exact hi.fz b o hb
    · exact hb
  have hfz : ∀ b o, φ' b = some o → w.heap[b]? = some o := by
    intro b o hb
    change (if _ then _ else _) = _ at hb
    split at hb
    · rename_i e; rw [e.1]; exact hb
    · exact hi.fz b o hb
  refine ⟨φ', ⟨hfz, fun i o hio => ?_, fun i i' o o' k k' k1 k2 k3 k4 k5 k6 k7 => ?_⟩, ⟨hle, Ext.refl _, rfl, rfl, rfl, Nat.le_refl _, fun _ _ _ => rfl, fun b o h => ?_, fun b hb => .inr (hown b hb)⟩, fun l' e hc => ?_⟩
  · rw [upd_one] at hio
    split at hio
    · rename_i e; subst e; cases hio
      refine ⟨l, hm, hr.top, fun cs e => (by cases e), fun esz' es' ro' e => ?_⟩
      cases e
      refine ⟨h1, h2, h3, h4, ?_⟩
      rcases h5 with h0 | ⟨a, t, h5, h6, h7, h8⟩
      · exact .inl h0
      · by_cases hz : l.cap = 0
        · exact .inl hz
        refine .inr ⟨a, t, h5, h6, ?_, VRL.mono hle _ (Ext.refl _) h8⟩
        show (if _ then _ else _) = _
        rw [if_pos ⟨rfl, by omega⟩, h5]; rfl
    · rename_i hne
      obtain ⟨k, hk, hkr⟩ := hi.own i o hio
      have hb : ∀ (hc : 0 < k.cap), φ' k.blk = φ k.blk := by
        intro hc
        show (if _ then _ else _) = _
        split
        · rename_i e
          exact absurd e.1 (hi.sep i id _ _ _ _ hio hg hk hm (fun e => hne e.symm) hc e.2)
        · rfl
      refine ⟨k, hk, hkr.top, fun cs e => ?_, fun esz es ro e => ?_⟩
      · obtain ⟨a1, a2, a3, a4, a, t, a5, a6⟩ := hkr.box cs e
        exact ⟨a1, a2, by rw [hb a2.2]; exact a3, a4, a, t, a5, VRL.mono hle _ (Ext.refl _) a6⟩
      · obtain ⟨a1, a2, a3, a4, a5⟩ := hkr.arr esz es ro e
        refine ⟨a1, a2, a3, a4, ?_⟩
        rcases a5 with h0 | ⟨a, t, a5, a6, a7, a8⟩
        · exact .inl h0
        · by_cases hz : k.cap = 0
          · exact .inl hz
          · exact .inr ⟨a, t, a5, a6, by rw [hb (by omega)]; exact a7, VRL.mono hle _ (Ext.refl _) a8⟩
  · rw [upd_one] at k1 k2
    split at k1 <;> split at k2
    · omega
    · rename_i e _; subst e; exact hi.sep _ _ _ _ _ _ hg k2 k3 k4 k5 k6 k7
    · rename_i e; subst e; exact hi.sep _ _ _ _ _ _ k1 hg k3 k4 k5 k6 k7
    · exact hi.sep _ _ _ _ _ _ k1 k2 k3 k4 k5 k6 k7
  · change (if _ then _ else _) = _ at h
    split at h
    · rename_i e; exact .inr (.inr ⟨id, _, l, hg, hm, e.2, e.1.symm⟩)
    · exact .inl h
  · rw [hm] at e; cases e
    show (if _ then _ else _) = _
    rw [if_pos ⟨rfl, hc⟩]

/-- What is covered: each own object of these numbers has its block among the frozen ones. -/
def Cov (φ : FM) (m : LM) (g : Nat → Option Ob) (w : World) (is : List Nat) : Prop :=
  ∀ i ∈ is, ∀ ob l, g i = some ob → m i = some l → 0 < l.cap → φ l.blk = w.heap[l.blk]?

theorem upd_get (g : Nat → Option Ob) (wr : Hp) (i : Nat) : upd g wr i = match lkp wr i with | some o => some o | none => g i := rfl

theorem ro_sound {φ : FM} {m : LM} {gi : Nat → Option Ob} {w : World} : ∀ {is : List Nat} {g : Nat → Option Ob} {ro : Hp}, roAll gi is = some ro → (∀ x ∈ is, g x = gi x) → Inv φ m g w → is.Nodup →
    ∃ φ', Inv φ' m (upd g ro) w ∧ Fr φ m g w φ' m (upd g ro) w ∧ Cov φ' m (upd g ro) w is ∧ (∀ i, lkp ro i ≠ none → i ∈ is) ∧ (∀ i ob, upd g ro i = some ob → ∃ ob', g i = some ob' ∧ ob.len = ob'.len) ∧
      (∀ i ob, g i = some ob → upd g ro i = some ob ∨ ∃ esz es r, ob = .arr esz es r ∧ upd g ro i = some (.arr esz es true))
  | [], g, ro, h, _, hi, _ => by
    simp only [roAll, Option.some.injEq] at h; subst h
    exact ⟨φ, by rw [upd_nil]; exact hi, by rw [upd_nil]; exact Fr.refl .., fun i hi => by simp at hi, by simp [lkp], by rw [upd_nil]; exact fun i ob h => ⟨ob, h, rfl⟩, by rw [upd_nil]; exact fun i ob h => .inl h⟩
  | i :: is, g, ro, h, hg, hi, hnd => by
    unfold roAll at h
    split at h
    · rename_i esz es r hp hgi hro
      simp only [Option.some.injEq] at h; subst h
      simp only [List.nodup_cons] at hnd
      obtain ⟨φ1, i1, f1, c1, n1, s1, t1⟩ := ro_sound hro (fun x hx => hg x (by simp [hx])) hi hnd.2
      have hgi' : upd g hp i = some (.arr esz es r) := by
        rw [upd_get]
        have : lkp hp i = none := by
          cases hl : lkp hp i with
          | none => rfl
          | some _ => exact absurd (n1 i (by simp [hl])) hnd.1
        rw [this]; simp only; rw [hg i (by simp), hgi]
      obtain ⟨φ2, i2, f2, c2⟩ := inv_ro i1 hgi'
      rw [upd_cons]
      refine ⟨φ2, i2, f1.trans f2, fun x hx ob l h1 h2 h3 => ?_, fun x hx => ?_, fun x ob hx => ?_, fun x ob hx => ?_⟩
      · simp only [List.mem_cons] at hx
        by_cases e : x = i
        · subst e; exact c2 l h2 h3
        · have hx' := hx.resolve_left e
          rw [upd_one, if_neg (fun e' => e e'.symm)] at h1
          have := c1 x hx' ob l h1 h2 h3
          have hs : ∃ o, w.heap[l.blk]? = some o := ⟨_, Array.getElem?_eq_getElem (i1.lt ⟨x, ob, l, h1, h2, h3, rfl⟩)⟩
          obtain ⟨o, ho⟩ := hs
          rw [ho] at this ⊢
          exact f2.φle _ _ this
      · simp only [lkp] at hx
        split at hx
        · rename_i e; simp [e]
        · simp [n1 x hx]
      · rw [upd_one] at hx
        split at hx
        · rename_i e; subst e; cases hx; exact ⟨.arr esz es r, by rw [hg i (by simp), hgi], rfl⟩
        · exact s1 x ob hx
      · rw [upd_one]
        split
        · rename_i e; subst e
          rw [hg i (by simp), hgi] at hx; cases hx
          exact .inr ⟨esz, es, r, rfl, rfl⟩
        · exact t1 x ob hx
    · simp at h
end Go.Proofs.Ytfhglldoejeedaa.Am
