import Derived.Test.YtfhglldoejeedaaAmA
namespace Go.Proofs.Ytfhglldoejeedaa.Am
open Go

abbrev FM := Nat → Option Obj
def FM.cell (φ : FM) (b o : Nat) : Option Value := match φ b with | some (.cells c _ _) => c[o]? | _ => none

structure Loc where
  blk : Nat
  esz : Nat
  cap : Nat
  top : Nat

abbrev LM := Nat → Option Loc
def LM.none : LM := fun _ => Option.none

mutual
def VR (φ : FM) : LM → AV → Value → Prop
  | _, .any, _ => True
  | _, .bool b, v => v = .bool b
  | _, .int k n, v => v = .int k n
  | _, .str s, v => v = .string s
  | m, .agg cs, v => cs.all AV.one = true ∧ ∃ a, v = .agg a ∧ VRL φ m cs a.toList
  | m, .tup cs, v => ∃ a, v = .tuple a ∧ VRL φ m cs a.toList
  | _, .fsl els, v => ∃ ad cap, v = .slice ad els.length cap ∧ els.length ≤ cap ∧ (els.length = 0 ∨ ∃ b o, ad = some ⟨b, o, none⟩ ∧ VRE φ els b o)
  | _, .fptr cs off, v => ∃ b o, v = .pointer (some ⟨b, o + off, none⟩) ∧ VRC φ cs b o
  | m, .osl id off len tot, v => v.oneCell' = true ∧ ∃ l, m id = some l ∧ tot ≤ l.top ∧ (tot = l.top → ∃ ad, v = .slice ad len (l.cap - off) ∧ (off < l.cap → ad = some ⟨l.blk, off * l.esz, none⟩))
  | m, .optr id off tot, v => v.oneCell' = true ∧ ∃ l, m id = some l ∧ tot ≤ l.top ∧ (tot = l.top → v = .pointer (some ⟨l.blk, off, none⟩))
  | m, .eptr id ix off tot, v => v.oneCell' = true ∧ ∃ l, m id = some l ∧ tot ≤ l.top ∧ (tot = l.top → v = .pointer (some ⟨l.blk, ix * l.esz + off, none⟩))
  | m, .func fn f c, v => ∃ f' c', v = .func fn f' c' ∧ VRL φ m f f'.toList ∧ VRL φ m c c'.toList
  | _, .nilf, v => v = .nilFunc
  | _, .nilp, v => v = .pointer none
  | _, .nilsl, v => ∃ ad, v = .slice ad 0 0
  | _, .nili, v => v = .nilIface
def VRL (φ : FM) : LM → List AV → List Value → Prop
  | _, [], l => l = []
  | m, a :: as, l => ∃ v vs, l = v :: vs ∧ VR φ m a v ∧ VRL φ m as vs
/-- Frozen cells from a place on. -/
def VRC (φ : FM) : List AV → Nat → Nat → Prop
  | [], _, _ => True
  | a :: as, b, o => (a.one = true ∧ ∃ u, φ.cell b o = some u ∧ VR φ LM.none a u) ∧ VRC φ as b (o + 1)
/-- Frozen elements from a place on. -/
def VRE (φ : FM) : List AV → Nat → Nat → Prop
  | [], _, _ => True
  | .agg cs :: es, b, o => VRC φ cs b o ∧ VRE φ es b (o + cs.length)
  | e :: es, b, o => (e.one = true ∧ ∃ u, φ.cell b o = some u ∧ VR φ LM.none e u) ∧ VRE φ es b (o + 1)
end

def FM.le (φ φ' : FM) : Prop := ∀ b o, φ b = some o → φ' b = some o
theorem FM.le_refl (φ : FM) : φ.le φ := fun _ _ h => h
theorem FM.le.trans {a b c : FM} (h : a.le b) (k : b.le c) : a.le c := fun _ _ x => k _ _ (h _ _ x)
theorem FM.le.cell {φ φ' : FM} (h : φ.le φ') {b o : Nat} {u : Value} (hc : φ.cell b o = some u) : φ'.cell b o = some u := by
  unfold FM.cell at *
  cases hb : φ b with
  | none => rw [hb] at hc; simp at hc
  | some x => rw [hb] at hc; rw [h b x hb]; exact hc

def Ext (m m' : LM) : Prop := ∀ id l, m id = some l → ∃ l', m' id = some l' ∧ l.top ≤ l'.top ∧ (l'.top = l.top → l' = l)
theorem Ext.refl (m : LM) : Ext m m := fun _ l h => ⟨l, h, Nat.le_refl _, fun _ => rfl⟩
theorem Ext.trans {a b c : LM} (h : Ext a b) (k : Ext b c) : Ext a c := by
  intro id l hl
  obtain ⟨l1, h1, h2, h3⟩ := h id l hl
  obtain ⟨l2, k1, k2, k3⟩ := k id l1 h1
  refine ⟨l2, k1, Nat.le_trans h2 k2, fun e => ?_⟩
  have e1 : l1.top = l.top := by omega
  have e2 : l2.top = l1.top := by omega
  rw [k3 e2, h3 e1]
theorem Ext.none (m : LM) : Ext LM.none m := fun _ _ h => by simp [LM.none] at h

mutual
theorem VR.mono {φ φ' : FM} (hφ : φ.le φ') : ∀ (a : AV) {m m' : LM} {v : Value}, Ext m m' → VR φ m a v → VR φ' m' a v
  | .any, _, _, _, _, _ => by simp [VR]
  | .bool _, _, _, _, _, h => by simpa [VR] using h
  | .int _ _, _, _, _, _, h => by simpa [VR] using h
  | .str _, _, _, _, _, h => by simpa [VR] using h
  | .agg cs, m, m', v, hm, h => by
    simp only [VR] at h ⊢
    obtain ⟨h1, a, rfl, h2⟩ := h
    exact ⟨h1, a, rfl, VRL.mono hφ cs hm h2⟩
  | .tup cs, m, m', v, hm, h => by
    simp only [VR] at h ⊢
    obtain ⟨a, rfl, h2⟩ := h
    exact ⟨a, rfl, VRL.mono hφ cs hm h2⟩
  | .fsl els, m, m', v, hm, h => by
    simp only [VR] at h ⊢
    obtain ⟨ad, cap, rfl, h1, h2⟩ := h
    refine ⟨ad, cap, rfl, h1, h2.imp id ?_⟩
    rintro ⟨b, o, rfl, h3⟩
    exact ⟨b, o, rfl, VRE.mono hφ els h3⟩
  | .fptr cs off, m, m', v, hm, h => by
    simp only [VR] at h ⊢
    obtain ⟨b, o, rfl, h3⟩ := h
    exact ⟨b, o, rfl, VRC.mono hφ cs h3⟩
  | .osl id off len tot, m, m', v, hm, h => by
    simp only [VR] at h ⊢
    obtain ⟨h0, l, h1, h2, h3⟩ := h
    obtain ⟨l', k1, k2, k3⟩ := hm id l h1
    refine ⟨h0, l', k1, by omega, fun e => ?_⟩
    have : l' = l := k3 (by omega)
    subst this
    exact h3 e
  | .optr id off tot, m, m', v, hm, h => by
    simp only [VR] at h ⊢
    obtain ⟨h0, l, h1, h2, h3⟩ := h
    obtain ⟨l', k1, k2, k3⟩ := hm id l h1
    refine ⟨h0, l', k1, by omega, fun e => ?_⟩
    have : l' = l := k3 (by omega)
    subst this
    exact h3 e
  | .eptr id ix off tot, m, m', v, hm, h => by
    simp only [VR] at h ⊢
    obtain ⟨h0, l, h1, h2, h3⟩ := h
    obtain ⟨l', k1, k2, k3⟩ := hm id l h1
    refine ⟨h0, l', k1, by omega, fun e => ?_⟩
    have : l' = l := k3 (by omega)
    subst this
    exact h3 e
  | .func fn f c, m, m', v, hm, h => by
    simp only [VR] at h ⊢
    obtain ⟨f', c', rfl, h1, h2⟩ := h
    exact ⟨f', c', rfl, VRL.mono hφ f hm h1, VRL.mono hφ c hm h2⟩
  | .nilf, _, _, _, _, h => by simpa [VR] using h
  | .nilp, _, _, _, _, h => by simpa [VR] using h
  | .nilsl, _, _, _, _, h => by simpa [VR] using h
  | .nili, _, _, _, _, h => by simpa [VR] using h
theorem VRL.mono {φ φ' : FM} (hφ : φ.le φ') : ∀ (a : List AV) {m m' : LM} {v : List Value}, Ext m m' → VRL φ m a v → VRL φ' m' a v
  | [], _, _, _, _, h => by simpa [VRL] using h
  | a :: as, m, m', v, hm, h => by
    simp only [VRL] at h ⊢
    obtain ⟨v, vs, rfl, h1, h2⟩ := h
    exact ⟨v, vs, rfl, VR.mono hφ a hm h1, VRL.mono hφ as hm h2⟩
theorem VRC.mono {φ φ' : FM} (hφ : φ.le φ') : ∀ (a : List AV) {b o : Nat}, VRC φ a b o → VRC φ' a b o
  | [], _, _, _ => by simp [VRC]
  | a :: as, b, o, h => by
    simp only [VRC] at h ⊢
    obtain ⟨⟨h0, u, h1, h2⟩, h3⟩ := h
    exact ⟨⟨h0, u, hφ.cell h1, VR.mono hφ a (Ext.refl _) h2⟩, VRC.mono hφ as h3⟩
theorem VRE.mono {φ φ' : FM} (hφ : φ.le φ') : ∀ (a : List AV) {b o : Nat}, VRE φ a b o → VRE φ' a b o
  | [], _, _, _ => by simp [VRE]
  | e :: es, b, o, h => by
    cases e with
    | agg cs =>
      simp only [VRE] at h ⊢
      exact ⟨VRC.mono hφ cs h.1, VRE.mono hφ es h.2⟩
    | _ =>
      simp only [VRE] at h ⊢
      obtain ⟨⟨h0, u, h1, h2⟩, h3⟩ := h
      exact ⟨⟨h0, u, hφ.cell h1, VR.mono hφ _ (Ext.refl _) h2⟩, VRE.mono hφ es h3⟩
end
end Go.Proofs.Ytfhglldoejeedaa.Am
