import Derived.Test.YtapchldnmkfkoabDoorAmRow
import Derived.ChangeArms
set_option linter.unusedVariables false
set_option linter.unusedSimpArgs false
set_option linter.unusedSectionVars false
namespace Go.Proofs.YtapchldnmkfkoabDoor.Am
open Go Go.RowKit

/-! ## What comes in: typed readings as frozen values -/
inductive Ty where
  | bool
  | int (k : IntKind)
  | str
  | slice (e : Ty)
  | struct (fs : List Ty)

mutual
def Ty.size : Ty → Nat
  | .struct fs => sizeL fs
  | _ => 1
def sizeL : List Ty → Nat
  | [] => 0
  | t :: ts => t.size + sizeL ts
end

def Ty.isS : Ty → Bool
  | .struct _ => true
  | _ => false

/-- An element out of its cells. -/
def elA (E : Ty) (cs : List AV) : AV := if E.isS then .agg cs else cs.headD .any

mutual
/-- The cells that a value of a type may have. -/
def Dom : Ty → List AV → Prop
  | .bool, cs => ∃ b, cs = [.bool b]
  | .int k, cs => ∃ n, cs = [.int k n] ∧ (Lit.int k n).wf = true
  | .str, cs => ∃ s, cs = [.str s] ∧ s.size ≤ maxLen
  | .slice e, cs => ∃ els, cs = [.fsl els] ∧ els.length ≤ maxLen ∧ ∀ x ∈ els, ∃ c, x = elA e c ∧ Dom e c
  | .struct fs, cs => DomL fs cs
def DomL : List Ty → List AV → Prop
  | [], cs => cs = []
  | t :: ts, cs => ∃ a b, cs = a ++ b ∧ Dom t a ∧ DomL ts b
end

mutual
def tyOk (P : Program) : Nat → TypeId → Ty → Bool
  | 0, _, _ => false
  | d + 1, t, T => match P.underlying t, T with
    | some .bool, .bool => true
    | some (.int k), .int k' => decide (k = k')
    | some .string, .str => true
    | some (.slice e), .slice E => tyOk P d e E && decide (P.cellsOf e = E.size) && decide (0 < E.size)
    | some (.struct fs), .struct Ts => fsOk P d fs.toList Ts 0 && decide (P.cellsOf t = sizeL Ts)
    | _, _ => false
def fsOk (P : Program) : Nat → List Field → List Ty → Nat → Bool
  | 0, _, _, _ => false
  | _ + 1, [], [], _ => true
  | d + 1, f :: fs, T :: Ts, off => decide (f.offset = off) && decide (P.cellsOf f.type = T.size) && tyOk P d f.type T && fsOk P d fs Ts (off + T.size)
  | _, _, _, _ => false
end

mutual
theorem dom_one : ∀ {T : Ty} {cs : List AV}, Dom T cs → cs.all AV.one = true ∧ cs.length = T.size
  | .bool, cs, h => by simp only [Dom] at h; obtain ⟨b, rfl⟩ := h; simp [Ty.size]
  | .int k, cs, h => by simp only [Dom] at h; obtain ⟨b, rfl, _⟩ := h; simp [Ty.size]
  | .str, cs, h => by simp only [Dom] at h; obtain ⟨b, rfl, _⟩ := h; simp [Ty.size]
  | .slice e, cs, h => by simp only [Dom] at h; obtain ⟨b, rfl, _⟩ := h; simp [Ty.size]
  | .struct fs, cs, h => by simp only [Dom] at h; simpa only [Ty.size] using domL_one h
theorem domL_one : ∀ {Ts : List Ty} {cs : List AV}, DomL Ts cs → cs.all AV.one = true ∧ cs.length = sizeL Ts
  | [], cs, h => by simp only [DomL] at h; subst h; simp [sizeL]
  | T :: Ts, cs, h => by
    simp only [DomL] at h
    obtain ⟨a, b, rfl, h1, h2⟩ := h
    have k1 := dom_one h1
    have k2 := domL_one h2
    simp only [List.all_append, Bool.and_eq_true, List.length_append, sizeL]
    exact ⟨⟨k1.1, k2.1⟩, by omega⟩
end

theorem elA_cells {E : Ty} {c : List AV} (h : Dom E c) : (elA E c).cells = c := by
  cases E <;> simp only [Dom] at h
  · obtain ⟨b, rfl⟩ := h; rfl
  · obtain ⟨b, rfl, _⟩ := h; rfl
  · obtain ⟨b, rfl, _⟩ := h; rfl
  · obtain ⟨b, rfl, _⟩ := h; rfl
  · rfl

theorem fm_cell (w : World) {hG : GLp fun b => w.heap[b]?} (a : Addr) {v : Value} (h : w.cell? a = some v) : (fmOf w hG).cell a.block a.off = some v ∧ a.spot = none := by
  unfold World.cell? at h
  unfold FM.cell fmOf
  dsimp only
  cases hb : w.heap[a.block]? with
  | none => rw [hb] at h; simp at h
  | some o =>
    rw [hb] at h
    cases o <;> simp at h ⊢
    exact ⟨h.2, by simpa using h.1⟩

theorem vre_of {φ : FM} {E : Ty} {b : Nat} : ∀ (n : Nat) (o : Nat), (∀ i, i < n → ∃ (c : List AV) (vs : List Value), Dom E c ∧ VRL φ LM.none c vs ∧ ∀ (j : Nat) (u : Value), vs[j]? = some u → φ.cell b (o + i * E.size + j) = some u) →
    ∃ els : List AV, els.length = n ∧ (∀ x ∈ els, ∃ c, x = elA E c ∧ Dom E c) ∧ VRE φ els b o
  | 0, o, _ => ⟨[], rfl, by simp, by simp [VRE]⟩
  | n + 1, o, h => by
    obtain ⟨c, vs, h1, h2, h3⟩ := h 0 (by omega)
    obtain ⟨els, k1, k2, k3⟩ := vre_of (φ := φ) (E := E) (b := b) n (o + E.size) fun i hi => by
      obtain ⟨c, vs, g1, g2, g3⟩ := h (i + 1) (by omega)
      refine ⟨c, vs, g1, g2, fun j u hj => ?_⟩
      have := g3 j u hj
      rwa [show o + (i + 1) * E.size + j = o + E.size + i * E.size + j by rw [Nat.add_mul]; omega] at this
    refine ⟨elA E c :: els, by simp [k1], ?_, ?_⟩
    · intro x hx
      rcases List.mem_cons.1 hx with rfl | hx
      · exact ⟨c, rfl, h1⟩
      · exact k2 x hx
    · rw [VRE_cons, elA_cells h1]
      refine ⟨VRC_of h2 (dom_one h1).1 fun j u hj => by have := h3 j u hj; simpa using this, ?_⟩
      rw [(dom_one h1).2]; exact k3

variable {P : Program} {H : Type} {enc : TypeId × Value → H} {w : World} {spare : Nat → Bool} {held : Bool}

theorem mapM_some {α β : Type} {f : α → Option β} : ∀ {l : List α} {r : List β}, l.mapM f = some r → r.length = l.length ∧ ∀ (i : Nat) (a : α), l[i]? = some a → f a = r[i]?
  | [], r, h => by
    simp at h; subst h; simp
  | a :: l, r, h => by
    simp only [List.mapM_cons, Option.bind_eq_bind, Option.bind_eq_some_iff, Option.pure_def, Option.some.injEq] at h
    obtain ⟨b, hb, r', hr, rfl⟩ := h
    obtain ⟨h1, h2⟩ := mapM_some hr
    refine ⟨by simp [h1], fun i x hx => ?_⟩
    cases i with
    | zero => simp at hx; subst hx; simpa using hb
    | succ i => simpa using h2 i x (by simpa using hx)

theorem cells_at {a : Addr} {n : Nat} {vs : List Value} (h : w.cells? 0 a n = some vs) : vs.length = n ∧ ∀ (j : Nat) (u : Value), vs[j]? = some u → w.cell? (a.add j) = some u := by
  unfold World.cells? at h
  simp only [Nat.zero_le, if_true] at h
  obtain ⟨h1, h2⟩ := mapM_some h
  simp only [List.length_range] at h1
  refine ⟨h1, fun j u hj => ?_⟩
  have hlt : j < n := by have := (List.getElem?_eq_some_iff.1 hj).1; omega
  rw [h2 j j (by simp [hlt])]; exact hj

theorem add_blk (a : Addr) (n : Nat) : (a.add n).block = a.block := by unfold Addr.add; split <;> rfl
theorem add_off (a : Addr) (n : Nat) : (a.add n).off = a.off + n := by unfold Addr.add; split <;> simp_all

variable {hG : GLp fun b => w.heap[b]?}
mutual
/-- What is read of a type is such a value. -/
theorem dom_of : ∀ (d : Nat) {t : TypeId} {T : Ty} {fuel : Nat} {cs : List Value} {x : DataW H × List MemPlace}, tyOk P d t T = true → DataW.trod enc P w 0 spare held fuel t cs = some x →
    ∃ avs, Dom T avs ∧ VRL (fmOf w hG) LM.none avs cs
  | 0, t, T, fuel, cs, x, ht, h => by simp [tyOk] at ht
  | d + 1, t, T, fuel, cs, x, ht, h => by
    simp only [tyOk] at ht
    split at ht
    · rename_i hu
      obtain ⟨b, rfl, _⟩ := DataW.trod_bool hu h
      exact ⟨[.bool b], by simp [Dom], by simp [VRL, VR]⟩
    · rename_i k k' hu
      obtain ⟨n, rfl, _, hw⟩ := DataW.trod_int hu h
      simp only [decide_eq_true_eq] at ht
      subst ht
      exact ⟨[.int k n], by simp [Dom, hw], by simp [VRL, VR]⟩
    · rename_i hu
      obtain ⟨s, rfl, _, hs⟩ := DataW.trod_string hu h
      exact ⟨[.str s], by simp [Dom, hs], by simp [VRL, VR]⟩
    · rename_i e E hu
      simp only [Bool.and_eq_true, decide_eq_true_eq] at ht
      obtain ⟨⟨ht, hsz⟩, hpos⟩ := ht
      rcases DataW.trod_slice hu h with ⟨rfl, _⟩ | ⟨a, len, cap, elems, rest, n, _, rfl, _, hb, hl, hm, hlen, hel, _, _⟩
      · exact ⟨[.fsl []], by simp [Dom], by simp [VRL, VR]⟩
      · have each : ∀ i, i < len → ∃ (c : List AV) (vs : List Value), Dom E c ∧ VRL (fmOf w hG) LM.none c vs ∧ vs.length = E.size ∧ ∀ (j : Nat) (u : Value), vs[j]? = some u → w.cell? ((a.add (i * E.size)).add j) = some u := by
          intro i hi
          have h1 := hel i hi
          obtain ⟨y, hy⟩ : ∃ y, elems[i]? = some y := ⟨_, List.getElem?_eq_getElem (by omega)⟩
          rw [hy, hsz] at h1
          simp only [Option.bind_eq_some_iff] at h1
          obtain ⟨vs, hvs, htr⟩ := h1
          obtain ⟨c, hc1, hc2⟩ := dom_of d ht htr
          obtain ⟨k1, k2⟩ := cells_at hvs
          exact ⟨c, vs, hc1, hc2, k1, k2⟩
        obtain ⟨els, k1, k2, k3⟩ := vre_of (φ := fmOf w hG) (E := E) (b := a.block) len a.off fun i hi => by
          obtain ⟨c, vs, g1, g2, _, g3⟩ := each i hi
          refine ⟨c, vs, g1, g2, fun j u hj => ?_⟩
          have := (fm_cell w (hG := hG) _ (g3 j u hj)).1
          rwa [add_blk, add_blk, add_off, add_off] at this
        refine ⟨[.fsl els], by simp only [Dom]; exact ⟨els, rfl, by omega, k2⟩, ?_⟩
        simp only [VRL, VR]
        refine ⟨_, _, rfl, ⟨some a, cap, by rw [k1], by omega, ?_⟩, rfl⟩
        rcases Nat.eq_zero_or_pos len with h0 | h0
        · left; omega
        · right
          obtain ⟨c, vs, g1, g2, g4, g3⟩ := each 0 h0
          have hlt : 0 < vs.length := by omega
          have := (fm_cell w (hG := hG) _ (g3 0 vs[0] (List.getElem?_eq_getElem hlt))).2
          simp only [Nat.zero_mul, Addr.add, if_true] at this
          exact ⟨a.block, a.off, by cases a; simp_all, k3⟩
    · rename_i fs Ts hu
      simp only [Bool.and_eq_true, decide_eq_true_eq] at ht
      obtain ⟨ht, hsz⟩ := ht
      obtain ⟨xs, n, _, _, hlen, hxs, hf⟩ := DataW.trod_struct hu h
      have := doms_of d ht (cs := cs) (fuel := n) (by omega) (fun i f hi => by
        have := hf i f (by simpa using hi)
        have hlt : i < xs.length := by have := (List.getElem?_eq_some_iff.1 hi).1; simp at this; omega
        exact ⟨xs[i], by rw [this, List.getElem?_eq_getElem hlt]⟩)
      obtain ⟨avs, k1, k2⟩ := this
      exact ⟨avs, by simpa only [Dom] using k1, by simpa using k2⟩
    · cases ht
theorem doms_of : ∀ (d : Nat) {fs : List Field} {Ts : List Ty} {off : Nat} {cs : List Value} {fuel : Nat}, fsOk P d fs Ts off = true → cs.length = off + sizeL Ts →
    (∀ (i : Nat) (f : Field), fs[i]? = some f → ∃ x, DataW.trod enc P w 0 spare held fuel f.type ((cs.drop f.offset).take (P.cellsOf f.type)) = some x) → ∃ avs, DomL Ts avs ∧ VRL (fmOf w hG) LM.none avs (cs.drop off)
  | 0, fs, Ts, off, cs, fuel, ht, _, _ => by simp [fsOk] at ht
  | d + 1, [], [], off, cs, fuel, ht, hl, _ => by
    refine ⟨[], by simp [DomL], ?_⟩
    have : cs.drop off = [] := by simp only [sizeL] at hl; exact List.drop_eq_nil_of_le (by omega)
    rw [this]; simp [VRL]
  | d + 1, f :: fs, T :: Ts, off, cs, fuel, ht, hl, hf => by
    simp only [fsOk, Bool.and_eq_true, decide_eq_true_eq] at ht
    obtain ⟨⟨⟨ho, hs⟩, ht⟩, hr⟩ := ht
    obtain ⟨x, hx⟩ := hf 0 f (by simp)
    obtain ⟨a, ha, va⟩ := dom_of d ht hx
    obtain ⟨b, hb, vb⟩ := doms_of d hr (cs := cs) (fuel := fuel) (by simp only [sizeL] at hl; omega) (fun i g hg => hf (i + 1) g (by simpa using hg))
    refine ⟨a ++ b, by simp only [DomL]; exact ⟨a, b, rfl, ha, hb⟩, ?_⟩
    have e : cs.drop off = (cs.drop off).take T.size ++ cs.drop (off + T.size) := by rw [← List.drop_drop, List.take_append_drop]
    rw [ho, hs] at va
    rw [e]
    exact VRL_append va vb
  | d + 1, [], T :: Ts, off, cs, fuel, ht, _, _ => by simp [fsOk] at ht
  | d + 1, f :: fs, [], off, cs, fuel, ht, _, _ => by simp [fsOk] at ht
end

/-- An argument as the abstract machine has it. -/
theorem arg_of {d base : Nat} {t : TypeId} {T : Ty} {fuel : Nat} {v : Value} {x : DataW H × List MemPlace} {r : Reach} (ht : tyOk P d t T = true) (hval : Value.okWide P w r base t v)
    (h : DataW.trod enc P w 0 spare held fuel t v.cells.toList = some x) : ∃ avs, Dom T avs ∧ VR (fmOf w hG) LM.none (elA T avs) v := by
  obtain ⟨avs, h1, h2⟩ := dom_of (hG := hG) d ht h
  refine ⟨avs, h1, ?_⟩
  cases d with
  | zero => simp [tyOk] at ht
  | succ d =>
    simp only [tyOk] at ht
    unfold Value.okWide at hval
    split at ht
    · rename_i hu
      rw [hu] at hval
      simp only [Dom] at h1
      obtain ⟨b, rfl⟩ := h1
      cases v <;> simp_all [Cell.okWide, Cell.ok, Value.cells, elA, Ty.isS, VRL, VR]
    · rename_i k k' hu
      rw [hu] at hval
      simp only [Dom] at h1
      obtain ⟨b, rfl, _⟩ := h1
      cases v <;> simp_all [Cell.okWide, Cell.ok, Value.cells, elA, Ty.isS, VRL, VR]
    · rename_i hu
      rw [hu] at hval
      simp only [Dom] at h1
      obtain ⟨b, rfl, _⟩ := h1
      cases v <;> simp_all [Cell.okWide, Cell.ok, Value.cells, elA, Ty.isS, VRL, VR]
    · rename_i e E hu
      rw [hu] at hval
      simp only [Dom] at h1
      obtain ⟨b, rfl, _⟩ := h1
      cases v <;> simp_all [Cell.okWide, Cell.ok, Value.cells, elA, Ty.isS, VRL, VR]
    · rename_i fs Ts hu
      rw [hu] at hval
      obtain ⟨cs, rfl, _⟩ := hval
      simp only [elA, Ty.isS, if_true, VR]
      exact ⟨(dom_one h1).1, cs, rfl, by simpa [Value.cells] using h2⟩
    · cases ht
end Go.Proofs.YtapchldnmkfkoabDoor.Am
