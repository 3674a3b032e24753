import Derived.Test.YtfhglldoejeedaaAmB
namespace Go.Proofs.Ytfhglldoejeedaa.Am
open Go

theorem VRE_cons {φ : FM} {e : AV} {es : List AV} {b o : Nat} : VRE φ (e :: es) b o ↔ VRC φ e.cells b o ∧ VRE φ es b (o + e.cells.length) := by
  cases e <;> simp [VRE, VRC, AV.cells]

theorem VRE_get {φ : FM} {n : Nat} : ∀ {es : List AV} {b o : Nat}, VRE φ es b o → (∀ e ∈ es, e.cells.length = n) → ∀ {i : Nat} {e : AV}, es[i]? = some e → VRC φ e.cells b (o + i * n)
  | [], _, _, _, _, i, _, he => by simp at he
  | x :: xs, b, o, h, hw, i, e, he => by
    rw [VRE_cons] at h
    cases i with
    | zero => simp at he; subst he; simpa using h.1
    | succ i =>
      have := VRE_get h.2 (fun e he => hw e (by simp [he])) (i := i) (e := e) (by simpa using he)
      rw [hw x (by simp)] at this
      have e1 : o + n + i * n = o + (i + 1) * n := by rw [Nat.add_mul]; omega
      rwa [e1] at this

theorem VRE_drop {φ : FM} {n : Nat} : ∀ {es : List AV} {b o : Nat}, VRE φ es b o → (∀ e ∈ es, e.cells.length = n) → ∀ (k : Nat), VRE φ (es.drop k) b (o + k * n)
  | [], _, _, _, _, k => by simp [VRE]
  | x :: xs, b, o, h, hw, 0 => by simpa using h
  | x :: xs, b, o, h, hw, k + 1 => by
    rw [VRE_cons] at h
    have := VRE_drop h.2 (fun e he => hw e (by simp [he])) k
    rw [hw x (by simp)] at this
    have e1 : o + n + k * n = o + (k + 1) * n := by rw [Nat.add_mul]; omega
    rw [e1] at this
    simpa using this

theorem VRE_take {φ : FM} : ∀ {es : List AV} {b o : Nat}, VRE φ es b o → ∀ (k : Nat), VRE φ (es.take k) b o
  | [], _, _, _, k => by simp [VRE]
  | x :: xs, b, o, h, 0 => by simp [VRE]
  | x :: xs, b, o, h, k + 1 => by
    rw [VRE_cons] at h
    simp only [List.take_succ_cons, VRE_cons]
    exact ⟨h.1, VRE_take h.2 k⟩

theorem VRL_len {φ : FM} {m : LM} : ∀ {cs : List AV} {vs : List Value}, VRL φ m cs vs → vs.length = cs.length
  | [], _, h => by simp [VRL] at h; simp [h]
  | c :: cs, vs, h => by
    simp only [VRL] at h
    obtain ⟨v, vs, rfl, _, h⟩ := h
    simp [VRL_len h]

theorem VRL_get {φ : FM} {m : LM} : ∀ {cs : List AV} {vs : List Value}, VRL φ m cs vs → ∀ {i : Nat} {c : AV}, cs[i]? = some c → ∃ v, vs[i]? = some v ∧ VR φ m c v
  | [], _, h, i, c, hc => by simp at hc
  | x :: cs, vs, h, i, c, hc => by
    simp only [VRL] at h
    obtain ⟨v, vs, rfl, h1, h2⟩ := h
    cases i with
    | zero => simp at hc; subst hc; exact ⟨v, by simp, h1⟩
    | succ i =>
      obtain ⟨u, e, hu⟩ := VRL_get h2 (i := i) (c := c) (by simpa using hc)
      exact ⟨u, by simpa using e, hu⟩

theorem VRL_drop {φ : FM} {m : LM} : ∀ {cs : List AV} {vs : List Value}, VRL φ m cs vs → ∀ k, VRL φ m (cs.drop k) (vs.drop k)
  | [], vs, h, k => by simp [VRL] at h; simp [h, VRL]
  | x :: cs, vs, h, 0 => by simpa using h
  | x :: cs, vs, h, k + 1 => by
    simp only [VRL] at h
    obtain ⟨v, vs, rfl, h1, h2⟩ := h
    simpa using VRL_drop h2 k

theorem VRL_take {φ : FM} {m : LM} : ∀ {cs : List AV} {vs : List Value}, VRL φ m cs vs → ∀ k, VRL φ m (cs.take k) (vs.take k)
  | [], vs, h, k => by simp [VRL] at h; simp [h, VRL]
  | x :: cs, vs, h, 0 => by simp [VRL]
  | x :: cs, vs, h, k + 1 => by
    simp only [VRL] at h
    obtain ⟨v, vs, rfl, h1, h2⟩ := h
    simp only [List.take_succ_cons, VRL]
    exact ⟨v, _, rfl, h1, VRL_take h2 k⟩

theorem VRL_append {φ : FM} {m : LM} : ∀ {cs ds : List AV} {vs us : List Value}, VRL φ m cs vs → VRL φ m ds us → VRL φ m (cs ++ ds) (vs ++ us)
  | [], _, vs, _, h, k => by simp [VRL] at h; simpa [h] using k
  | x :: cs, ds, vs, us, h, k => by
    simp only [VRL] at h
    obtain ⟨v, vs, rfl, h1, h2⟩ := h
    simp only [List.cons_append, VRL]
    exact ⟨v, _, rfl, h1, VRL_append h2 k⟩

theorem VRL_split {φ : FM} {m : LM} : ∀ {cs ds : List AV} {vs : List Value}, VRL φ m (cs ++ ds) vs → ∃ v1 v2, vs = v1 ++ v2 ∧ VRL φ m cs v1 ∧ VRL φ m ds v2
  | [], ds, vs, h => ⟨[], vs, rfl, by simp [VRL], by simpa using h⟩
  | x :: cs, ds, vs, h => by
    simp only [List.cons_append, VRL] at h
    obtain ⟨v, vs, rfl, h1, h2⟩ := h
    obtain ⟨v1, v2, rfl, k1, k2⟩ := VRL_split h2
    exact ⟨v :: v1, v2, rfl, by simp only [VRL]; exact ⟨v, v1, rfl, h1, k1⟩, k2⟩

theorem VRL_of {φ : FM} {m : LM} : ∀ {cs : List AV} {vs : List Value}, vs.length = cs.length → (∀ (i : Nat) (c : AV) (v : Value), cs[i]? = some c → vs[i]? = some v → VR φ m c v) → VRL φ m cs vs
  | [], vs, h, _ => by simp [VRL]; simpa using h
  | c :: cs, [], h, _ => by simp at h
  | c :: cs, v :: vs, h, k => by
    simp only [VRL]
    exact ⟨v, vs, rfl, k 0 c v (by simp) (by simp), VRL_of (by simpa using h) (fun i c' v' h1 h2 => k (i + 1) c' v' (by simpa using h1) (by simpa using h2))⟩

theorem VRL_set {φ : FM} {m : LM} {cs : List AV} {vs : List Value} (h : VRL φ m cs vs) (i : Nat) {c : AV} {v : Value} (hv : VR φ m c v) : VRL φ m (cs.set i c) (vs.set i v) := by
  refine VRL_of (by simp [VRL_len h]) fun j c' v' h1 h2 => ?_
  rw [List.getElem?_set] at h1 h2
  by_cases e : i = j
  · subst e
    by_cases l : i < cs.length
    · have l' : i < vs.length := by rw [VRL_len h]; exact l
      simp [l] at h1; simp [l'] at h2; subst h1; subst h2; exact hv
    · have l' : ¬ i < vs.length := by rw [VRL_len h]; exact l
      simp [l] at h1
  · simp [e] at h1 h2
    obtain ⟨u, hu, hr⟩ := VRL_get h h1
    rw [hu] at h2; cases h2; exact hr

theorem VRL_spl {φ : FM} {m : LM} {cs new : List AV} {vs nv : List Value} (h : VRL φ m cs vs) (hn : VRL φ m new nv) (off : Nat) :
    VRL φ m (spl cs off new) (vs.take off ++ nv ++ vs.drop (off + nv.length)) := by
  unfold spl
  rw [VRL_len hn]
  exact VRL_append (VRL_append (VRL_take h _) hn) (VRL_drop h _)

theorem VRC_iff {φ : FM} : ∀ {cs : List AV} {b o : Nat}, VRC φ cs b o ↔ ∀ i c, cs[i]? = some c → c.one = true ∧ ∃ u, φ.cell b (o + i) = some u ∧ VR φ LM.none c u
  | [], b, o => by simp [VRC]
  | c :: cs, b, o => by
    simp only [VRC, VRC_iff (cs := cs)]
    constructor
    · rintro ⟨h1, h2⟩ i c' hc
      cases i with
      | zero => simp at hc; subst hc; simpa using h1
      | succ i =>
        have := h2 i c' (by simpa using hc)
        rwa [show o + 1 + i = o + (i + 1) by omega] at this
    · intro h
      refine ⟨by simpa using h 0 c (by simp), fun i c' hc => ?_⟩
      have := h (i + 1) c' (by simpa using hc)
      rwa [show o + (i + 1) = o + 1 + i by omega] at this

theorem VRC_vals {φ : FM} : ∀ {cs : List AV} {b o : Nat}, VRC φ cs b o → ∃ vs : List Value, VRL φ LM.none cs vs ∧ ∀ (j : Nat) (v : Value), vs[j]? = some v → φ.cell b (o + j) = some v
  | [], _, _, _ => ⟨[], by simp [VRL], by simp⟩
  | c :: cs, b, o, h => by
    simp only [VRC] at h
    obtain ⟨⟨_, u, h1, h2⟩, h3⟩ := h
    obtain ⟨vs, k1, k2⟩ := VRC_vals h3
    refine ⟨u :: vs, by simp only [VRL]; exact ⟨u, vs, rfl, h2, k1⟩, fun j v hj => ?_⟩
    cases j with
    | zero => simp at hj; subst hj; simpa using h1
    | succ j =>
      have := k2 j v (by simpa using hj)
      rwa [show o + 1 + j = o + (j + 1) by omega] at this

theorem one_of {φ : FM} {m : LM} {a : AV} {v : Value} (h : VR φ m a v) (h1 : a.one = true) : v.oneCell' = true := by
  cases a with
  | any => simp [AV.one] at h1
  | agg cs => simp [AV.one] at h1
  | tup cs => simp [AV.one] at h1
  | fsl els => simp only [VR] at h; obtain ⟨_, _, rfl, _⟩ := h; rfl
  | fptr cs off => simp only [VR] at h; obtain ⟨_, _, rfl, _⟩ := h; rfl
  | osl => simp only [VR] at h; exact h.1
  | optr => simp only [VR] at h; exact h.1
  | eptr => simp only [VR] at h; exact h.1
  | func => simp only [VR] at h; obtain ⟨_, _, rfl, _⟩ := h; rfl
  | nilsl => simp only [VR] at h; obtain ⟨_, rfl⟩ := h; rfl
  | _ => simp only [VR] at h; subst h; rfl

theorem VRL_one {φ : FM} {m : LM} : ∀ {cs : List AV} {vs : List Value}, VRL φ m cs vs → cs.all AV.one = true → ∀ v ∈ vs, v.oneCell' = true
  | [], vs, h, _ => by simp [VRL] at h; simp [h]
  | c :: cs, vs, h, h1 => by
    simp only [VRL] at h
    obtain ⟨v, vs, rfl, k1, k2⟩ := h
    simp only [List.all_cons, Bool.and_eq_true] at h1
    intro x hx
    simp only [List.mem_cons] at hx
    rcases hx with rfl | hx
    · exact one_of k1 h1.1
    · exact VRL_one k2 h1.2 x hx

/-- The cells of a value: of an aggregate its parts. -/
theorem VR_cells {φ : FM} {m : LM} {a : AV} {v : Value} (h : VR φ m a v) (h1 : a.cells.all AV.one = true) : VRL φ m a.cells v.cells.toList := by
  cases a with
  | agg cs =>
    simp only [VR] at h
    obtain ⟨_, a, rfl, h2⟩ := h
    simpa [AV.cells, Value.cells] using h2
  | any => simp [AV.cells, AV.one] at h1
  | tup cs => simp [AV.cells, AV.one] at h1
  | _ =>
    have ho := one_of h (by simp [AV.one])
    have : v.cells = #[v] := by cases v <;> simp_all [Value.cells, Value.oneCell']
    rw [this]
    simp only [AV.cells, VRL]
    exact ⟨v, [], rfl, h, rfl⟩

mutual
theorem ofV_VR (φ : FM) (m : LM) : ∀ v : Value, VR φ m (ofV v) v
  | .bool b => by simp [ofV, VR]
  | .int k n => by simp [ofV, VR]
  | .string s => by simp [ofV, VR]
  | .pointer none => by simp [ofV, VR]
  | .pointer (some _) => by simp [ofV, VR]
  | .slice a l c => by
    unfold ofV; split <;> simp_all [VR]
  | .nilFunc => by simp [ofV, VR]
  | .nilIface => by simp [ofV, VR]
  | .agg ⟨cs⟩ => by
    simp only [ofV]
    split
    · rename_i h
      simp only [VR]
      exact ⟨h, _, rfl, ofVL_VR φ m cs⟩
    · simp [VR]
  | .tuple ⟨cs⟩ => by
    simp only [ofV, VR]
    exact ⟨_, rfl, ofVL_VR φ m cs⟩
  | .func fn ⟨[]⟩ ⟨[]⟩ => by simp [ofV, VR, VRL]
  | .func fn ⟨_ :: _⟩ _ => by simp [ofV, VR]
  | .func fn _ ⟨_ :: _⟩ => by unfold ofV; split <;> simp_all [VR]
  | .float _ _ => by simp [ofV, VR]
  | .complex _ _ _ => by simp [ofV, VR]
  | .map _ => by simp [ofV, VR]
  | .chan _ => by simp [ofV, VR]
  | .iface _ _ => by simp [ofV, VR]
theorem ofVL_VR (φ : FM) (m : LM) : ∀ vs : List Value, VRL φ m (ofVL vs) vs
  | [] => by simp [ofVL, VRL]
  | v :: vs => by
    simp only [ofVL, VRL]
    exact ⟨v, vs, rfl, ofV_VR φ m v, ofVL_VR φ m vs⟩
end
end Go.Proofs.Ytfhglldoejeedaa.Am
