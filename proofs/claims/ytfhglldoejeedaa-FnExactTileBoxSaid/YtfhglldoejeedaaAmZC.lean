import Derived.Test.YtfhglldoejeedaaAmZB
namespace Go.Proofs.Ytfhglldoejeedaa.Am
open Go

variable {P : Program}

def WT (rs : List Rec) (k : Nat) (t : Nat) : Option AV := match rs[k]? with
  | some r => if r.o.dst = some t then some r.e.v else none
  | none => none
def WG (rs : List Rec) (k : Nat) (x : Nat) : Option (Option Ob) := match rs[k]? with
  | some r => (lkp r.e.wr x).map some
  | none => none

theorem WT_at {rs : List Rec} {i : Nat} {r : Rec} {tm0 : Nat → AV} {t : Nat} (hr : rs[i]? = some r) (h : Fw (fun _ => true) (WT rs) tm0 i t = lk r.s.tm t) :
    Fw (fun _ => true) (WT rs) tm0 (i + 1) t = lk (aft r.s r.o r.e).tm t := by
  simp only [Fw, if_true, WT, hr, h, aft, lk_putT]
  cases r.o.dst with
  | none => simp
  | some d => by_cases e : d = t <;> simp [e]

theorem WG_at {rs : List Rec} {i : Nat} {r : Rec} {g0 : Nat → Option Ob} {x : Nat} (hr : rs[i]? = some r) (h : Fw (fun _ => true) (WG rs) g0 i x = lkp r.s.hp x) :
    Fw (fun _ => true) (WG rs) g0 (i + 1) x = lkp (aft r.s r.o r.e).hp x := by
  simp only [Fw, if_true, WG, hr, h, aft, lkp_append]
  cases lkp r.e.wr x <;> rfl

section
variable {cl : Cl} {E : FuncId → Md} {ops : Array Oper} {s s' : St} {rs : List Rec}

theorem states (h : dr P cl E ops ops.toList s = some (s', rs)) : ∀ (i : Nat) (r : Rec), rs[i]? = some r →
    (∀ t, Fw (fun _ => true) (WT rs) (lk s.tm) i t = lk r.s.tm t) ∧ (∀ x, Fw (fun _ => true) (WG rs) (lkp s.hp) i x = lkp r.s.hp x) := by
  obtain ⟨h1, h2, h3, h4⟩ := dr_recs h
  intro i
  induction i with
  | zero =>
    intro r hr
    have := h3 r hr
    exact ⟨fun t => by rw [this]; rfl, fun x => by rw [this]; rfl⟩
  | succ i ih =>
    intro r hr
    have hi : i < rs.length := by have := (List.getElem?_eq_some_iff.1 hr).1; omega
    have hri : rs[i]? = some rs[i] := List.getElem?_eq_getElem hi
    obtain ⟨a1, a2⟩ := ih _ hri
    have := (h2 i _ hri).2.2.2 r hr
    exact ⟨fun t => by rw [WT_at hri (a1 t), this], fun x => by rw [WG_at hri (a2 x), this]⟩

theorem last_state (h : dr P cl E ops ops.toList s = some (s', rs)) : (∀ t, Fw (fun _ => true) (WT rs) (lk s.tm) ops.size t = lk s'.tm t) ∧ (∀ x, Fw (fun _ => true) (WG rs) (lkp s.hp) ops.size x = lkp s'.hp x) := by
  obtain ⟨h1, h2, h3, h4⟩ := dr_recs h
  have hs : ops.size = rs.length := by rw [h1]; simp
  rw [hs]
  cases hl : rs.length with
  | zero =>
    have : rs = [] := List.eq_nil_of_length_eq_zero hl
    have := h4 this
    rw [this]
    exact ⟨fun t => rfl, fun x => rfl⟩
  | succ k =>
    have hk : k < rs.length := by omega
    have hr : rs[k]? = some rs[k] := List.getElem?_eq_getElem hk
    obtain ⟨a1, a2⟩ := states h k _ hr
    have := (h2 k _ hr).2.2.1 (List.getElem?_eq_none (by omega))
    exact ⟨fun t => by rw [WT_at hr (a1 t), this], fun x => by rw [WG_at hr (a2 x), this]⟩

theorem nx_mono (h : dr P cl E ops ops.toList s = some (s', rs)) : ∀ (i k : Nat) (r r' : Rec), rs[i]? = some r → rs[k]? = some r' → i < k → r.e.nx ≤ r'.s.nx := by
  obtain ⟨h1, h2, h3, h4⟩ := dr_recs h
  intro i k
  induction k with
  | zero => intro r r' _ _ h; omega
  | succ k ih =>
    intro r r' hr hr' hik
    have hk : k < rs.length := by have := (List.getElem?_eq_some_iff.1 hr').1; omega
    have hrk : rs[k]? = some rs[k] := List.getElem?_eq_getElem hk
    have e1 := (h2 k _ hrk).2.2.2 r' hr'
    have e2 := stpE_nx (h2 k _ hrk).2.1
    rw [e1]
    show r.e.nx ≤ (rs[k]).e.nx
    by_cases e : i = k
    · subst e; rw [hr] at hrk; cases hrk; exact Nat.le_refl _
    · exact Nat.le_trans (ih r _ hr hrk (by omega)) e2

theorem nx_last (h : dr P cl E ops ops.toList s = some (s', rs)) : ∀ (i : Nat) (r : Rec), rs[i]? = some r → r.e.nx ≤ s'.nx := by
  obtain ⟨h1, h2, h3, h4⟩ := dr_recs h
  intro i r hr
  have hl : 0 < rs.length := by have := (List.getElem?_eq_some_iff.1 hr).1; omega
  have hk : rs.length - 1 < rs.length := by omega
  have hrk : rs[rs.length - 1]? = some rs[rs.length - 1] := List.getElem?_eq_getElem hk
  have e1 := (h2 _ _ hrk).2.2.1 (List.getElem?_eq_none (by omega))
  rw [e1]
  show r.e.nx ≤ (rs[rs.length - 1]).e.nx
  by_cases e : i = rs.length - 1
  · subst e; rw [hr] at hrk; cases hrk; exact Nat.le_refl _
  · have hlt := (List.getElem?_eq_some_iff.1 hr).1
    exact Nat.le_trans (nx_mono h i _ r _ hr hrk (by omega)) (stpE_nx (h2 _ _ hrk).2.1)

/-- Down to what stands ahead. -/
theorem pre_closed {pr : List (List Nat)} (hp : preOk ops.toList pr = true) {L : Nat → Bool} (hcl : ∀ (i : Nat) (o : Oper), L i = true → ops[i]? = some o → ∀ k ∈ dirs o, L k = true) :
    ∀ (b i : Nat) (o : Oper), i < b → ops[i]? = some o → (∀ k ∈ dirs o, L k = true) → ∀ k, isPre pr k i = true → L k = true
  | 0, i, _, h, _, _, _, _ => by omega
  | b + 1, i, o, hb, ho, hd, k, hk => by
    have hi : i < ops.size := (Array.getElem?_eq_some_iff.1 ho).1
    have := (List.all_eq_true.1 hp) i (by simpa using hi)
    have ho' : ops.toList[i]? = some o := by simpa using ho
    rw [ho'] at this
    simp only [Bool.and_eq_true] at this
    obtain ⟨q1, q2⟩ := this
    have hk' : k ∈ pr.getD i [] := by unfold isPre at hk; simpa using hk
    have := (List.all_eq_true.1 q2) k hk'
    simp only [Bool.or_eq_true, List.any_eq_true] at this
    rcases this with h | ⟨d, hd1, hd2⟩
    · exact hd k (by simpa using h)
    · have hdl := hd d hd1
      have hlt : d < i := by simpa using (List.all_eq_true.1 q1) d hd1
      have hdo : ops[d]? = some ops[d] := Array.getElem?_eq_getElem (by omega)
      exact pre_closed hp hcl b d _ (by omega) hdo (fun k hk => hcl d _ hdl hdo k hk) k hd2

theorem slots_at {pr : List (List Nat)} (h : slotsOk ops pr = true) {k i : Nat} {x y : Oper} (hki : k < i) (hx : ops[k]? = some x) (hy : ops[i]? = some y) : isPre pr k i = true ∨ apart ops x y = true := by
  have hi : i < ops.size := (Array.getElem?_eq_some_iff.1 hy).1
  have := (List.all_eq_true.1 h) i (by simpa using hi)
  have := (List.all_eq_true.1 this) k (by simpa using hki)
  rw [hx, hy] at this
  simpa using this

theorem heap_at {pr : List (List Nat)} {l : List (List Nat × List Nat)} (h : heapOk pr l = true) {k i : Nat} {x y : List Nat × List Nat} (hki : k < i) (hx : l[k]? = some x) (hy : l[i]? = some y) :
    isPre pr k i = true ∨ apartH x y = true := by
  have hi : i < l.length := (List.getElem?_eq_some_iff.1 hy).1
  have := (List.all_eq_true.1 h) i (by simpa using hi)
  have := (List.all_eq_true.1 this) k (by simpa using hki)
  rw [hx, hy] at this
  simpa using this

theorem apart_spec {x y : Oper} (h : apart ops x y = true) : (∀ d, x.dst = some d → d ∉ y.looksAt ops) ∧ (∀ d, y.dst = some d → d ∉ x.looksAt ops) ∧ (∀ d, x.dst = some d → y.dst ≠ some d) := by
  simp only [apart, Bool.and_eq_true, Bool.not_eq_true'] at h
  obtain ⟨⟨h1, h2⟩, h3⟩ := h
  refine ⟨fun d hd hm => ?_, fun d hd hm => ?_, fun d hd hm => ?_⟩
  · rw [hd] at h1; simp [lkd] at h1; exact h1 hm
  · rw [hd] at h2; simp [lkd] at h2; exact h2 hm
  · rw [hd, hm] at h3; simp at h3

theorem disj_spec {a b : List Nat} (h : disj a b = true) {x : Nat} (ha : x ∈ a) : x ∉ b := by
  have := (List.all_eq_true.1 h) x ha
  simpa using this

theorem lkp_mem {l : Hp} {x : Nat} : lkp l x ≠ none ↔ x ∈ l.map (·.1) := by
  induction l with
  | nil => simp [lkp]
  | cons a l ih =>
    obtain ⟨i, o⟩ := a
    simp only [lkp, List.map_cons, List.mem_cons]
    by_cases e : i = x
    · simp [e]
    · have : ¬ (x = i) := fun h => e h.symm
      simp [e, this, ih]
end
end Go.Proofs.Ytfhglldoejeedaa.Am
