import Derived.Test.YtapchldnmkfkoabDoorAmMe
import Derived.Test.YtapchldnmkfkoabDoorAmArg
set_option linter.unusedVariables false
set_option linter.unusedSimpArgs false
set_option linter.unusedSectionVars false
namespace Go.Proofs.YtapchldnmkfkoabDoor.Am
open Go Go.RowKit

/-! ## Rows: from a contract to a law's call -/
theorem calls_ok {P : Program} {f : FuncId} {x : List AV → List Ob → Option (AV × List Ob)} (hx : Sound P f x) {args : List AV} {cargs : Array Value} {b : Bool} {W : World} {hG : GLp fun b => W.heap[b]?}
    (h : x args [] = some (.bool b, [])) (hv : VRL (fmOf W hG) LM.none args cargs.toList) : Calls P f cargs W fun e W' => e = .returned (.bool b) ∧ Below W.heap.size W W' := by
  obtain ⟨_, hc⟩ := hx args [] _ _ h
  refine (hc (fmOf W hG) LM.none W cargs hv (inv0 W) fun _ _ => rfl).mono fun e W' ⟨cv, he, φ', m', h1, _, h3, _⟩ => ?_
  simp only [VR] at h1
  subst h1
  refine ⟨he, h3.os, h3.tape, h3.output, h3.size, fun k hk => h3.old k hk ?_⟩
  rintro ⟨id, ob, l, h, _⟩
  exact absurd h (by simp)

/-- A number of its kind. -/
def okN (k : IntKind) (n : Int) : Prop := (Lit.int k n).wf = true
theorem okN_i64 {n : Int} (h : okN .i64 n) : -9223372036854775808 ≤ n ∧ n ≤ 9223372036854775807 := by
  simpa [okN, Lit.wf, IntKind.min, IntKind.max, IntKind.signed, IntKind.bits] using h
theorem okN_u8 {n : Int} (h : okN .u8 n) : 0 ≤ n ∧ n ≤ 255 := by
  simpa [okN, Lit.wf, IntKind.min, IntKind.max, IntKind.signed, IntKind.bits] using h
def okL {α : Type} (p : α → Prop) (l : List α) : Prop := l.length ≤ maxLen ∧ ∀ x ∈ l, p x

/-- Every value of a type is one of this form. -/
structure Dm {α : Type} (T : Ty) (e : α → AV) (p : α → Prop) : Prop where
  h : ∀ cs, Dom T cs → ∃ x, elA T cs = e x ∧ p x
theorem dm_int {k : IntKind} : Dm (.int k) (AV.int k) (okN k) := ⟨fun cs h => by
  simp only [Dom] at h; obtain ⟨n, rfl, hn⟩ := h; exact ⟨n, rfl, hn⟩⟩
theorem dm_bool : Dm .bool AV.bool (fun _ => True) := ⟨fun cs h => by
  simp only [Dom] at h; obtain ⟨n, rfl⟩ := h; exact ⟨n, rfl, trivial⟩⟩
theorem bs_toList (s : ByteArray) : bs s.data.toList = s := by
  cases s with
  | mk a => simp [bs]
theorem dm_str : Dm .str eS (fun s => s.length ≤ maxLen) := ⟨fun cs h => by
  simp only [Dom] at h; obtain ⟨s, rfl, hs⟩ := h
  exact ⟨s.data.toList, (by rw [eS, bs_toList]; rfl), by
    have : s.data.toList.length = s.size := by cases s with | mk a => exact Array.length_toList
    rw [this]; exact hs⟩⟩
theorem dm_sl {α : Type} {T : Ty} {e : α → AV} {p : α → Prop} (d : Dm T e p) : Dm (.slice T) (eSl e) (okL p) := ⟨fun cs h => by
  simp only [Dom] at h
  obtain ⟨els, rfl, hl, he⟩ := h
  have key : ∀ els : List AV, (∀ x ∈ els, ∃ c, x = elA T c ∧ Dom T c) → ∃ l : List α, els = l.map e ∧ ∀ x ∈ l, p x := by
    intro els
    induction els with
    | nil => intro _; exact ⟨[], rfl, by simp⟩
    | cons x els ih =>
      intro h
      obtain ⟨c, rfl, hc⟩ := h x (by simp)
      obtain ⟨y, h1, h2⟩ := d.h c hc
      obtain ⟨l, h3, h4⟩ := ih fun x hx => h x (by simp [hx])
      refine ⟨y :: l, by simp [h1, h3], ?_⟩
      intro z hz
      rcases List.mem_cons.1 hz with rfl | hz
      · exact h2
      · exact h4 z hz
  obtain ⟨l, h1, h2⟩ := key els he
  subst h1
  exact ⟨l, rfl, by simpa using hl, h2⟩⟩
/-- The cells of a field. -/
theorem Dm.c {α : Type} {T : Ty} {e : α → AV} {p : α → Prop} (d : Dm T e p) {cs : List AV} (h : Dom T cs) : ∃ x, cs = (e x).cells ∧ p x := by
  obtain ⟨x, h1, h2⟩ := d.h cs h
  exact ⟨x, by rw [← h1, elA_cells h], h2⟩
end Go.Proofs.YtapchldnmkfkoabDoor.Am
