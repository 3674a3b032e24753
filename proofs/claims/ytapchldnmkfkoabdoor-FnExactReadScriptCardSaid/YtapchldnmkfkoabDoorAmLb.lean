import Derived.Test.YtapchldnmkfkoabDoorAmIn
import Derived.Shelf.Strings.Split
import Derived.Shelf.Strings.Prefix
import Derived.Shelf.Small.Strs
import Derived.Shelf.Strconv.Itoa3
set_option linter.unusedVariables false
set_option linter.unusedSimpArgs false
set_option linter.unusedSectionVars false
namespace Go.Proofs.YtapchldnmkfkoabDoor.Am
open Go Go.Shelf Go.Proofs
/-! ## Functions of Go's library, by the kit's contracts -/
@[simp] theorem ba_mk (l : List UInt8) : ByteArray.mk (List.toArray l) = bs l := rfl
@[simp] theorem cvO_one {z r id nx} {a : Int} : cvO (some (.arr z [AV.int .u8 a] r)) id 0 1 1 nx = some ⟨.str (bs (toBs [a])), [id], [], nx⟩ := cvO_map (l := [a])
def splL (s sep : List UInt8) : List (List UInt8) := Lib.split s sep
def trmL (s p : List UInt8) : List UInt8 := Lib.trimSuffix s p
def ixbL (s : List UInt8) (c : Int) : Int := Lib.indexByte s c.toNat.toUInt8
def itoL (n : Int) : List UInt8 := Lib.itoa n
section
variable {P : Program}
theorem callok_of {f : FuncId} {args : List AV} {v : AV}
    (h : ∀ (φ : FM) (m : LM) (w : World) (cargs : Array Value), VRL φ m args cargs.toList → (∀ b o, φ b = some o → w.heap[b]? = some o) →
      Calls P f cargs w fun e w' => ∃ cv, e = .returned cv ∧ (w'.os = w.os ∧ w'.tape = w.tape ∧ w'.output = w.output ∧ w.heap.size ≤ w'.heap.size ∧ ∀ b, b < w.heap.size → w'.heap[b]? = w.heap[b]?) ∧
        ∃ φ' : FM, φ.le φ' ∧ (∀ b o, φ' b = some o → w'.heap[b]? = some o) ∧ (∀ b o, φ' b = some o → φ b = some o ∨ w.heap.size ≤ b) ∧ VR φ' LM.none v cv) : CallOK P f args [] v [] := by
  intro φ m w cargs hv hi hn
  refine (h φ m w cargs hv hi.fz).mono ?_
  rintro e w' ⟨cv, rfl, ⟨h1, h2, h3, h4, h5⟩, φ', k1, k2, k3, k4⟩
  refine ⟨cv, rfl, φ', m, VR.mono (FM.le_refl _) _ (Ext.none _) k4, ⟨k2, fun i ob h => by simp at h, fun i i' ob ob' l l' b h => by simp at h⟩, ⟨k1, Ext.refl _, h1, h2, h3, h4, fun b hb _ => h5 b hb, fun b o h => (k3 b o h).imp id .inl, ?_⟩, hn, Nat.le_refl _⟩
  rintro b ⟨i, ob, l, h, _⟩
  simp at h
theorem callok_same {f : FuncId} {args : List AV} {v : AV}
    (h : ∀ (φ : FM) (m : LM) (w : World) (cargs : Array Value), VRL φ m args cargs.toList → (∀ b o, φ b = some o → w.heap[b]? = some o) →
      Calls P f cargs w fun e w' => ∃ cv, e = .returned cv ∧ w' = w ∧ VR φ LM.none v cv) : CallOK P f args [] v [] :=
  callok_of fun φ m w cargs hv hf => (h φ m w cargs hv hf).mono fun e w' ⟨cv, h1, h2, h3⟩ => ⟨cv, h1, by subst h2; exact ⟨rfl, rfl, rfl, Nat.le_refl _, fun _ _ => rfl⟩, φ, FM.le_refl _, by subst h2; exact hf, fun _ _ h => .inl h, h3⟩
theorem bs_data (l : List UInt8) : (bs l).data.toList = l := rfl
theorem vrl2 {φ : FM} {m : LM} {a b : AV} {c : Array Value} (h : VRL φ m [a, b] c.toList) : ∃ x y, c = #[x, y] ∧ VR φ m a x ∧ VR φ m b y := by
  simp only [VRL] at h
  obtain ⟨x, _, h1, h2, y, _, rfl, h3, rfl⟩ := h
  exact ⟨x, y, by cases c; simp_all, h2, h3⟩
theorem vrl1 {φ : FM} {m : LM} {a : AV} {c : Array Value} (h : VRL φ m [a] c.toList) : ∃ x, c = #[x] ∧ VR φ m a x := by
  simp only [VRL] at h
  obtain ⟨x, _, h1, h2, rfl⟩ := h
  exact ⟨x, by cases c; simp_all, h2⟩
theorem vre_str {φ : FM} {b : Nat} : ∀ (l : List (List UInt8)) (o : Nat), (∀ i x, l[i]? = some x → φ.cell b (o + i) = some (.string (bs x))) → VRE φ (l.map fun x => AV.str (bs x)) b o
  | [], _, _ => by simp [VRE]
  | x :: l, o, h => by
    simp only [List.map_cons, VRE]
    refine ⟨⟨rfl, _, h 0 x rfl, by simp [VR]⟩, vre_str l (o + 1) fun i y hy => ?_⟩
    have := h (i + 1) y (by simpa using hy)
    rwa [show o + 1 + i = o + (i + 1) from by omega]
theorem ck_trim {f : FuncId} {a b : List UInt8} (hk : ∀ (s p : ByteArray) (w : World), s.size ≤ 9223372036854775807 → Calls P f #[.string s, .string p] w fun e w' => e = .returned (.string ⟨(Lib.trimSuffix s.data.toList p.data.toList).toArray⟩) ∧ w' = w)
    (h : a.length ≤ 1048576) : CallOK P f [.str (bs a), .str (bs b)] [] (.str (bs (trmL a b))) [] :=
  callok_same fun φ m w cargs hv hf => by
    obtain ⟨x, y, rfl, h1, h2⟩ := vrl2 hv
    simp only [VR] at h1 h2
    subst h1; subst h2
    exact (hk (bs a) (bs b) w (by rw [bs_size]; omega)).mono fun e w' ⟨h1, h2⟩ => ⟨_, h1, h2, by simp only [VR]; rfl⟩
theorem ck_ix {f : FuncId} {a : List UInt8} {c : Int} (hk : ∀ (s : ByteArray) (c : Int) (w : World), Calls P f #[.string s, .int .u8 c] w fun e w' => e = .returned (.int .i64 (Lib.indexByte s.data.toList c.toNat.toUInt8)) ∧ w' = w) :
    CallOK P f [.str (bs a), .int .u8 c] [] (.int .i64 (ixbL a c)) [] :=
  callok_same fun φ m w cargs hv hf => by
    obtain ⟨x, y, rfl, h1, h2⟩ := vrl2 hv
    simp only [VR] at h1 h2
    subst h1; subst h2
    exact (hk (bs a) c w).mono fun e w' ⟨h1, h2⟩ => ⟨_, h1, h2, by simp only [VR]; rfl⟩
theorem ck_itoa {f : FuncId} {n : Int} (hg : P.globalNamed "internal/strconv.uint64pow10" = some 3)
    (hk : ∀ (n : Int) (_ : -9223372036854775808 ≤ n) (_ : n ≤ 9223372036854775807) (w : World), Lib.TabIs P w "internal/strconv.uint64pow10" .u64 Lib.pow10Tab →
      Calls P f #[.int .i64 n] w fun e w' => e = .returned (.string ⟨(Lib.itoa n).toArray⟩) ∧ ∃ k os, w' = Go.Sort.grow (w.drewN k) os) (h0 : 0 ≤ n) (h1 : n ≤ 1099511627776) : CallOK P f [.int .i64 n] [] (.str (bs (itoL n))) [] :=
  callok_of fun φ m w cargs hv hf => by
    obtain ⟨x, rfl, h2⟩ := vrl1 hv
    simp only [VR] at h2
    subst h2
    refine (hk n (by omega) (by omega) w ?_).mono ?_
    · obtain ⟨_, t, g, h3⟩ := φ.gl
      have h4 := hf _ _ h3
      unfold Lib.TabIs World.var?
      rw [hg]
      simp only [Option.bind_some, h4]
      simp only [powTab, Lib.pow10Tab, List.map_map]; rfl
    · rintro e w' ⟨rfl, k, os, rfl⟩
      have hold : ∀ b, b < w.heap.size → (Go.Sort.grow (w.drewN k) os).heap[b]? = w.heap[b]? := fun b hb => by
        show (w.heap ++ os)[b]? = _
        rw [Array.getElem?_append_left hb]
      refine ⟨_, rfl, ⟨rfl, rfl, rfl, by show w.heap.size ≤ (w.heap ++ os).size; simp, hold⟩, φ, FM.le_refl _, fun b o h => ?_, fun _ _ h => .inl h, by simp only [VR]; rfl⟩
      have h3 := hf b o h
      rw [hold b (Array.getElem?_eq_some_iff.1 h3).1]; exact h3
theorem ck_split {f : FuncId} {a b : List UInt8} {t : TypeId}
    (hk : ∀ (s sep : ByteArray) (m : Int) (w : World), s.size < 4294967281 → w.cell? ⟨0, 0, none⟩ = some (.int .i64 m) → 1 ≤ sep.size →
      Calls P f #[.string s, .string sep] w fun e w' => e = .returned (.slice (some ⟨w.heap.size, 0, none⟩) (Lib.countB s sep + 1) (Lib.countB s sep + 1)) ∧ w' = w.alloc (.cells ((Lib.splitB sep 0 (Lib.countB s sep) s).map Value.string).toArray t))
    (h1 : a.length ≤ 1048576) (h2 : b.length = 1) : CallOK P f [.str (bs a), .str (bs b)] [] (.fsl ((splL a b).map fun x => AV.str (bs x))) [] :=
  callok_of fun φ m w cargs hv hf => by
    obtain ⟨x, y, rfl, h3, h4⟩ := vrl2 hv
    simp only [VR] at h3 h4
    subst h3; subst h4
    obtain ⟨⟨ar, tt, g, mm, k1, k2⟩, _⟩ := φ.gl
    have k3 := hf _ _ k1
    refine (hk (bs a) (bs b) mm w (by rw [bs_size]; omega) (by simp [World.cell?, k3, k2]) (by rw [bs_size]; omega)).mono ?_
    rintro e w' ⟨rfl, rfl⟩
    obtain ⟨ps, hps⟩ : ∃ ps, ps = Lib.splitB (bs b) 0 (Lib.countB (bs a) (bs b)) (bs a) := ⟨_, rfl⟩
    have hlen : ps.length = Lib.countB (bs a) (bs b) + 1 := by rw [hps]; exact Lib.splitB_all _ (by rw [bs_size]; omega) 0 _ _ rfl
    have hdat : ps.map (·.data.toList) = splL a b := by rw [hps, Lib.splitB_data]; rfl
    have hspl : (splL a b).length = Lib.countB (bs a) (bs b) + 1 := by rw [← hdat, List.length_map, hlen]
    have hN : (w.alloc (.cells (ps.map Value.string).toArray t)).heap[w.heap.size]? = some (.cells (ps.map Value.string).toArray t (0, 0)) := by
      show (w.heap.push _)[w.heap.size]? = _; simp
    have hold : ∀ b, b < w.heap.size → (w.alloc (.cells (ps.map Value.string).toArray t)).heap[b]? = w.heap[b]? := fun b hb => by
      show (w.heap.push _)[b]? = _
      rw [Array.getElem?_push, if_neg (by omega)]
    rw [← hps]
    have hlt : ∀ b o, φ b = some o → b < w.heap.size := fun b o h => (Array.getElem?_eq_some_iff.1 (hf b o h)).1
    obtain ⟨φ', hφ'⟩ : ∃ φ' : FM, ∀ b, φ' b = if b = w.heap.size then some (.cells (ps.map Value.string).toArray t (0, 0)) else φ b :=
      ⟨φ.grow (fun b => if b = w.heap.size then some (.cells (ps.map Value.string).toArray t (0, 0)) else φ b) (fun b o h => by rw [if_neg (by have := hlt b o h; omega)]; exact h), fun _ => rfl⟩
    refine ⟨_, rfl, ⟨rfl, rfl, rfl, by show w.heap.size ≤ (w.heap.push _).size; simp, hold⟩, φ', fun b o h => ?_, fun b o h => ?_, fun b o h => ?_, ?_⟩
    · rw [hφ', if_neg (by have := hlt b o h; omega)]; exact h
    · rw [hφ'] at h
      split at h
      · rename_i e; subst e; rw [hN]; exact h
      · rw [hold b (hlt b o h)]; exact hf b o h
    · rw [hφ'] at h
      split at h
      · rename_i e; exact .inr (by omega)
      · exact .inl h
    · simp only [VR]
      refine ⟨_, _, by rw [List.length_map, hspl], by rw [List.length_map, hspl]; omega, .inr ⟨w.heap.size, 0, rfl, vre_str _ 0 fun i x hx => ?_⟩⟩
      have hc : φ'.cell w.heap.size (0 + i) = (ps.map Value.string).toArray[0 + i]? := by
        unfold FM.cell
        rw [hφ', if_pos rfl]
      rw [hc, Nat.zero_add]
      rw [← hdat, List.getElem?_map, Option.map_eq_some_iff] at hx
      obtain ⟨y, hy, rfl⟩ := hx
      simp only [List.getElem?_toArray, List.getElem?_map, hy, Option.map_some]
      rfl
end
end Go.Proofs.YtapchldnmkfkoabDoor.Am
