import Derived.Test.YtfhglldoejeedaaAmC
namespace Go.Proofs.Ytfhglldoejeedaa.Am
open Go

variable {P : Program}

theorem run_isAgg {t : TypeId} {b : Bool} (h : isAg P t = some b) (w : World) : (isAgg t).run P w = .ok b w := by
  unfold isAg at h
  unfold isAgg underlying
  cases hu : P.underlying t with
  | none => simp [hu] at h
  | some d => cases d <;> simp_all

theorem run_sizeOf {t : TypeId} {i : TypeInfo} (h : P.info? t = some i) (w : World) : (sizeOf t).run P w = .ok i.size w := by
  unfold sizeOf typeInfo
  simp [h]

theorem run_underlying {t : TypeId} {d : TypeDesc} (h : P.underlying t = some d) (w : World) : (underlying t).run P w = .ok d w := by
  unfold underlying; simp [h]

theorem tsh_sc {t : TypeId} (h : tsh P t = some .sc) : isAg P t = some false ∧ ∃ i, P.info? t = some i ∧ i.size = 1 := by
  unfold tsh at h
  split at h <;> simp_all

theorem tsh_ag {t : TypeId} {n : Nat} (h : tsh P t = some (.ag n)) : isAg P t = some true ∧ ∃ i, P.info? t = some i ∧ i.size = n := by
  unfold tsh at h
  split at h <;> simp_all

theorem tsh_size {t : TypeId} {ts : TS} (h : tsh P t = some ts) : ∃ i, P.info? t = some i ∧ i.size = ts.size := by
  cases ts with
  | sc => exact (tsh_sc h).2
  | ag n => exact (tsh_ag h).2

theorem add_none (b o j : Nat) : (⟨b, o, none⟩ : Addr).add j = ⟨b, o + j, none⟩ := by
  unfold Addr.add; split <;> simp_all

theorem all_take {cs : List AV} (h : cs.all AV.one = true) (k : Nat) : (cs.take k).all AV.one = true := by
  rw [List.all_eq_true] at *
  exact fun x hx => h x (List.mem_of_mem_take hx)
theorem all_drop {cs : List AV} (h : cs.all AV.one = true) (k : Nat) : (cs.drop k).all AV.one = true := by
  rw [List.all_eq_true] at *
  exact fun x hx => h x (List.mem_of_mem_drop hx)

/-- A load out of cells that are there. -/
theorem load_sound {φ : FM} {m : LM} {w : World} {t : TypeId} {ts : TS} {cs : List AV} {vs : List Value} {b o off : Nat} {av : AV}
    (ht : tsh P t = some ts) (hone : cs.all AV.one = true) (hr : VRL φ m cs vs) (hc : ∀ (j : Nat) (v : Value), vs[j]? = some v → w.cell? ⟨b, o + j, none⟩ = some v)
    (hl : ldc ts cs off = some av) :
    ∃ cv, (Instr.loadAt t (.pointer (some ⟨b, o + off, none⟩))).run P w = .ok cv w ∧ VR φ m av cv := by
  cases ts with
  | sc =>
    obtain ⟨ha, i, hi, hs⟩ := tsh_sc ht
    simp only [ldc] at hl
    obtain ⟨v, hv, hvr⟩ := VRL_get hr hl
    refine ⟨v, ?_, hvr⟩
    have := hc off v hv
    simp [Instr.loadAt, Instr.sureAddr, loadVar, run_isAgg ha, this]
  | ag n =>
    obtain ⟨ha, i, hi, hs⟩ := tsh_ag ht
    simp only [ldc] at hl
    split at hl
    · rename_i hle
      simp only [Option.some.injEq] at hl
      subst hl
      have hlen := VRL_len hr
      have hn : ((vs.drop off).take n).length = n := by simp [hlen]; omega
      refine ⟨.agg ((vs.drop off).take n).toArray, ?_, ?_⟩
      · have hcells : (loadCells ⟨b, o + off, none⟩ n).run P w = .ok ((vs.drop off).take n).toArray w := by
          have := run_loadCells_list (P := P) w ⟨b, o + off, none⟩ ((vs.drop off).take n) (by
            intro j v hj
            rw [add_none, Nat.add_assoc]
            refine hc (off + j) v ?_
            rw [List.getElem?_take] at hj
            split at hj
            · rwa [List.getElem?_drop] at hj
            · simp at hj)
          rwa [hn] at this
        simp [Instr.loadAt, Instr.sureAddr, loadVar, run_isAgg ha, run_sizeOf hi, hs, hcells]
      · simp only [VR]
        exact ⟨all_take (all_drop hone _) _, _, rfl, by simpa using VRL_take (VRL_drop hr off) n⟩
    · simp at hl

structure ObR (φ : FM) (m : LM) (w : World) (l : Loc) (ob : Ob) : Prop where
  top : l.top = ob.len
  box : ∀ cs, ob = .box cs → l.esz = 1 ∧ (l.cap = cs.length ∧ 0 < l.cap) ∧ φ l.blk = none ∧ cs.all AV.one = true ∧
    ∃ a t, w.heap[l.blk]? = some (.cells a t (0, 0)) ∧ VRL φ m cs a.toList
  arr : ∀ esz es ro, ob = .arr esz es ro → l.esz = esz ∧ 0 < esz ∧ (∀ e ∈ es, e.cells.length = esz ∧ e.cells.all AV.one = true) ∧ es.length ≤ l.cap ∧
    (l.cap = 0 ∨ ∃ a t, w.heap[l.blk]? = some (.cells a t (0, 0)) ∧ a.size = l.cap * esz ∧ (φ l.blk = if ro then some (.cells a t (0, 0)) else none) ∧
      VRL φ LM.none (es.flatMap AV.cells) (a.toList.take (es.length * esz)))

structure Inv (φ : FM) (m : LM) (g : Nat → Option Ob) (w : World) : Prop where
  fz : ∀ b o, φ b = some o → w.heap[b]? = some o
  own : ∀ id ob, g id = some ob → ∃ l, m id = some l ∧ ObR φ m w l ob
  sep : ∀ id id' ob ob' l l', g id = some ob → g id' = some ob' → m id = some l → m id' = some l' → id ≠ id' → 0 < l.cap → 0 < l'.cap → l.blk ≠ l'.blk

def upd (g : Nat → Option Ob) (wr : Hp) : Nat → Option Ob := fun i => match lkp wr i with | some o => some o | none => g i

/-- A block that an own object has. -/
def ownB (g : Nat → Option Ob) (m : LM) (b : Nat) : Prop := ∃ id ob l, g id = some ob ∧ m id = some l ∧ 0 < l.cap ∧ l.blk = b

structure Fr (φ : FM) (m : LM) (g : Nat → Option Ob) (w : World) (φ' : FM) (m' : LM) (g' : Nat → Option Ob) (w' : World) : Prop where
  φle : φ.le φ'
  ext : Ext m m'
  os : w'.os = w.os
  tape : w'.tape = w.tape
  output : w'.output = w.output
  size : w.heap.size ≤ w'.heap.size
  old : ∀ b, b < w.heap.size → ¬ ownB g m b → w'.heap[b]? = w.heap[b]?
  newφ : ∀ b o, φ' b = some o → φ b = some o ∨ w.heap.size ≤ b ∨ ownB g m b
  newm : ∀ b, ownB g' m' b → w.heap.size ≤ b ∨ ownB g m b

theorem Fr.refl (φ : FM) (m : LM) (g : Nat → Option Ob) (w : World) : Fr φ m g w φ m g w :=
  ⟨FM.le_refl _, Ext.refl _, rfl, rfl, rfl, Nat.le_refl _, fun _ _ _ => rfl, fun _ _ h => .inl h, fun _ h => .inr h⟩

theorem Fr.trans {φ1 φ2 φ3 : FM} {m1 m2 m3 : LM} {g1 g2 g3 : Nat → Option Ob} {w1 w2 w3 : World}
    (h : Fr φ1 m1 g1 w1 φ2 m2 g2 w2) (k : Fr φ2 m2 g2 w2 φ3 m3 g3 w3) : Fr φ1 m1 g1 w1 φ3 m3 g3 w3 where
  φle := h.φle.trans k.φle
  ext := h.ext.trans k.ext
  os := k.os.trans h.os
  tape := k.tape.trans h.tape
  output := k.output.trans h.output
  size := Nat.le_trans h.size k.size
  old := fun b hb hn => by
    rw [k.old b (Nat.lt_of_lt_of_le hb h.size) (fun ho => (h.newm b ho).elim (fun x => by omega) hn), h.old b hb hn]
  newφ := fun b o ho => by
    rcases k.newφ b o ho with x | x | x
    · exact h.newφ b o x
    · exact .inr (.inl (Nat.le_trans h.size x))
    · rcases h.newm b x with y | y
      · exact .inr (.inl y)
      · exact .inr (.inr y)
  newm := fun b ho => by
    rcases k.newm b ho with x | x
    · exact .inl (Nat.le_trans h.size x)
    · exact h.newm b x

/-- What an operation leaves. -/
def Post (φ : FM) (m : LM) (g : Nat → Option Ob) (w : World) (e : Eff) (cv : Value) (w' : World) : Prop :=
  ∃ φ' m', VR φ' m' e.v cv ∧ Inv φ' m' (upd g e.wr) w' ∧ Fr φ m g w φ' m' (upd g e.wr) w' ∧ ∀ i, (e.nx ≤ i ∨ lkp e.wr i = none) → m i = none → m' i = none

theorem upd_nil (g : Nat → Option Ob) : upd g [] = g := by funext i; simp [upd, lkp]

theorem post_pure {φ : FM} {m : LM} {g : Nat → Option Ob} {w : World} {v : AV} {cv : Value} {rd : List Nat} {nx : Nat} (hi : Inv φ m g w) (hv : VR φ m v cv) :
    Post φ m g w ⟨v, rd, [], nx⟩ cv w := ⟨φ, m, hv, by simpa [upd_nil] using hi, by simpa [upd_nil] using Fr.refl φ m g w, fun _ _ h => h⟩

theorem Inv.lt {φ : FM} {m : LM} {g : Nat → Option Ob} {w : World} (h : Inv φ m g w) {b : Nat} (ho : ownB g m b) : b < w.heap.size := by
  obtain ⟨id, ob, l, hg, hm, hc, rfl⟩ := ho
  obtain ⟨l', hm', hr⟩ := h.own id ob hg
  rw [hm] at hm'; cases hm'
  cases ob with
  | box cs =>
    obtain ⟨_, _, _, _, a, t, hh, _⟩ := hr.box cs rfl
    exact (Array.getElem?_eq_some_iff.1 hh).1
  | arr esz es ro =>
    obtain ⟨_, _, _, _, h0 | ⟨a, t, hh, _⟩⟩ := hr.arr esz es ro rfl
    · omega
    · exact (Array.getElem?_eq_some_iff.1 hh).1
end Go.Proofs.Ytfhglldoejeedaa.Am
