import Derived.Test.YtfhglldoejeedaaAmR
import Derived.Laws.StructEq
namespace Go.Proofs.Ytfhglldoejeedaa.Am
open Go

variable {P : Program}

theorem bytes_eq {a b : ByteArray} : (a.toList == b.toList) = decide (a = b) := by
  rw [ByteArray.toList_eq, ByteArray.toList_eq]
  obtain ⟨⟨x⟩⟩ := a
  obtain ⟨⟨y⟩⟩ := b
  rw [Bool.eq_iff_iff]
  simp

section
variable {φ : FM} {m : LM} {g gi : Nat → Option Ob} {w w' : World}

theorem run_part {t : TypeId} {ts : TS} (ht : tsh P t = some ts) {cs : List AV} {vs : Array Value} {off : Nat} {av : AV} (h1 : cs.all AV.one = true) (hv : VRL φ m cs vs.toList) (hl : ldc ts cs off = some av) (w : World) :
    ∃ cv, (part t vs off).run P w = .ok cv w ∧ VR φ m av cv := by
  cases ts with
  | sc =>
    obtain ⟨ha, i, hi, hs⟩ := tsh_sc ht
    simp only [ldc] at hl
    obtain ⟨v, hv1, hv2⟩ := VRL_get hv hl
    refine ⟨v, ?_, hv2⟩
    have : vs[off]? = some v := by simpa using hv1
    simp [part, run_isAgg ha, this]
  | ag n =>
    obtain ⟨ha, i, hi, hs⟩ := tsh_ag ht
    simp only [ldc] at hl
    split at hl
    · simp only [Option.some.injEq] at hl; subst hl
      refine ⟨.agg (vs.extract off (off + n)), by simp [part, run_isAgg ha, run_sizeOf hi, hs], ?_⟩
      simp only [VR]
      refine ⟨all_take (all_drop h1 _) _, _, rfl, ?_⟩
      have := VRL_take (VRL_drop hv off) n
      rw [Array.toList_extract]
      simpa [List.extract_eq_take_drop] using this
    · cases hl

theorem eqK_len : ∀ {ks : List Kc} {as bs : List AV} {b : Bool}, eqK ks as bs = some b → as.length = ks.length ∧ bs.length = ks.length := by
  intro ks
  induction ks with
  | nil =>
    intro as bs b h
    cases as <;> cases bs <;> simp_all [eqK]
  | cons k ks ih =>
    intro as bs b h
    cases as with
    | nil => simp [eqK] at h
    | cons a as =>
      cases bs with
      | nil => cases k <;> cases a <;> simp [eqK] at h
      | cons b' bs =>
        cases k <;> cases a <;> cases b' <;> simp only [eqK] at h <;> (try cases h)
        all_goals (try (split at h <;> (try cases h)))
        all_goals
          simp only [Option.map_eq_some_iff] at h
          obtain ⟨r, h, _⟩ := h
          have := ih h
          simp [this.1, this.2]

theorem eqK_app : ∀ {k1 k2 : List Kc} {as bs : List AV} {b : Bool}, eqK (k1 ++ k2) as bs = some b →
    ∃ x y, eqK k1 (as.take k1.length) (bs.take k1.length) = some x ∧ eqK k2 (as.drop k1.length) (bs.drop k1.length) = some y ∧ b = (x && y) := by
  intro k1
  induction k1 with
  | nil => intro k2 as bs b h; exact ⟨true, b, by simp [eqK], by simpa using h, by simp⟩
  | cons k ks ih =>
    intro k2 as bs b h
    cases as with
    | nil => simp [eqK] at h
    | cons a as =>
      cases bs with
      | nil => cases k <;> cases a <;> simp [eqK] at h
      | cons b' bs =>
        cases k <;> cases a <;> cases b' <;> simp only [List.cons_append, eqK] at h <;> (try cases h)
        all_goals (try (split at h <;> (try cases h)))
        all_goals
          simp only [Option.map_eq_some_iff] at h
          obtain ⟨r, h, rfl⟩ := h
          obtain ⟨x, y, h1, h2, rfl⟩ := ih h
          refine ⟨_, y, ?_, by simpa using h2, (Bool.and_assoc ..).symm⟩
          simp [eqK, h1, *]

theorem fs_sound {ok : TypeId → Option (List Kc)} {D : Nat}
    (hok : ∀ {t : TypeId} {k : List Kc} {a b : AV} {x y : Value} {r : Bool}, ok t = some k → (isAg P t = some true → (∃ c, a = .agg c) ∧ ∃ c, b = .agg c) → (isAg P t = some false → a.one = true ∧ b.one = true) →
      eqK k a.cells b.cells = some r → VR φ m a x → VR φ m b y → (Op.equalIn D t x y).run P w = .ok r w)
    {as bs : List AV} {xs ys : Array Value} (ha : as.all AV.one = true) (hb : bs.all AV.one = true) (hx : VRL φ m as xs.toList) (hy : VRL φ m bs ys.toList) :
    ∀ {fs : List Field} {o e : Nat} {k : List Kc} {r : Bool}, kndFs P ok fs o e = some k → eqK k (as.drop o) (bs.drop o) = some r → (Op.eqFields D xs ys fs).run P w = .ok r w
  | [], o, e, k, r, h, he => by
    simp only [kndFs] at h
    split at h
    · cases h
      have : as.drop o = [] ∧ bs.drop o = [] := by
        have := eqK_len he
        exact ⟨List.eq_nil_of_length_eq_zero this.1, List.eq_nil_of_length_eq_zero this.2⟩
      rw [this.1, this.2] at he
      simp only [eqK] at he; cases he
      simp [Op.eqFields]
    · cases h
  | f :: fs, o, e, k, r, h, he => by
    simp only [kndFs] at h
    split at h
    · rename_i ts k1 k2 hts hk1 hk2
      split at h
      · rename_i hc
        obtain ⟨hn, ho, hl, hpos⟩ := hc
        cases h
        obtain ⟨x, y, e1, e2, rfl⟩ := eqK_app he
        rw [hts] at hk2
        simp only [Option.map_some, Option.getD_some, List.drop_drop] at hk2 e2
        rw [hl] at e1 e2
        have hrest := fs_sound hok ha hb hx hy hk2 e2
        have hlen := eqK_len e1
        rw [hl] at hlen
        have hA : ∃ a b, ldc ts as o = some a ∧ ldc ts bs o = some b ∧ eqK k1 a.cells b.cells = some x ∧ (isAg P f.type = some true → (∃ c, a = .agg c) ∧ ∃ c, b = .agg c) ∧ (isAg P f.type = some false → a.one = true ∧ b.one = true) := by
          cases ts with
          | ag n =>
            simp only [TS.size] at hpos
            simp only [TS.size, List.length_take, List.length_drop] at hlen e1
            refine ⟨.agg ((as.drop o).take n), .agg ((bs.drop o).take n), ?_, ?_, e1, fun _ => ⟨⟨_, rfl⟩, ⟨_, rfl⟩⟩, fun h => ?_⟩
            · simp only [ldc]; rw [if_pos (by omega)]
            · simp only [ldc]; rw [if_pos (by omega)]
            · have := (tsh_ag hts).1; rw [this] at h; cases h
          | sc =>
            simp only [TS.size] at hlen e1
            have h1 : o < as.length := by have := hlen.1; simp at this; omega
            have h2 : o < bs.length := by have := hlen.2; simp at this; omega
            have o1 : as[o].one = true := (List.all_eq_true.1 ha) _ (List.getElem_mem h1)
            have o2 : bs[o].one = true := (List.all_eq_true.1 hb) _ (List.getElem_mem h2)
            have c1 : ∀ a : AV, a.one = true → a.cells = [a] := by intro a h; cases a <;> simp_all [AV.cells, AV.one]
            refine ⟨as[o], bs[o], by simp [ldc, h1], by simp [ldc, h2], ?_, fun h => ?_, fun _ => ⟨o1, o2⟩⟩
            · rw [c1 _ o1, c1 _ o2]
              rw [List.drop_eq_getElem_cons h1, List.drop_eq_getElem_cons h2] at e1
              simpa only [List.take_succ_cons, List.take_zero] using e1
            · have := (tsh_sc hts).1; rw [this] at h; cases h
        obtain ⟨a, b, l1, l2, hk, g1, g2⟩ := hA
        obtain ⟨cx, r1, v1⟩ := run_part (P := P) hts ha hx l1 w
        obtain ⟨cy, r2, v2⟩ := run_part (P := P) hts hb hy l2 w
        have heq := hok hk1 g1 g2 hk v1 v2
        subst ho
        rw [Op.eqFields]
        simp only [if_pos hn, Sem.run_bind, r1, r2, heq, Result.andThen_ok]
        cases x
        · simp
        · simpa using hrest
      · cases h
    · cases h

theorem eq_sound : ∀ (d : Nat) {D : Nat} {t : TypeId} {k : List Kc} {a b : AV} {x y : Value} {r : Bool}, kndIn P d t = some k → d ≤ D →
    (isAg P t = some true → (∃ c, a = .agg c) ∧ ∃ c, b = .agg c) → (isAg P t = some false → a.one = true ∧ b.one = true) → eqK k a.cells b.cells = some r →
    VR φ m a x → VR φ m b y → (Op.equalIn D t x y).run P w = .ok r w
  | 0, _, _, _, _, _, _, _, _, h, _, _, _, _, _, _ => by simp [kndIn] at h
  | d + 1, 0, _, _, _, _, _, _, _, _, h, _, _, _, _, _ => by omega
  | d + 1, D + 1, t, k, a, b, x, y, r, h, hD, g1, g2, he, hx, hy => by
    have c1 : ∀ a : AV, a.one = true → a.cells = [a] := by intro a h; cases a <;> simp_all [AV.cells, AV.one]
    simp only [kndIn] at h
    split at h
    · rename_i _ _ hu
      cases h
      have := g2 (by simp [isAg, hu])
      rw [c1 _ this.1, c1 _ this.2] at he
      cases a <;> cases b <;> simp only [eqK] at he <;> (try cases he)
      simp only [VR] at hx hy; subst hx; subst hy
      rw [run_equalIn_bool' (P := P) w D t _ _ hu]
      simp [Bool.beq_eq_decide_eq]
    · rename_i _ _ hu
      cases h
      have := g2 (by simp [isAg, hu])
      rw [c1 _ this.1, c1 _ this.2] at he
      cases a <;> cases b <;> simp only [eqK] at he <;> (try cases he)
      split at he
      · rename_i hk; subst hk
        simp only [VR] at hx hy; subst hx; subst hy
        rw [run_equalIn_int (P := P) w D t _ _ _ _ hu]
        simp only [Option.map_some, Option.some.injEq, Bool.and_true, eqK] at he
        rw [← he]
        rfl
      · cases he
    · rename_i _ _ hu
      cases h
      have := g2 (by simp [isAg, hu])
      rw [c1 _ this.1, c1 _ this.2] at he
      cases a <;> cases b <;> simp only [eqK] at he <;> (try cases he)
      simp only [VR] at hx hy; subst hx; subst hy
      rw [run_equalIn_string (P := P) w D t _ _ hu, bytes_eq]
      simp
    · rename_i fs i hu hi
      split at h
      · cases h
      · rename_i hs
        obtain ⟨⟨as, rfl⟩, ⟨bs, rfl⟩⟩ := g1 (by simp [isAg, hu])
        simp only [VR] at hx hy
        obtain ⟨ha1, xs, rfl, hxs⟩ := hx
        obtain ⟨hb1, ys, rfl, hys⟩ := hy
        have hf : P.fieldsOf t = fs := by simp [Program.fieldsOf, hu]
        rw [run_equalIn_struct (P := P) w D t xs ys (by rw [hf]; exact hu) (by simpa using hs), hf]
        exact fs_sound (fun {t k a b x y r} h1 h2 h3 h4 h5 h6 => eq_sound d h1 (by omega) h2 h3 h4 h5 h6) ha1 hb1 hxs hys h (by simpa [AV.cells] using he)
    · cases h

theorem bits_sound {op : BinOp} {k : IntKind} {a b n : Int} (h : bitsA op k a b = some n) (w : World) : (Op.intBits op k a b).run P w = .ok (.int k n) w := by
  cases op <;> simp only [bitsA, Option.some.injEq] at h <;> (try cases h) <;> simp [Op.intBits]

theorem int_sound {op : BinOp} {k : IntKind} {a b : Int} {v : AV} {t : TypeId} (h : intA op k a b = some v) (hs : op ≠ .shl) (hr : op ≠ .shr) (w : World) :
    ∃ cv, (binOp op t (.int k a) (.int k b)).run P w = .ok cv w ∧ VR φ m v cv := by
  cases op <;> simp only [intA] at h <;> (try (exact absurd rfl hs)) <;> (try (exact absurd rfl hr)) <;> (try cases h)
  all_goals (try (split at h <;> (try cases h)))
  all_goals (try (simp only [Option.map_eq_some_iff] at h; obtain ⟨n, h, rfl⟩ := h; exact ⟨_, by simp [binOp, bits_sound h], by simp [VR]⟩))
  all_goals (try (refine ⟨_, by simp [binOp, Op.intArith, Op.intDiv, Op.intCmp, *]; rfl, ?_⟩; simp [VR]; done))
  all_goals (try (refine ⟨.bool _, by simp [binOp, Op.intArith, Op.intDiv, Op.intCmp, *]; rfl, ?_⟩; simp [VR]; done))
  · exact ⟨.bool (a == b), by simp [binOp, Op.intCmp], by simp only [VR]; rfl⟩
  · refine ⟨.bool (a != b), by simp [binOp, Op.intCmp], ?_⟩
    simp only [VR]
    by_cases e : a = b <;> simp [e]

theorem guard_quiet {op : BinOp} {t : TypeId} {ox oy : Operand} {cx cy : Value} (h1 : cx ≠ .nilIface) (h2 : ∀ a, cx ≠ .agg a) (w : World) : (eqGuard op t ox oy cx cy).run P w = .ok () w := by
  cases cx <;> first
    | (exact absurd rfl h1)
    | (exact absurd rfl (h2 _))
    | (cases op <;> rfl)

theorem eqA_sound {op : BinOp} {t : TypeId} {ox oy : Operand} {x y : AV} {cx cy : Value} {r : Bool} (h : eqA P t x y = some r) (hx : VR φ m x cx) (hy : VR φ m y cy) (w : World) :
    (eqGuard op t ox oy cx cy).run P w = .ok () w ∧ (binOp .eql t cx cy).run P w = .ok (.bool r) w ∧ (binOp .neq t cx cy).run P w = .ok (.bool !r) w := by
  unfold eqA at h
  split at h
  · rename_i k as bs hk
    unfold eqk at hk
    split at hk
    · rename_i a k' hag hkn
      split at hk
      · cases hk
      · rename_i hg
        simp only [Option.some.injEq, Prod.mk.injEq] at hk
        obtain ⟨rfl, rfl⟩ := hk
        have he := eq_sound (P := P) (φ := φ) (m := m) (w := w) (D := 10000) 8 hkn (by omega) (fun _ => ⟨⟨_, rfl⟩, ⟨_, rfl⟩⟩) (fun h => by rw [hag] at h; cases h) (by simpa [AV.cells] using h) hx hy
        simp only [VR] at hx hy
        obtain ⟨_, xs, rfl, _⟩ := hx
        obtain ⟨_, ys, rfl, _⟩ := hy
        exact ⟨run_eqGuard_agg (P := P) w op t ox oy xs ys (by simpa using hg), by rw [run_eql_struct, he]; rfl, by rw [run_neq_struct, he]; rfl⟩
    · cases hk
  · rename_i k a b hk
    unfold eqk at hk
    split at hk
    · rename_i a' k' hag hkn
      split at hk
      · cases hk
      · simp only [Option.some.injEq, Prod.mk.injEq] at hk
        obtain ⟨rfl, rfl⟩ := hk
        have he := eq_sound (P := P) (φ := φ) (m := m) (w := w) (D := 10000) 8 hkn (by omega) (fun h => by rw [hag] at h; cases h) (fun _ => ⟨rfl, rfl⟩) (by simpa [AV.cells] using h) hx hy
        simp only [VR] at hx hy
        subst hx; subst hy
        exact ⟨guard_quiet (by simp) (by simp) w, by simp [binOp, Op.equal, Op.maxDepth, he], by simp [binOp, Op.equal, Op.maxDepth, he]⟩
    · cases hk
  · cases h

theorem bin_sound {op : BinOp} {t : TypeId} {ox oy : Operand} {x y v : AV} {cx cy : Value} (h : binA P op t x y = some v) (hx : VR φ m x cx) (hy : VR φ m y cy) (w : World) :
    ∃ cv, (do eqGuard op t ox oy cx cy; binOp op t cx cy : Sem Value).run P w = .ok cv w ∧ VR φ m v cv := by
  unfold binA at h
  split at h
  · rename_i k a k' b
    split at h
    · cases h
    · cases h
      simp only [VR] at hx hy; subst hx; subst hy
      exact ⟨_, by simp [guard_quiet, binOp, Op.shift, *]; rfl, by simp [VR]⟩
  · rename_i k a k' b
    split at h
    · cases h
    · cases h
      simp only [VR] at hx hy; subst hx; subst hy
      exact ⟨_, by simp [guard_quiet, binOp, Op.shift, *]; rfl, by simp [VR]⟩
  · rename_i op k a k' b hns hnr
    split at h
    · rename_i hk; subst hk
      simp only [VR] at hx hy; subst hx; subst hy
      obtain ⟨cv, h1, h2⟩ := int_sound (P := P) (φ := φ) (m := m) (t := t) h hns hnr w
      exact ⟨cv, by simp [guard_quiet, h1], h2⟩
    · cases h
  · rename_i a b
    split at h
    · cases h
    · rename_i hb
      cases h
      simp only [VR] at hx hy; subst hx; subst hy
      refine ⟨.string (a ++ b), ?_, by simp [VR]⟩
      simp only [Sem.run_bind, guard_quiet (P := P) (cx := .string a) (by simp) (by simp), Result.andThen_ok, binOp, Op.stringOp, if_neg hb, Sem.run_pure]
  · cases h
    simp only [VR] at hx hy; subst hx; subst hy
    refine ⟨_, by simp only [Sem.run_bind, guard_quiet (P := P) (cx := .string _) (by simp) (by simp), Result.andThen_ok, binOp, Op.stringOp, Sem.run_pure]; rfl, ?_⟩
    simp only [VR, bytes_eq]
  · cases h
    simp only [VR] at hx hy; subst hx; subst hy
    refine ⟨_, by simp only [Sem.run_bind, guard_quiet (P := P) (cx := .string _) (by simp) (by simp), Result.andThen_ok, binOp, Op.stringOp, Sem.run_pure]; rfl, ?_⟩
    simp only [VR, bytes_eq]
    simp
  · rename_i x y _ _
    simp only [Option.map_eq_some_iff] at h
    obtain ⟨r, h, rfl⟩ := h
    obtain ⟨h1, h2⟩ := eqA_sound (op := .eql) (ox := ox) (oy := oy) h hx hy w
    refine ⟨.bool r, ?_, by simp [VR]⟩
    have : (binOp .eql t cx cy).run P w = .ok (.bool r) w := h2.1
    simp [h1, this]
  · rename_i x y _ _
    simp only [Option.map_eq_some_iff] at h
    obtain ⟨r, h, rfl⟩ := h
    obtain ⟨h1, h2⟩ := eqA_sound (op := .neq) (ox := ox) (oy := oy) h hx hy w
    refine ⟨.bool !r, ?_, by simp [VR]⟩
    have : (binOp .neq t cx cy).run P w = .ok (.bool !r) w := h2.2
    simp [h1, this]
  · cases h
end
end Go.Proofs.Ytfhglldoejeedaa.Am
