import Derived.Test.YtfhglldoejeedaaAmS
import Derived.Laws.BytesString
namespace Go.Proofs.Ytfhglldoejeedaa.Am
open Go

variable {P : Program}

section
variable {φ : FM} {m : LM} {g gi : Nat → Option Ob} {w w' : World}

theorem un_sound {op : UnOp} {x v : AV} {cx : Value} (h : unA op x = some v) (hx : VR φ m x cx) (w : World) : ∃ cv, (Op.unary op cx).run P w = .ok cv w ∧ VR φ m v cv := by
  unfold unA at h
  split at h
  · cases h
    simp only [VR] at hx; subst hx
    exact ⟨_, by simp [Op.unary, Op.intArith]; rfl, by simp [VR]⟩
  · cases h
    simp only [VR] at hx; subst hx
    exact ⟨_, by simp [Op.unary]; rfl, by simp [VR]⟩
  · cases h

theorem fld_some {s : TypeId} {f o : Nat} {ts : TS} (h : fld P s f = some (o, ts)) :
    ∃ fs fd, P.underlying s = some (.struct fs) ∧ fs[f]? = some fd ∧ tsh P fd.type = some ts ∧ fd.offset = o ∧ ∃ i, P.info? fd.type = some i ∧ i.size ≠ 0 := by
  unfold fld at h
  split at h
  · rename_i fs hu
    split at h
    · rename_i fd hf
      split at h
      · rename_i ts' i ht hi
        split at h
        · cases h
        · rename_i h0
          simp only [Option.some.injEq, Prod.mk.injEq] at h
          obtain ⟨rfl, rfl⟩ := h
          exact ⟨fs, fd, hu, hf, ht, rfl, i, hi, h0⟩
      · cases h
    · cases h
  · cases h

theorem fieldAt_run {s : TypeId} {f o : Nat} {ts : TS} (h : fld P s f = some (o, ts)) (b off : Nat) (w : World) :
    (Instr.fieldAt s (.pointer (some ⟨b, off, none⟩)) f).run P w = .ok (.pointer (some ⟨b, off + o, none⟩)) w := by
  obtain ⟨fs, fd, hu, hf, _, ho, i, hi, h0⟩ := fld_some h
  simp [Instr.fieldAt, run_underlying hu, hf, Instr.sureAddr, fieldPlace, run_sizeOf hi, h0, add_none, ho]

theorem field_run {s : TypeId} {f o : Nat} {ts : TS} {cs : List AV} {cx : Value} {v : AV} (h : fld P s f = some (o, ts)) (hx : VR φ m (.agg cs) cx) (hl : ldc ts cs o = some v) (w : World) :
    ∃ cv, (Instr.field s cx f).run P w = .ok cv w ∧ VR φ m v cv := by
  obtain ⟨fs, fd, hu, hf, ht, ho, i, hi, h0⟩ := fld_some h
  simp only [VR] at hx
  obtain ⟨h1, a, rfl, hv⟩ := hx
  obtain ⟨cv, r1, r2⟩ := run_part (P := P) ht h1 hv hl w
  exact ⟨cv, by simp [Instr.field, run_underlying hu, hf, asAgg, ho, r1], r2⟩

theorem art_some {t : TypeId} {n : Nat} {ts : TS} (h : art P t = some (n, ts)) : ∃ e, P.underlying t = some (.array n e) ∧ tsh P e = some ts ∧ ∃ i, P.info? e = some i ∧ i.size = ts.size ∧ i.size ≠ 0 := by
  unfold art at h
  split at h
  · rename_i n' e hu
    split at h
    · rename_i ts' i ht hi
      split at h
      · cases h
      · rename_i h0
        simp only [Option.some.injEq, Prod.mk.injEq] at h
        obtain ⟨rfl, rfl⟩ := h
        obtain ⟨i', hi', hs⟩ := tsh_size ht
        rw [hi] at hi'; cases hi'
        exact ⟨e, hu, ht, i, hi, hs, h0⟩
    · cases h
  · cases h

theorem idx_sound {t : TypeId} {x i v : AV} {cx ci : Value} (h : idxA P t x i = some v) (hx : VR φ m x cx) (hi : VR φ m i ci) (w : World) :
    ∃ cv, (Instr.index t cx ci).run P w = .ok cv w ∧ VR φ m v cv := by
  unfold idxA at h
  split at h
  · rename_i s k n
    split at h
    · rename_i h0
      split at h
      · rename_i b hb
        split at h
        · rename_i hu
          cases h
          simp only [VR] at hx hi; subst hx; subst hi
          refine ⟨.int .u8 b.toNat, ?_, by simp [VR]⟩
          have hb' : s[n.toNat]? = some b := by
            have h2 := List.getElem?_eq_some_iff.1 hb
            obtain ⟨h3, h4⟩ := h2
            have h5 : n.toNat < s.size := by simpa using h3
            rw [getElem?_pos s n.toNat h5]
            congr 1
          simp [Instr.index, asIntOf, run_underlying hu, h0, hb']
        · cases h
      · cases h
    · cases h
  · rename_i cs k n
    split at h
    · rename_i n' ts ha
      split at h
      · rename_i hb
        obtain ⟨e, hu, ht, i, hinf, hs, h0⟩ := art_some ha
        simp only [VR] at hx hi
        obtain ⟨h1, a, rfl, hv⟩ := hx
        subst hi
        obtain ⟨cv, r1, r2⟩ := run_part (P := P) ht h1 hv h w
        refine ⟨cv, ?_, r2⟩
        simp only [Instr.index, asIntOf, Sem.run_bind, Sem.run_pure, Result.andThen_ok, run_underlying hu, Sem.run_ite, if_pos hb, run_sizeOf hinf, hs, r1]
      · cases h
    · cases h
  · cases h

theorem live_optr {id off tot : Nat} {cx : Value} (hinv : Inv φ m g w) (hg : g id = gi id) (hl : liveA gi id tot = true) (hx : VR φ m (.optr id off tot) cx) :
    ∃ l, m id = some l ∧ tot ≤ l.top ∧ tot = l.top ∧ cx = .pointer (some ⟨l.blk, off, none⟩) := by
  unfold liveA at hl
  split at hl
  · rename_i ob hgi
    obtain ⟨l, hm, hr⟩ := hinv.own id ob (by rw [hg, hgi])
    simp only [VR] at hx
    obtain ⟨_, l', hm', htop, hv⟩ := hx
    rw [hm] at hm'; cases hm'
    have : tot = l.top := by rw [hr.top]; simpa using hl
    exact ⟨l, hm, htop, this, hv this⟩
  · cases hl

theorem live_eptr {id ix off tot : Nat} {cx : Value} (hinv : Inv φ m g w) (hg : g id = gi id) (hl : liveA gi id tot = true) (hx : VR φ m (.eptr id ix off tot) cx) :
    ∃ l, m id = some l ∧ tot ≤ l.top ∧ tot = l.top ∧ cx = .pointer (some ⟨l.blk, ix * l.esz + off, none⟩) := by
  unfold liveA at hl
  split at hl
  · rename_i ob hgi
    obtain ⟨l, hm, hr⟩ := hinv.own id ob (by rw [hg, hgi])
    simp only [VR] at hx
    obtain ⟨_, l', hm', htop, hv⟩ := hx
    rw [hm] at hm'; cases hm'
    have : tot = l.top := by rw [hr.top]; simpa using hl
    exact ⟨l, hm, htop, this, hv this⟩
  · cases hl

theorem ix_sound {t : TypeId} {x i : AV} {cx ci : Value} {nx : Nat} {e : Eff} (h : ixA P t x i gi nx = some e) (hg : ∀ j ∈ e.rd, g j = gi j) (hinv : Inv φ m g w) (hx : VR φ m x cx) (hi : VR φ m i ci) :
    ∃ cv, (Instr.indexAt t cx ci).run P w = .ok cv w ∧ VR φ m e.v cv ∧ e.wr = [] := by
  unfold ixA at h
  split at h
  · rename_i k n
    simp only [VR] at hi; subst hi
    split at h
    · cases h
    rename_i hn
    have arr : ∀ {n' : Nat} {ts : TS} {b o : Nat}, art P t = some (n', ts) → n < n' → (Instr.indexAt t (.pointer (some ⟨b, o, none⟩)) (.int k n)).run P w = .ok (.pointer (some ⟨b, o + n.toNat * ts.size, none⟩)) w := by
      intro n' ts b o ha hlt
      obtain ⟨e, hu, ht, i, hinf, hs, h0⟩ := art_some ha
      have hc : 0 ≤ n ∧ n < n' := by omega
      simp only [Instr.indexAt, asIntOf, Sem.run_bind, Sem.run_pure, Result.andThen_ok, run_underlying hu, Instr.sureAddr, Sem.run_ite, if_pos hc, run_sizeOf hinf, hs, add_none]
    have slc : ∀ {e : TypeId} {i : TypeInfo} {b o len cap : Nat}, P.underlying t = some (.slice e) → P.info? e = some i → n < len → (Instr.indexAt t (.slice (some ⟨b, o, none⟩) len cap) (.int k n)).run P w = .ok (.pointer (some ⟨b, o + n.toNat * i.size, none⟩)) w := by
      intro e i b o len cap hu hinf hlt
      have hc : 0 ≤ n ∧ n < len := by omega
      simp only [Instr.indexAt, asIntOf, Sem.run_bind, Sem.run_pure, Result.andThen_ok, run_underlying hu, Sem.run_ite, if_pos hc, run_sizeOf hinf, add_none]
    split at h
    · rename_i es
      split at h
      · rename_i el ts bytes e0 hel he0
        split at h
        · rename_i hw
          simp only [Eff.pure, Option.some.injEq] at h; subst h
          obtain ⟨hu, hts, i, hinf, hisz, hib, hipos⟩ := elt_some hel
          simp only [VR] at hx
          obtain ⟨ad, cap, rfl, hle, hc⟩ := hx
          have hlt := (List.getElem?_eq_some_iff.1 he0).1
          rcases hc with hc | ⟨b, o, rfl, hc⟩
          · omega
          · refine ⟨_, slc hu hinf (by omega), ?_, rfl⟩
            simp only [VR]
            refine ⟨b, o + n.toNat * i.size, by simp, ?_⟩
            exact VRE_get hc (fun e he => by
              have := (List.all_eq_true.1 hw) e he
              rw [hisz]; simpa using this) he0
        · cases h
      · cases h
    · rename_i id off len tot
      split at h
      · rename_i el ts bytes esz es ro hel hgi
        split at h
        · rename_i hb
          obtain ⟨h1, h2, h3, h4⟩ := hb
          simp only [Option.some.injEq] at h; subst h
          obtain ⟨hu, hts, i, hinf, hisz, hib, hipos⟩ := elt_some hel
          have hgid := (hg id (by simp)).trans hgi
          simp only [VR] at hx
          obtain ⟨_, l, hm, htop, hv⟩ := hx
          obtain ⟨l', hm', hr⟩ := hinv.own id _ hgid
          rw [hm] at hm'; cases hm'
          obtain ⟨ad, rfl, had⟩ := hv (by rw [hr.top]; exact h2)
          obtain ⟨b1, b2, b3, b4, _⟩ := hr.arr esz es ro rfl
          have had' := had (by omega)
          subst had'
          refine ⟨_, slc hu hinf (by omega), ?_, rfl⟩
          simp only [VR]
          refine ⟨rfl, l, hm, htop, fun _ => ?_⟩
          congr 3
          rw [b1, h1, hisz, Nat.add_mul]; omega
        · cases h
      · cases h
    · rename_i id off tot
      split at h
      · rename_i n' ts ha
        split at h
        · rename_i hlt
          simp only [Option.some.injEq] at h; subst h
          obtain ⟨l, hm, htop, ht, rfl⟩ := live_optr hinv (hg id (by simp)) hlt.2 hx
          refine ⟨_, arr ha hlt.1, ?_, rfl⟩
          simp only [VR]
          exact ⟨rfl, l, hm, htop, fun _ => rfl⟩
        · cases h
      · cases h
    · rename_i id ix off tot
      split at h
      · rename_i n' ts ha
        split at h
        · rename_i hlt
          simp only [Option.some.injEq] at h; subst h
          obtain ⟨l, hm, htop, ht, rfl⟩ := live_eptr hinv (hg id (by simp)) hlt.2 hx
          refine ⟨_, arr ha hlt.1, ?_, rfl⟩
          simp only [VR]
          exact ⟨rfl, l, hm, htop, fun _ => by rw [Nat.add_assoc]⟩
        · cases h
      · cases h
    · rename_i cs off
      split at h
      · rename_i n' ts ha
        split at h
        · rename_i hlt
          simp only [Eff.pure, Option.some.injEq] at h; subst h
          simp only [VR] at hx
          obtain ⟨b, o, rfl, hc⟩ := hx
          refine ⟨_, arr ha hlt, ?_, rfl⟩
          simp only [VR]
          exact ⟨b, o, by rw [Nat.add_assoc], hc⟩
        · cases h
      · cases h
    · cases h
  · cases h

theorem bytesA_vals : ∀ {es : List AV} {bs : List UInt8} {vs : List Value}, bytesA es = some bs → VRL φ m es vs →
    ∃ ns : List Int, vs = ns.map (Value.int .u8) ∧ ∀ acc : ByteArray, ns.foldl (fun r n => r.push (UInt8.ofNat n.toNat)) acc = ⟨(acc.data.toList ++ bs).toArray⟩
  | [], bs, vs, h, hv => by
    simp only [bytesA, Option.some.injEq] at h; subst h
    simp only [VRL] at hv; subst hv
    exact ⟨[], rfl, fun acc => by simp⟩
  | e :: es, bs, vs, h, hv => by
    simp only [bytesA] at h
    split at h
    · rename_i b bs' hb hbs
      cases h
      simp only [VRL] at hv
      obtain ⟨v, vs, rfl, h1, h2⟩ := hv
      unfold byteOfAV at hb
      split at hb
      · rename_i n
        cases hb
        simp only [VR] at h1; subst h1
        obtain ⟨ns, rfl, h3⟩ := bytesA_vals hbs h2
        refine ⟨n :: ns, rfl, fun acc => ?_⟩
        rw [List.foldl_cons, h3]
        simp [ByteArray.push]
      · cases hb
    · cases h

theorem bytesA_flat : ∀ {es : List AV} {bs : List UInt8}, bytesA es = some bs → es.flatMap AV.cells = es ∧ ∀ e ∈ es, e.cells.length = 1 ∧ e.cells.all AV.one = true
  | [], bs, h => by simp
  | e :: es, bs, h => by
    simp only [bytesA] at h
    split at h
    · rename_i b bs' hb hbs
      unfold byteOfAV at hb
      split at hb
      · obtain ⟨h1, h2⟩ := bytesA_flat hbs
        refine ⟨by simp [AV.cells, h1], fun e he => ?_⟩
        rcases List.mem_cons.1 he with rfl | he
        · simp [AV.cells, AV.one]
        · exact h2 e he
      · cases hb
    · cases h

theorem cvt_int {s d : TypeId} {k : IntKind} (h : cvt P s d = some (.int k)) : ∃ k', P.underlying s = some (.int k') ∧ P.underlying d = some (.int k) := by
  unfold cvt at h
  split at h
  · rename_i h1 h2; cases h; exact ⟨_, h1, h2⟩
  · cases h
  · split at h <;> simp at h
  · cases h

theorem cvt_str {s d : TypeId} (h : cvt P s d = some .str) : P.underlying s = some .string ∧ P.underlying d = some .string := by
  unfold cvt at h
  split at h
  · cases h
  · rename_i h1 h2; exact ⟨h1, h2⟩
  · split at h <;> simp at h
  · cases h

theorem cvt_bs {s d : TypeId} (h : cvt P s d = some .bytesStr) : ∃ e, P.underlying s = some (.slice e) ∧ P.underlying e = some (.int .u8) ∧ P.underlying d = some .string := by
  unfold cvt at h
  split at h
  · cases h
  · cases h
  · rename_i e h1 h2
    split at h
    · rename_i h3; exact ⟨e, h1, h3, h2⟩
    · simp at h
  · cases h

theorem els_slice {x : AV} {cx : Value} {es : List AV} {is : List Nat} (hinv : Inv φ m g w) (h : elsOf gi x = some (es, is)) (hg : ∀ j ∈ is, g j = gi j) (hx : VR φ m x cx) : ∃ ad l c, cx = .slice ad l c := by
  cases x with
  | fsl es => simp only [VR] at hx; obtain ⟨ad, cap, rfl, _⟩ := hx; exact ⟨_, _, _, rfl⟩
  | nilsl => simp only [VR] at hx; obtain ⟨ad, rfl⟩ := hx; exact ⟨_, _, _, rfl⟩
  | osl id off len tot =>
    simp only [elsOf] at h
    split at h
    · rename_i esz es' ro hgi
      split at h
      · rename_i hb
        simp only [Option.some.injEq, Prod.mk.injEq] at h
        obtain ⟨_, rfl⟩ := h
        simp only [VR] at hx
        obtain ⟨_, l, hm, htop, hv⟩ := hx
        obtain ⟨l', hm', hr⟩ := hinv.own id _ ((hg id (by simp)).trans hgi)
        rw [hm] at hm'; cases hm'
        obtain ⟨ad, rfl, _⟩ := hv (by rw [hr.top]; exact hb.1)
        exact ⟨_, _, _, rfl⟩
      · cases h
    · cases h
  | _ => simp [elsOf] at h

theorem cv_sound {src dst : TypeId} {x : AV} {cx : Value} {nx : Nat} {e : Eff} (h : cvA P src dst gi nx x = some e) (hg : ∀ j ∈ e.rd, g j = gi j) (hinv : Inv φ m g w) (hx : VR φ m x cx) :
    ∃ cv, (convert src dst cx).run P w = .ok cv w ∧ VR φ m e.v cv ∧ e.wr = [] ∧ e.nx = nx := by
  unfold cvA at h
  split at h
  · rename_i k k' n hc
    simp only [Eff.pure, Option.some.injEq] at h; subst h
    obtain ⟨k2, hs, hd⟩ := cvt_int hc
    simp only [VR] at hx; subst hx
    exact ⟨_, by simp [convert, run_underlying hs, run_underlying hd, Conv.intToInt]; rfl, by simp [VR], rfl, rfl⟩
  · rename_i s hc
    simp only [Eff.pure, Option.some.injEq] at h; subst h
    obtain ⟨hs, hd⟩ := cvt_str hc
    simp only [VR] at hx; subst hx
    exact ⟨_, by simp [convert, run_underlying hs, run_underlying hd]; rfl, by simp [VR], rfl, rfl⟩
  · rename_i x hc
    obtain ⟨el, hs, he, hd⟩ := cvt_bs hc
    split at h
    · rename_i es is hels
      split at h
      · rename_i bs hbs
        simp only [Option.some.injEq] at h; subst h
        obtain ⟨hfl, hw⟩ := bytesA_flat hbs
        obtain ⟨news, hS, hnv⟩ := src_sound (P := P) (t2 := src) (n := 1) hinv (by simp [srcTy, hs]) hels hg hx hw
        rw [hfl] at hnv
        obtain ⟨ns, rfl, hns⟩ := bytesA_vals hbs hnv
        have hsl : ∃ ad l c, cx = .slice ad l c := els_slice hinv hels hg hx
        obtain ⟨ad, l, c, rfl⟩ := hsl
        have hcells := hS.cells
        have hlen := hS.len w
        simp only [Builtin.lenOf, Sem.run_pure] at hlen
        have hll : l = es.length := by injection hlen
        refine ⟨.string ⟨bs.toArray⟩, ?_, by simp [VR], rfl, rfl⟩
        rw [run_convert_bytes_string (P := P) w src dst el ad l c hs he hd]
        have h0 := hns ByteArray.empty
        cases ad with
        | none =>
          simp only [Builtin.firstCells, Sem.run_pure] at hcells
          have : ns = [] := by
            have h1 : (#[] : Array Value) = (List.map (Value.int .u8) ns).toArray := by injection hcells
            cases ns with
            | nil => rfl
            | cons _ _ => simp at h1
          subst this
          simp only [List.foldl_nil] at h0
          rw [show Conv.bytesToString (Value.slice none l c) = pure (Value.string ByteArray.empty) from rfl, h0]
          simp
        | some a =>
          simp only [Builtin.firstCells, Nat.mul_one] at hcells
          rw [run_bytesToString (P := P) w a l c ns (by rw [hll]; exact hcells), h0]
          simp
      · cases h
    · cases h
  · cases h
end
end Go.Proofs.Ytfhglldoejeedaa.Am
