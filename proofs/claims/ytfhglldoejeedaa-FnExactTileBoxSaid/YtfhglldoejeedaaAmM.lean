import Derived.Test.YtfhglldoejeedaaAmL
import Derived.Deep.Upon
namespace Go.Proofs.Ytfhglldoejeedaa.Am
open Go

variable {P : Program}

section
variable {φ : FM} {m : LM} {g gi : Nat → Option Ob} {w w' : World}

theorem src_any (hi : Inv φ m g w) {x : AV} {cx : Value} {src : List AV} {is : List Nat} {t2 : TypeId} {ts : TS} (hk : srcTy P t2 = true)
    (h : srcOf ts gi x = some (src, is)) (hg : ∀ i ∈ is, g i = gi i) (hx : VR φ m x cx) (hw : ∀ e ∈ src, e.cells.length = ts.size ∧ e.cells.all AV.one = true) :
    ∃ news, Src P ts.size t2 cx src.length news w ∧ VRL φ LM.none (src.flatMap AV.cells) news := by
  unfold srcOf at h
  split at h
  · rename_i b
    split at h
    · rename_i h1
      simp only [Option.some.injEq, Prod.mk.injEq] at h
      obtain ⟨rfl, rfl⟩ := h
      simp only [VR] at hx; subst hx
      refine ⟨byteCells b, ?_, by rw [bytes_flat]; exact bytes_VRL _⟩
      have : Src P 1 t2 (.string b) b.size (byteCells b) w := ⟨srcTy_kind hk, fun _ => rfl, firstCells_string b w, firstCells_string b w.drew, by rw [byteCells_length, Nat.mul_one], fun u hu => by
        obtain ⟨_, _, rfl⟩ := List.mem_map.1 hu
        rfl⟩
      rw [h1]
      rw [show (b.data.toList.map byteAV).length = b.size by simp]
      exact this
    · cases h
  · exact src_sound hi hk h hg hx hw

theorem next_le (need cap : Nat) (h : cap < need) : Builtin.nextslicecap need cap ≤ 4 * need + 4000 := by
  unfold Builtin.nextslicecap
  split
  · omega
  · split
    · omega
    · have h4 : ∀ c, Builtin.growBy need 4 c ≤ 3 * c + 3000 := by
        intro c
        simp only [Builtin.growBy]
        repeat' split
        all_goals omega
      have := h4 cap
      omega

/-- The bytes that an append may ask for are within what the model lets be. -/
theorem fit_of {n cap bytes : Nat} (h : n * bytes ≤ room) (hc : cap < n) (hb : bytes ≤ 2 ^ 20) : Builtin.nextslicecap n cap * bytes ≤ 281474976710656 := by
  have h1 := next_le n cap hc
  have h2 : Builtin.nextslicecap n cap * bytes ≤ (4 * n + 4000) * bytes := Nat.mul_le_mul_right _ h1
  have h3 : (4 * n + 4000) * bytes = 4 * (n * bytes) + 4000 * bytes := by rw [Nat.add_mul, Nat.mul_assoc]
  unfold room at h
  omega

theorem app_grow {t t2 ty e : TypeId} {i : TypeInfo} {z : Value} (hu : P.underlying t = some (.slice e)) (hinf : P.info? e = some i) (hz : i.zero = some z)
    {base : Option Addr} {sLen sCap : Nat} {es src : List AV} {olds news : List Value} {cx : Value} (hzc : z.cells.size = i.size)
    (hold : (Builtin.firstCells i.size sLen (.slice base sLen sCap)).run P w.drew = .ok olds.toArray w.drew)
    (hov : VRL φ LM.none (es.flatMap AV.cells) olds) (hlen : es.length = sLen) (hwe : ∀ e ∈ es, e.cells.length = i.size)
    (hs : Src P i.size t2 cx src.length news w) (hnv : VRL φ LM.none (src.flatMap AV.cells) news)
    (hgrow : sCap < sLen + src.length) (hroom : (sLen + src.length) * i.bytes ≤ room) (hbytes : i.bytes ≤ 1048576) (hb0 : 0 < i.bytes) :
    ∃ a cap, (Builtin.append_ #[t, t2] ty #[.slice base sLen sCap, cx]).run P w = .ok (.slice (some ⟨w.heap.size, 0, none⟩) (sLen + src.length) cap) (w.drew.alloc (.cells a e)) ∧
      a.size = cap * i.size ∧ sLen + src.length ≤ cap ∧ VRL φ LM.none ((es ++ src).flatMap AV.cells) (a.toList.take ((es ++ src).length * i.size)) := by
  have h63 : ((sLen + src.length : Nat) : Int) ≤ 9223372036854775807 := by
    have : sLen + src.length ≤ (sLen + src.length) * i.bytes := Nat.le_mul_of_pos_right _ hb0
    unfold room at hroom; omega
  have hrun := run_append_grow_src (P := P) w t t2 ty e i z hu hinf hz base sLen sCap olds hold cx src.length news hs hgrow h63 (fit_of hroom hgrow (by omega))
  have hge : sLen + src.length ≤ grownCap w (sLen + src.length) sCap e := by unfold grownCap; simp [Question.cut]
  have hol : olds.length = sLen * i.size := by rw [VRL_len hov, flat_len hwe, hlen]
  have hnl := hs.newsLen
  refine ⟨_, _, hrun, ?_, hge, ?_⟩
  · simp only [Array.size_append, List.size_toArray, List.length_append, Builtin.zeroCells, Array.size_map, Array.size_range, hol, hnl, hzc]
    rw [← Nat.add_mul, ← Nat.add_mul]
    congr 1; omega
  · have hl : (es ++ src).length * i.size = (olds ++ news).length := by simp [hol, hnl, hlen, Nat.add_mul]
    rw [hl]
    simp only [Array.toList_append, List.take_left]
    rw [List.flatMap_append]
    exact VRL_append hov hnv

theorem run_append_room_at {t tx ty e : TypeId} {i : TypeInfo} (ht : P.underlying t = some (.slice e)) (hi : P.info? e = some i) {b o0 sLen sCap : Nat} {x : Value} {n : Nat} {news : List Value}
    (hs : Src P i.size tx x n news w) (hroom : sLen + n ≤ sCap) {cur : Array Value} {te : TypeId} (hh : w.heap[b]? = some (.cells cur te (0, 0))) (hle : o0 + sLen * i.size + news.length ≤ cur.size) :
    (Builtin.append_ #[t, tx] ty #[.slice (some ⟨b, o0, none⟩) sLen sCap, x]).run P w = .ok (.slice (some ⟨b, o0, none⟩) (sLen + n) sCap)
      (w.setRow b (cur.toList.take (o0 + sLen * i.size) ++ news ++ cur.toList.drop (o0 + sLen * i.size + news.length)).toArray) := by
  have hst := run_storeCells_at P b (o0 + sLen * i.size) te news 0 cur w hh (by simpa using hle) hs.one
  simp only [Nat.add_zero] at hst
  rcases hs.kind with ⟨e', hk⟩ | hk <;> simp [Builtin.append_, run_underlying ht, run_underlying hk, sizeOf, typeInfo, hi, hs.len, hroom, hs.cells, Addr.add_lit, hst]

theorem upd_self {id : Nat} {ob : Ob} (h : g id = some ob) : upd g [(id, ob)] = g := by
  funext i
  rw [upd_one]
  split
  · rename_i e; subst e; exact h.symm
  · rfl

theorem flat_seg {n : Nat} {es src : List AV} {k : Nat} (hw : ∀ e ∈ es, e.cells.length = n) (hs : ∀ e ∈ src, e.cells.length = n) (hk : k + src.length ≤ es.length) :
    (es.take k ++ src ++ es.drop (k + src.length)).flatMap AV.cells = spl (es.flatMap AV.cells) (k * n) (src.flatMap AV.cells) := by
  have e1 : ∀ (j : Nat) (l : List AV), (∀ e ∈ l, e.cells.length = n) → (l.take j).flatMap AV.cells = (l.flatMap AV.cells).take (j * n) := by
    intro j l
    induction l generalizing j with
    | nil => simp
    | cons x xs ih =>
      intro hl
      have hx := hl x (by simp)
      cases j with
      | zero => simp
      | succ j =>
        have := ih j (fun e he => hl e (by simp [he]))
        simp only [List.take_succ_cons, List.flatMap_cons, this, List.take_append, hx, Nat.add_mul, Nat.one_mul, Nat.add_sub_cancel]
        rw [List.take_of_length_le (show x.cells.length ≤ j * n + n by omega)]
  have e2 : ∀ (j : Nat) (l : List AV), (∀ e ∈ l, e.cells.length = n) → (l.drop j).flatMap AV.cells = (l.flatMap AV.cells).drop (j * n) := by
    intro j l
    induction l generalizing j with
    | nil => simp
    | cons x xs ih =>
      intro hl
      have hx := hl x (by simp)
      cases j with
      | zero => simp
      | succ j =>
        have := ih j (fun e he => hl e (by simp [he]))
        simp only [List.drop_succ_cons, List.flatMap_cons, this, List.drop_append, hx, Nat.add_mul, Nat.one_mul, Nat.add_sub_cancel]
        rw [List.drop_eq_nil_of_le (show x.cells.length ≤ j * n + n by omega)]
        simp
  rw [List.flatMap_append, List.flatMap_append, e1 k es hw, e2 _ es hw]
  unfold spl
  rw [flat_len hs, ← Nat.add_mul]

theorem app_sound {t t2 : TypeId} {ty : TypeId} {s x : AV} {cs cx : Value} {nx : Nat} {e : Eff}
    (h : appA P t t2 s x gi nx = some e) (hg : ∀ i ∈ e.rd, g i = gi i) (hi : Inv φ m g w) (hfr : nx < e.nx → g nx = none ∧ m nx = none)
    (hs : VR φ m s cs) (hx : VR φ m x cx) :
    ∃ cv w', (Builtin.append_ #[t, t2] ty #[cs, cx]).run P w = .ok cv w' ∧ Post φ m g w e cv w' := by
  unfold appA at h
  split at h
  · cases h
  rename_i el ts bytes hel
  split at h
  · cases h
  rename_i hk
  simp only [Bool.not_eq_true, Bool.not_eq_false'] at hk
  split at h
  · cases h
  rename_i z hz
  split at h
  · cases h
  rename_i hzb
  split at h
  · cases h
  rename_i src is hsrc
  split at h
  · cases h
  rename_i hwd
  simp only [Bool.not_eq_true, Bool.not_eq_false'] at hwd
  obtain ⟨hu, hts, i, hinf, hisz, hib, hipos⟩ := elt_some hel
  have hw := widths_iff hwd
  obtain ⟨i', zv, hinf', hzv, rfl, hzrun⟩ := zer_run hz w
  rw [hinf] at hinf'; cases hinf'
  have hzone : (ofV zv).cells.all AV.one = true := by
    cases hq : (ofV zv).cells.all AV.one with
    | true => rfl
    | false => exact absurd (.inr (.inr (.inr hq))) hzb
  have hzc : zv.cells.size = i.size := by
    have := VRL_len (ofV_cells (φ := φ) (m := m) hzone)
    simp only [Array.length_toList] at this
    omega
  have hb0 : 0 < i.bytes := by omega
  have hbl : i.bytes ≤ 1048576 := by omega
  have hsrcw : ∀ e ∈ src, e.cells.length = ts.size := fun e he => (hw e he).1
  cases s with
  | nilsl =>
    simp only at h
    split at h
    · rename_i hroom
      simp only [Option.some.injEq] at h; subst h
      obtain ⟨hgn, hmn⟩ := hfr (by simp)
      obtain ⟨news, hS, hnv⟩ := src_any hi hk hsrc (fun i hi => hg i hi) hx hw
      rw [← hisz] at hS
      simp only [VR] at hs
      obtain ⟨ad, rfl⟩ := hs
      by_cases h0 : src.length = 0
      · have : src = [] := List.eq_nil_of_length_eq_zero h0
        subst this
        have hn0 : news = [] := by simp [VRL] at hnv; exact hnv
        subst hn0
        obtain ⟨p1, p2, p3⟩ := new_nil (ad := ad) (esz := ts.size) hi hmn hgn (by omega)
        exact ⟨_, w, run_append_nothing (P := P) w t t2 ty el i hu hinf ad 0 0 (Nat.le_refl _) cx hS, _, _, p1, p2, p3, put_new (by simp) (by simp [lkp])⟩
      · obtain ⟨a, cap, r1, r2, r3, r4⟩ := app_grow (φ := φ) (ty := ty) (base := ad) (sLen := 0) (sCap := 0) (es := []) (olds := []) hu hinf hzv hzc (by cases ad <;> simp [Builtin.firstCells, loadCells, loadCellsFrom])
          (by simp [VRL]) rfl (by simp) hS hnv (by omega) (by rw [Nat.zero_add, hib]; exact hroom) hbl hb0
        obtain ⟨p1, p2, p3⟩ := new_arr (w' := w.drew.alloc (.cells a el)) (cap := cap) (t := el) (a := a) (esz := ts.size) (es := src) hi hmn hgn (by omega) hw (by omega) (by rw [r2, hisz]) (by simpa [hisz] using r4) rfl rfl rfl rfl
        refine ⟨_, _, r1, _, _, ?_, p2, p3, put_new (by simp) (by simp [lkp])⟩
        simpa using p1
    · cases h
  | osl id off len tot =>
    simp only at h
    split at h
    · rename_i esz es hgi
      split at h
      · rename_i hb
        obtain ⟨hesz, htot, hroom⟩ := hb
        simp only [VR] at hs
        obtain ⟨_, l, hm, _, hv⟩ := hs
        have fin : ∀ (hgid : g id = some (.arr esz es false)) (news : List Value) (hS : Src P i.size t2 cx src.length news w) (hnv : VRL φ LM.none (src.flatMap AV.cells) news),
            (off = 0 ∧ len = es.length → ∃ cv w', (Builtin.append_ #[t, t2] ty #[cs, cx]).run P w = .ok cv w' ∧ Post φ m g w ⟨.osl id 0 (len + src.length) (tot + src.length), id :: is, [(id, .arr esz (es ++ src) false)], nx⟩ cv w') ∧
            (off + len + src.length ≤ es.length → ∃ cv w', (Builtin.append_ #[t, t2] ty #[cs, cx]).run P w = .ok cv w' ∧
              Post φ m g w ⟨.osl id off (len + src.length) tot, id :: is, [(id, .arr esz (es.take (off + len) ++ src ++ es.drop (off + len + src.length)) false)], nx⟩ cv w') := by
          intro hgid news hS hnv
          obtain ⟨l', hm', hr⟩ := hi.own id _ hgid
          rw [hm] at hm'; cases hm'
          obtain ⟨ad, rfl, had⟩ := hv (by rw [hr.top]; exact htot)
          obtain ⟨b1, b2, b3, b4, b5⟩ := hr.arr esz es false rfl
          have hnl := hS.newsLen
          have hesi : esz = i.size := by omega
          refine ⟨fun ⟨ho, hl⟩ => ?_, fun hin => ?_⟩
          · subst ho
            by_cases h0 : src.length = 0
            · have : src = [] := List.eq_nil_of_length_eq_zero h0
              subst this
              have hn0 : news = [] := by simp [VRL] at hnv; exact hnv
              subst hn0
              refine ⟨_, w, run_append_nothing (P := P) w t t2 ty el i hu hinf ad len (l.cap - 0) (by omega) cx hS, φ, m, ?_, ?_, ?_, fun _ _ h => h⟩
              · simp only [VR]
                exact ⟨rfl, l, hm, by simp; omega, fun _ => ⟨ad, rfl, had⟩⟩
              · simp only [List.append_nil]; rw [upd_self hgid]; exact hi
              · simp only [List.append_nil]; rw [upd_self hgid]; exact Fr.refl ..
            · by_cases hcap : len + src.length ≤ l.cap
              · obtain ⟨a, te, c1, c2, c3, c4⟩ := b5.resolve_left (by omega)
                have had' := had (by omega)
                subst had'
                simp only [if_neg (by simp : ¬ (false = true))] at c3
                have hmul : (len + src.length) * esz ≤ l.cap * esz := Nat.mul_le_mul_right _ hcap
                rw [Nat.add_mul] at hmul
                have hroomle : 0 * l.esz + len * i.size + news.length ≤ a.size := by
                  have h1 : news.length = src.length * esz := by rw [hnl, hesi]
                  rw [h1, ← hesi, c2]; simp only [Nat.zero_mul, Nat.zero_add]; omega
                have hrun := run_append_room_at (P := P) (ty := ty) (o0 := 0 * l.esz) (sLen := len) (sCap := l.cap - 0) hu hinf hS (by omega) c1 hroomle
                refine ⟨_, _, hrun, φ, putM m id { l with top := len + src.length }, ?_, (and_assoc.1 ⟨?_, fun i _ h => put_old hm i h⟩)⟩
                · simp only [VR]
                  refine ⟨rfl, { l with top := len + src.length }, by simp [putM], by simp; omega, fun _ => ⟨_, rfl, fun _ => by simp⟩⟩
                · refine inv_repl hi hgid hm (fun _ => c3) (by simp; rw [hr.top]; simp [Ob.len]; omega) (fun e => ?_) (fun h => .inl ⟨h, rfl⟩) rfl rfl rfl (by rw [setRow_size]; exact Nat.le_refl _) (fun b hb hne => setRow_other _ _ _ (hne (by omega))) ⟨?_, fun cs' e => (by cases e), fun _ _ _ e => ?_⟩
                  · simp at e; rw [hr.top] at e; simp [Ob.len] at e; omega
                  · simp [Ob.len]; omega
                  · cases e
                    have hal : a.toList.length = l.cap * esz := by simpa using c2
                    have hnl' : news.length = src.length * esz := by rw [hnl, hesi]
                    refine ⟨b1, b2, fun e he => ?_, by simp; omega, .inr ⟨_, te, setRow_heap' c1 _, ?_, by simpa using c3, ?_⟩⟩
                    · rcases List.mem_append.1 he with h1 | h1
                      · exact b3 e h1
                      · rw [hesi, hisz]; exact hw e h1
                    · simp only [List.size_toArray, List.length_append, List.length_take, List.length_drop, hal, hnl', Nat.zero_mul, Nat.zero_add, ← hesi]
                      omega
                    · rw [List.flatMap_append]
                      simp only [Nat.zero_mul, Nat.zero_add, ← hesi]
                      have hlt : (a.toList.take (len * esz)).length = len * esz := by rw [List.length_take, hal]; omega
                      have hlt2 : (es ++ src).length * esz = (a.toList.take (len * esz) ++ news).length := by rw [List.length_append (as := a.toList.take (len * esz)), hlt, hnl', List.length_append, Nat.add_mul, ← hl]
                      have e1 : (a.toList.take (len * esz) ++ news ++ a.toList.drop (len * esz + news.length)).take ((es ++ src).length * esz) = a.toList.take (len * esz) ++ news := by
                        rw [hlt2, List.take_left]
                      rw [e1]
                      refine VRL_append ?_ hnv
                      rw [hl]; exact c4
              · have hold : (Builtin.firstCells i.size len (.slice ad len (l.cap - 0))).run P w.drew = .ok (if 0 < l.cap then (match w.heap[l.blk]? with | some (.cells a _ _) => a.toList.take (len * esz) | _ => []) else []).toArray w.drew ∧
                    VRL φ LM.none (es.flatMap AV.cells) (if 0 < l.cap then (match w.heap[l.blk]? with | some (.cells a _ _) => a.toList.take (len * esz) | _ => []) else []) := by
                  by_cases hc : 0 < l.cap
                  · obtain ⟨a, te, c1, c2, c3, c4⟩ := b5.resolve_left (by omega)
                    rw [if_pos hc, c1]
                    simp only
                    have had' := had (by omega)
                    subst had'
                    have hal : a.toList.length = l.cap * esz := by simpa using c2
                    have hle : len * esz ≤ l.cap * esz := Nat.mul_le_mul_right _ (by omega)
                    refine ⟨?_, by rw [hl]; exact c4⟩
                    simp only [Builtin.firstCells, Nat.zero_mul]
                    refine loadCells_vals (w := w.drew) (by rw [List.length_take, hal, ← hesi]; omega) fun j v hj => ?_
                    have : w.drew.cell? ⟨l.blk, 0 + j, none⟩ = w.cell? ⟨l.blk, 0 + j, none⟩ := rfl
                    rw [this, cell_at c1]
                    rw [List.getElem?_take] at hj
                    split at hj
                    · simpa using hj
                    · cases hj
                  · rw [if_neg hc]
                    have hl0 : len = 0 := by omega
                    have he0 : es = [] := List.eq_nil_of_length_eq_zero (by omega)
                    subst he0
                    refine ⟨?_, by simp [VRL]⟩
                    cases ad <;> simp [Builtin.firstCells, hl0, loadCells, loadCellsFrom]
                obtain ⟨a, cap, r1, r2, r3, r4⟩ := app_grow (φ := φ) (ty := ty) (base := ad) (sLen := len) (sCap := l.cap - 0) (es := es) hu hinf hzv hzc hold.1 hold.2 hl.symm (fun e he => by rw [(b3 e he).1, hesi]) hS hnv (by omega) (by rw [hib]; exact hroom) hbl hb0
                refine ⟨_, _, r1, φ, putM m id ⟨w.heap.size, esz, cap, len + src.length⟩, ?_, (and_assoc.1 ⟨?_, fun i _ h => put_old hm i h⟩)⟩
                · simp only [VR]
                  exact ⟨rfl, _, by simp [putM]; rfl, by simp; omega, fun _ => ⟨_, by simp; rfl, fun _ => by simp⟩⟩
                · refine inv_repl hi hgid hm (fun hc => ?_) (by simp; rw [hr.top]; simp [Ob.len]; omega) (fun e => ?_) (fun _ => .inr (Nat.le_refl _)) rfl rfl rfl (by simp) (fun b hb _ => ?_) ⟨?_, fun cs' e => (by cases e), fun _ _ _ e => ?_⟩
                  · obtain ⟨a', te, c1, c2, c3, c4⟩ := b5.resolve_left (by omega)
                    simpa using c3
                  · simp at e; rw [hr.top] at e; simp [Ob.len] at e; omega
                  · show (w.heap.push _)[b]? = _
                    rw [Array.getElem?_push, if_neg (by omega)]
                  · simp [Ob.len]; omega
                  · cases e
                    refine ⟨rfl, b2, fun e he => ?_, by simp; omega, .inr ⟨a, el, ?_, by simp [r2, hesi], ?_, by rw [hesi]; exact r4⟩⟩
                    · rcases List.mem_append.1 he with h1 | h1
                      · exact b3 e h1
                      · rw [hesi, hisz]; exact hw e h1
                    · show (w.heap.push _)[w.heap.size]? = _
                      simp
                    · simp only [if_neg (by simp : ¬ (false = true))]
                      cases hp : φ w.heap.size with
                      | none => rfl
                      | some o => have := (Array.getElem?_eq_some_iff.1 (hi.fz _ _ hp)).1; simp at this
          · by_cases hcap : 0 < l.cap
            · obtain ⟨a, te, c1, c2, c3, c4⟩ := b5.resolve_left (by omega)
              have hal : a.toList.length = l.cap * esz := by simpa using c2
              have hmul : (off + len + src.length) * esz ≤ es.length * esz := Nat.mul_le_mul_right _ hin
              have hmul2 : es.length * esz ≤ l.cap * esz := Nat.mul_le_mul_right _ b4
              have hnl' : news.length = src.length * esz := by rw [hnl, hesi]
              rw [Nat.add_mul, Nat.add_mul] at hmul
              by_cases hofc : off < l.cap
              · have had' := had hofc
                subst had'
                have hrun := run_append_room_at (P := P) (ty := ty) (o0 := off * l.esz) (sLen := len) (sCap := l.cap - off) hu hinf hS (by omega) c1 (by rw [b1, ← hesi, hnl']; simp at hal; omega)
                have hput := put_arr hi hgid hm hcap (es' := es.take (off + len) ++ src ++ es.drop (off + len + src.length)) (by simp; omega) (fun e he => by
                    rcases List.mem_append.1 he with h1 | h1
                    · rcases List.mem_append.1 h1 with h2 | h2
                      · exact b3 e (List.mem_of_mem_take h2)
                      · rw [hesi, hisz]; exact hw e h2
                    · exact b3 e (List.mem_of_mem_drop h1)) c1 hnv (k := (off + len) * esz) (by rw [flat_len hsrcw, ← hisz, ← hesi, Nat.add_mul]; omega)
                  (flat_seg (fun e he => (b3 e he).1) (fun e he => by rw [hesi, hisz]; exact hsrcw e he) hin)
                refine ⟨_, _, hrun, φ, m, ?_, (and_assoc.1 ⟨?_, fun _ _ h => h⟩)⟩
                · simp only [VR]
                  exact ⟨rfl, l, hm, by rw [hr.top]; simp [Ob.len]; omega, fun _ => ⟨_, rfl, fun _ => rfl⟩⟩
                · have e2 : off * l.esz + len * i.size = (off + len) * esz := by rw [b1, ← hesi, Nat.add_mul]
                  rw [e2]
                  exact hput
              · have hl0 : src.length = 0 := by omega
                have : src = [] := List.eq_nil_of_length_eq_zero hl0
                subst this
                have hn0 : news = [] := by simp [VRL] at hnv; exact hnv
                subst hn0
                refine ⟨_, w, run_append_nothing (P := P) w t t2 ty el i hu hinf ad len (l.cap - off) (by omega) cx hS, φ, m, ?_, ?_, ?_, fun _ _ h => h⟩
                · simp only [VR]
                  exact ⟨rfl, l, hm, by rw [hr.top]; simp [Ob.len]; omega, fun _ => ⟨ad, rfl, had⟩⟩
                · simp only [List.append_nil, List.length_nil, Nat.add_zero, List.take_append_drop]; rw [upd_self hgid]; exact hi
                · simp only [List.append_nil, List.length_nil, Nat.add_zero, List.take_append_drop]; rw [upd_self hgid]; exact Fr.refl ..
            · have hl0 : src.length = 0 := by omega
              have : src = [] := List.eq_nil_of_length_eq_zero hl0
              subst this
              have hn0 : news = [] := by simp [VRL] at hnv; exact hnv
              subst hn0
              refine ⟨_, w, run_append_nothing (P := P) w t t2 ty el i hu hinf ad len (l.cap - off) (by omega) cx hS, φ, m, ?_, ?_, ?_, fun _ _ h => h⟩
              · simp only [VR]
                exact ⟨rfl, l, hm, by rw [hr.top]; simp [Ob.len]; omega, fun _ => ⟨ad, rfl, had⟩⟩
              · simp only [List.append_nil, List.length_nil, Nat.add_zero, List.take_append_drop]; rw [upd_self hgid]; exact hi
              · simp only [List.append_nil, List.length_nil, Nat.add_zero, List.take_append_drop]; rw [upd_self hgid]; exact Fr.refl ..
        split at h
        · rename_i hc
          simp only [Option.some.injEq] at h; subst h
          obtain ⟨news, hS, hnv⟩ := src_any hi hk hsrc (fun i hi => hg i (by simp [hi])) hx hw
          rw [← hisz] at hS
          exact (fin ((hg id (by simp)).trans hgi) news hS hnv).1 hc
        · split at h
          · rename_i hc
            simp only [Option.some.injEq] at h; subst h
            obtain ⟨news, hS, hnv⟩ := src_any hi hk hsrc (fun i hi => hg i (by simp [hi])) hx hw
            rw [← hisz] at hS
            exact (fin ((hg id (by simp)).trans hgi) news hS hnv).2 hc
          · cases h
      · cases h
    · cases h
  | _ => cases h
end
end Go.Proofs.Ytfhglldoejeedaa.Am
