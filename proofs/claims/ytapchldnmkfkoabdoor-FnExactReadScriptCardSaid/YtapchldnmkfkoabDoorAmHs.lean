import Derived.Test.YtapchldnmkfkoabDoorAmMe
set_option linter.unusedVariables false
set_option linter.unusedSimpArgs false
set_option linter.unusedSectionVars false
namespace Go.Proofs.YtapchldnmkfkoabDoor.Am
open Go

/-! ## An own row that stands in an element of a row becomes a part of it -/
def abc (j : Nat) (r : List AV) : AV → AV
  | .osl i o l t => if i = j then .fsl r else .osl i o l t
  | c => c
def abe (j : Nat) (r : List AV) : AV → AV
  | .agg cs => .agg (cs.map (abc j r))
  | v => abc j r v
/-- Row j (of length n, its elements z wide) is borne only as a whole, where such a row may stand. -/
def okX (j n z : Nat) (y : Nat) : AV → Bool
  | .osl i o l t => i != j || (o == 0 && l == n && t == n && y == z)
  | .optr i _ _ => i != j
  | .eptr i _ _ _ => i != j
  | .slf i _ => i != j
  | .agg cs => !(idsL cs).contains j
  | .tup cs => !(idsL cs).contains j
  | .func _ a c => !(idsL a).contains j && !(idsL c).contains j
  | _ => true
def okC (j n z : Nat) : List Nat → List AV → Bool
  | _, [] => true
  | zs, c :: cs => okX j n z (zs.headD 0) c && okC j n z zs.tail cs
def okA (j n z : Nat) (zs : List Nat) : List AV → Bool
  | [] => true
  | e :: es => okC j n z zs e.cells && okA j n z zs es
def absO (id j : Nat) (r : List AV) (i : Nat) (o : Ob) : Ob := if i = id then (match o with | .nar z es zs => .nar z (es.map (abe j r)) zs | o => o) else if i = j then .gone r.length else o
def absS (id j : Nat) (r : List AV) (s : St) : St := ⟨s.tm, s.hp.map fun p => (p.1, absO id j r p.1 p.2), s.nx⟩

theorem lkp_mapO {f : Nat → Ob → Ob} : ∀ (hp : Hp) (j : Nat), lkp (hp.map fun p => (p.1, f p.1 p.2)) j = (lkp hp j).map (f j)
  | [], j => rfl
  | (u, v) :: hp, j => by
    have := lkp_mapO (f := f) hp j
    simp only [List.map_cons, lkp_cons]
    split
    · rename_i e; subst e; rfl
    · exact this
theorem okC_get {j n z : Nat} : ∀ {zs : List Nat} {cs : List AV}, okC j n z zs cs = true → ∀ {i : Nat} {c : AV}, cs[i]? = some c → okX j n z (zs.getD i 0) c = true
  | zs, [], _, i, c, h => by simp at h
  | zs, x :: cs, h, i, c, hc => by
    simp only [okC, Bool.and_eq_true] at h
    cases i with
    | zero =>
      simp at hc; subst hc
      cases zs <;> simpa using h.1
    | succ i =>
      have := okC_get h.2 (i := i) (c := c) (by simpa using hc)
      cases zs <;> simpa using this
theorem okA_all {j n z : Nat} {zs : List Nat} : ∀ {es : List AV}, okA j n z zs es = true → ∀ e ∈ es, okC j n z zs e.cells = true
  | [], _, e, h => by simp at h
  | x :: es, h, e, he => by
    simp only [okA, Bool.and_eq_true] at h
    rcases List.mem_cons.1 he with rfl | he
    · exact h.1
    · exact okA_all h.2 e he
theorem ids_uniq {j : Nat} : ∀ {cs : List AV}, (idsL cs).count j ≤ 1 → ∀ {k k' : Nat} {c c' : AV}, cs[k]? = some c → cs[k']? = some c' → j ∈ ids c → j ∈ ids c' → k = k'
  | [], _, k, k', c, c', h, _, _, _ => by simp at h
  | x :: cs, hc, k, k', c, c', h1, h2, h3, h4 => by
    simp only [idsL, List.count_append] at hc
    cases k with
    | zero =>
      simp at h1; subst h1
      have a1 := List.count_pos_iff.2 h3
      cases k' with
      | zero => rfl
      | succ k' =>
        have a2 := List.count_pos_iff.2 (idsL_get (cs := cs) (i := k') (by simpa using h2) h4)
        omega
    | succ k =>
      cases k' with
      | zero =>
        simp at h2; subst h2
        have a1 := List.count_pos_iff.2 h4
        have a2 := List.count_pos_iff.2 (idsL_get (cs := cs) (i := k) (by simpa using h1) h3)
        omega
      | succ k' =>
        have := ids_uniq (cs := cs) (by omega) (k := k) (k' := k') (by simpa using h1) (by simpa using h2) h3 h4
        omega
theorem idsL_flat : ∀ (es : List AV), (∀ e ∈ es, e.cells.all AV.one = true) → idsL (es.flatMap AV.cells) = idsL es
  | [], _ => by simp
  | e :: es, h => by
    rw [List.flatMap_cons, idsL_app, idsL_flat es (fun x hx => h x (by simp [hx]))]
    have h1 := h e (by simp)
    simp only [idsL]
    congr 1
    cases e <;> simp [AV.cells, idsL, ids]
theorem abe_cells {j : Nat} {r : List AV} (e : AV) : (abe j r e).cells = e.cells.map (abc j r) := by
  cases e <;> simp only [abe, AV.cells, abc, List.map_cons, List.map_nil]
  split
  · rename_i h; split at h <;> cases h
  · rfl
theorem abc_one {j : Nat} {r : List AV} {c : AV} (h : c.one = true) : (abc j r c).one = true := by
  cases c <;> simp [abc] <;> (try exact h)
  split <;> rfl
theorem mem_idsK {j : Nat} : ∀ {cs : List AV}, j ∈ idsL cs → ∃ (k : Nat) (c : AV), cs[k]? = some c ∧ j ∈ ids c
  | [], h => by simp at h
  | c :: cs, h => by
    simp only [idsL, List.mem_append] at h
    rcases h with h | h
    · exact ⟨0, c, rfl, h⟩
    · obtain ⟨k, c', h1, h2⟩ := mem_idsK h
      exact ⟨k + 1, c', by simpa using h1, h2⟩
theorem abc_no {j : Nat} {r : List AV} {c : AV} (h : j ∉ ids c) : abc j r c = c := by
  cases c <;> simp [abc]
  rintro rfl; simp [ids] at h

theorem Wk.abs {P : Program} {Γ : Cx} {s : St} {id j z esz : Nat} {es row : List AV} {zs js : List Nat} (hg : lkp s.hp id = some (.nar esz es zs)) (hgj : lkp s.hp j = some (.arr z row false)) (hne : id ≠ j)
    (hids : idsL es = j :: js) (hnj : js.contains j = false) (hpl : plainL row = true) (hok : okA j row.length z zs es = true) : Wk P Γ s (absS id j row s) := by
  intro a w ⟨φ, m, h1, h2⟩
  obtain ⟨l, hm, hr⟩ := h1.inv.own id _ hg
  obtain ⟨lj, hmj, hrj⟩ := h1.inv.own j _ hgj
  obtain ⟨b1, b2, b3, b4, b5, vs, F, b6, b7, b8⟩ := hr.oth
  obtain ⟨d1, d2, d3, d4, d5⟩ := hrj.arr z row false rfl
  have htj : lj.top = row.length := hrj.top
  have hcnt : (idsL (es.flatMap AV.cells)).count j ≤ 1 := by
    rw [idsL_flat es (fun e he => (b3 e he).2), hids, List.count_cons_self]
    have : js.count j = 0 := List.count_eq_zero.2 (by simpa using hnj)
    omega
  obtain ⟨k0, c0, hc0, hj0⟩ : ∃ (k : Nat) (c : AV), (es.flatMap AV.cells)[k]? = some c ∧ j ∈ ids c := mem_idsK (by rw [idsL_flat es (fun e he => (b3 e he).2), hids]; simp)
  have hfl : (es.flatMap AV.cells).length = es.length * esz := flat_len (fun e he => (b3 e he).1)
  have hk0 : k0 < es.length * esz := by rw [← hfl]; exact (List.getElem?_eq_some_iff.1 hc0).1
  -- the cell
  have hix : k0 / esz < es.length := Nat.div_lt_of_lt_mul (by rw [Nat.mul_comm]; exact hk0)
  have hoff : k0 % esz < esz := Nat.mod_lt _ b2
  have hsplit : k0 / esz * esz + k0 % esz = k0 := Nat.div_add_mod' k0 esz
  have hce : (es[k0 / esz]).cells[k0 % esz]? = some c0 := by
    rw [← hc0, ← flat_at (fun e he => (b3 e he).1) (List.getElem?_eq_getElem hix) hoff, hsplit]
  have hx := okC_get (okA_all hok _ (List.getElem_mem hix)) hce
  have hone : c0.one = true := by
    obtain ⟨e, he, hce⟩ := List.mem_flatMap.1 (List.mem_of_getElem? hc0)
    exact (List.all_eq_true.1 (b3 e he).2) _ hce
  obtain ⟨rfl, hzz⟩ : c0 = .osl j 0 row.length row.length ∧ zs.getD (k0 % esz) 0 = z := by
    cases c0 <;> simp only [ids, List.mem_singleton, List.not_mem_nil] at hj0 <;> (try exact hj0.elim) <;> (try (simp [AV.one] at hone; done))
    · subst hj0; simp only [okX, bne_self_eq_false, Bool.false_or, Bool.and_eq_true, beq_iff_eq] at hx
      obtain ⟨⟨⟨rfl, rfl⟩, rfl⟩, hz⟩ := hx
      exact ⟨rfl, hz⟩
    · subst hj0; simp [okX] at hx
    · subst hj0; simp [okX] at hx
    · simp only [okX, Bool.and_eq_true, Bool.not_eq_true', List.contains_eq_mem, decide_eq_false_iff_not] at hx
      simp only [List.mem_append] at hj0
      rcases hj0 with h | h
      · exact (hx.1 h).elim
      · exact (hx.2 h).elim
    · subst hj0; simp [okX] at hx
  have hv0 : k0 < vs.length := by rw [b6.1, hfl]; exact hk0
  have hN := b6.2.1 k0 _ vs[k0] hc0 (List.getElem?_eq_getElem hv0)
  obtain ⟨_, hvr, hF0⟩ := hN.resolve_right (by rintro ⟨es', _, _, h, _⟩; cases h)
  simp only [VR] at hvr
  obtain ⟨_, lj', hmj', _, hv⟩ := hvr
  rw [hmj] at hmj'; cases hmj'
  obtain ⟨ad, hsl, had⟩ := hv htj.symm
  rw [Nat.sub_zero] at hsl
  let l' : Loc := { l with sub := if 0 < lj.cap then lj.blk :: l.sub else l.sub }
  have hmem : ∀ {x : Nat}, x ∈ l'.sub ↔ x ∈ l.sub ∨ (0 < lj.cap ∧ x = lj.blk) := fun {x} => by
    show x ∈ (if 0 < lj.cap then lj.blk :: l.sub else l.sub) ↔ _
    split
    · rename_i h; simp only [List.mem_cons, h, true_and]; exact Or.comm
    · rename_i h; simp [h]
  have hcap0 : 0 < l.cap := Nat.lt_of_lt_of_le (Nat.lt_of_le_of_lt (Nat.zero_le _) hix) b4
  have hjf : 0 < lj.cap → (Ob.arr z row false).fp lj lj.blk := fun h => ⟨h, rfl⟩
  have hjne : 0 < lj.cap → lj.blk ≠ l.blk := fun h e => h1.inv.sep _ _ _ _ _ _ lj.blk hgj hg hmj hm (fun e => hne e.symm) (hjf h) (.inl ⟨hcap0, e.symm⟩)
  have hjns : 0 < lj.cap → lj.blk ∉ l.sub := fun h e => h1.inv.sep _ _ _ _ _ _ lj.blk hgj hg hmj hm (fun e => hne e.symm) (hjf h) (.inr e)
  have hext : Ext m (putM m id l') := Ext.put1 hm (Nat.le_refl _) (fun _ => ⟨rfl, rfl, rfl⟩)
  have hcs : (es.map (abe j row)).flatMap AV.cells = (es.flatMap AV.cells).map (abc j row) := by
    rw [List.flatMap_map, List.map_flatMap]
    congr 1; funext e; exact abe_cells e
  have hr' : ObR φ (putM m id l') w l' (.nar esz (es.map (abe j row)) zs) := by
    refine ⟨by rw [show l'.top = l.top from rfl, hr.top]; simp [Ob.len], (fun _ e => by cases e), (fun _ _ _ e => by cases e), ⟨b1, b2, fun e he => ?_, by simpa using b4, fun x hx => ?_, vs, fun k => if k = k0 then (if 0 < lj.cap then some lj.blk else none) else F k, ⟨?_, fun k c v hc hvk => ?_, fun k k' b e1 e2 => ?_, fun k hk => ?_⟩, fun k b e1 => ?_, by simpa using b8⟩⟩
    · obtain ⟨e0, he0, rfl⟩ := List.mem_map.1 he
      rw [abe_cells, List.length_map]
      refine ⟨(b3 e0 he0).1, ?_⟩
      rw [List.all_map, List.all_eq_true]
      exact fun c hc => abc_one ((List.all_eq_true.1 (b3 e0 he0).2) c hc)
    · rcases hmem.1 hx with hx | ⟨h0, rfl⟩
      · exact b5 x hx
      · obtain ⟨a', t', c1, _, c3, _⟩ := d5.resolve_left (by omega)
        exact ⟨by simpa using c3, ⟨_, c1⟩, fun _ => hjne h0⟩
    · rw [hcs, List.length_map]; exact b6.1
    · rw [hcs, List.getElem?_map, Option.map_eq_some_iff] at hc
      obtain ⟨c1, hc1, rfl⟩ := hc
      show NRc φ _ w _ _ v (if k = k0 then (if 0 < lj.cap then some lj.blk else none) else F k)
      by_cases hk : k = k0
      · subst hk
        rw [hc0] at hc1; cases hc1
        rw [List.getElem?_eq_getElem hv0] at hvk; cases hvk
        rw [if_pos rfl]
        refine .inr ⟨row, ad, lj.cap, by simp [abc], hsl, d4, fun _ e he => by rw [hzz]; exact d3 e he, hpl, ?_⟩
        by_cases h0 : 0 < lj.cap
        · rw [if_pos h0]
          obtain ⟨a', t', c1, c2, c3, c4⟩ := d5.resolve_left (by omega)
          refine .inr ⟨h0, lj.blk, a', t', ?_, rfl, c1, by rw [hzz]; exact d2, by rw [hzz]; exact c2, by rw [hzz]; exact fun _ => plainL_any _ (plainL_flat hpl) c4⟩
          have := had h0
          rw [this]; simp
        · rw [if_neg h0]
          exact .inl ⟨by omega, rfl⟩
      · rw [if_neg hk]
        have hnj' : j ∉ ids c1 := fun h => hk (ids_uniq hcnt hc1 hc0 h hj0)
        rw [abc_no hnj']
        exact (b6.2.1 k c1 v hc1 hvk).mono (FM.le_refl _) hext (fun _ _ => rfl)
    · have key : ∀ k b, (if k = k0 then (if 0 < lj.cap then some lj.blk else none) else F k) = some b → (k = k0 ∧ 0 < lj.cap ∧ b = lj.blk) ∨ (k ≠ k0 ∧ F k = some b) := by
        intro k b h
        split at h
        · rename_i hk
          split at h
          · rename_i h0; cases h; exact .inl ⟨hk, h0, rfl⟩
          · cases h
        · rename_i hk; exact .inr ⟨hk, h⟩
      rcases key k b e1 with ⟨g1, g2, g3⟩ | ⟨g1, g2⟩ <;> rcases key k' b e2 with ⟨q1, q2, q3⟩ | ⟨q1, q2⟩
      · omega
      · exact (hjns g2 (by rw [← g3]; exact b7 _ _ q2)).elim
      · exact (hjns q2 (by rw [← q3]; exact b7 _ _ g2)).elim
      · exact b6.2.2.1 k k' b g2 q2
    · dsimp only
      rw [hcs, List.length_map] at hk
      rw [if_neg (by rw [hfl] at hk; omega)]
      exact b6.2.2.2 k hk
    · dsimp only at e1
      split at e1
      · split at e1
        · rename_i h0; cases e1; exact hmem.2 (.inr ⟨h0, rfl⟩)
        · cases e1
      · exact hmem.2 (.inl (b7 k b e1))
  obtain ⟨i1, f1⟩ := inv_absorb (w' := w) (l' := l') (ob' := .nar esz (es.map (abe j row)) zs) h1.inv hg hm hgj hmj hne (n := row.length) rfl (Nat.le_refl _) (fun _ => ⟨rfl, rfl, rfl⟩)
    (fun b hb => by
      rcases hb with hb | hb
      · exact .inl (.inl hb)
      · rcases hmem.1 hb with hb | ⟨h0, rfl⟩
        · exact .inl (.inr hb)
        · exact .inr (.inl (hjf h0))) rfl rfl rfl (Nat.le_refl _) (fun _ _ _ => rfl) (fun b hb => by
      rcases hb with ⟨h0, rfl⟩ | hb
      · obtain ⟨_, _, _, _, c3, _⟩ := b8.resolve_left (by omega)
        exact c3
      · exact (b5 b hb).1) hr'
  have hup : lkp (absS id j row s).hp = upd (lkp s.hp) [(id, .nar esz (es.map (abe j row)) zs), (j, .gone row.length)] := by
    funext i
    show lkp (s.hp.map _) i = _
    rw [lkp_mapO, upd_two]
    unfold absO
    by_cases e1 : id = i
    · subst e1; rw [hg]; simp
    · rw [if_neg e1]
      by_cases e2 : j = i
      · subst e2; rw [hgj]; simp [hne.symm]
      · rw [if_neg e2]
        cases lkp s.hp i with
        | none => rfl
        | some o =>
          simp only [Option.map_some]
          rw [if_neg (fun h => e1 h.symm), if_neg (fun h => e2 h.symm)]
  refine ⟨φ, putM m id l', ⟨h1.sz, fun t => VR.mono (FM.le_refl _) _ hext (h1.vr t), by rw [hup]; exact i1, fun i hi => ?_, h1.df⟩, by rw [hup]; exact h2.trans f1⟩
  have : i ≠ id := by rintro rfl; rw [h1.fr _ hi] at hm; cases hm
  simp [putM, this, h1.fr i hi]

/-! A nil row in an element is an empty row of it. -/
def nlc : AV → AV
  | .nilsl => .fsl []
  | c => c
def nle : AV → AV
  | .agg cs => .agg (cs.map nlc)
  | v => nlc v
def nlO (id i : Nat) (o : Ob) : Ob := if i = id then (match o with | .nar z es zs => .nar z (es.map nle) zs | o => o) else o
def nlS (id : Nat) (s : St) : St := ⟨s.tm, s.hp.map fun p => (p.1, nlO id p.1 p.2), s.nx⟩
theorem nle_cells (e : AV) : (nle e).cells = e.cells.map nlc := by
  cases e <;> simp only [nle, AV.cells, nlc, List.map_cons, List.map_nil]
theorem nlc_one {c : AV} (h : c.one = true) : (nlc c).one = true := by
  cases c <;> simp [nlc] <;> (try exact h) <;> rfl
theorem Wk.nlc {P : Program} {Γ : Cx} {s : St} {id esz : Nat} {es : List AV} {zs : List Nat} (hg : lkp s.hp id = some (.nar esz es zs)) : Wk P Γ s (nlS id s) := by
  intro a w ⟨φ, m, h1, h2⟩
  obtain ⟨l, hm, hr⟩ := h1.inv.own id _ hg
  obtain ⟨b1, b2, b3, b4, b5, vs, F, b6, b7, b8⟩ := hr.oth
  have hcs : (es.map nle).flatMap AV.cells = (es.flatMap AV.cells).map Am.nlc := by
    rw [List.flatMap_map, List.map_flatMap]
    congr 1; funext e; exact nle_cells e
  have hr' : ObR φ m w l (.nar esz (es.map nle) zs) := by
    refine ⟨by rw [hr.top]; simp [Ob.len], (fun _ e => by cases e), (fun _ _ _ e => by cases e), ⟨b1, b2, fun e he => ?_, by simpa using b4, b5, vs, F, ⟨?_, fun k c v hc hvk => ?_, b6.2.2.1, fun k hk => ?_⟩, b7, by simpa using b8⟩⟩
    · obtain ⟨e0, he0, rfl⟩ := List.mem_map.1 he
      rw [nle_cells, List.length_map]
      refine ⟨(b3 e0 he0).1, ?_⟩
      rw [List.all_map, List.all_eq_true]
      exact fun c hc => nlc_one ((List.all_eq_true.1 (b3 e0 he0).2) c hc)
    · rw [hcs, List.length_map]; exact b6.1
    · rw [hcs, List.getElem?_map, Option.map_eq_some_iff] at hc
      obtain ⟨c1, hc1, rfl⟩ := hc
      have h3 := b6.2.1 k c1 v hc1 hvk
      cases c1 with
      | nilsl =>
        obtain ⟨_, h4, h5⟩ := h3.resolve_right (by rintro ⟨es', _, _, h, _⟩; cases h)
        simp only [VR] at h4
        obtain ⟨ad, rfl⟩ := h4
        exact .inr ⟨[], ad, 0, rfl, rfl, Nat.le_refl _, (fun _ e he => by cases he), by simp [plainL], .inl ⟨rfl, h5⟩⟩
      | _ => exact h3
    · rw [hcs, List.length_map] at hk
      exact b6.2.2.2 k hk
  have hup : lkp (nlS id s).hp = upd (lkp s.hp) [(id, .nar esz (es.map nle) zs)] := by
    funext i
    show lkp (s.hp.map _) i = _
    rw [lkp_mapO, upd_one]
    unfold nlO
    by_cases e1 : id = i
    · subst e1; rw [hg]; simp
    · rw [if_neg e1]
      cases lkp s.hp i with
      | none => rfl
      | some o => simp only [Option.map_some]; rw [if_neg (fun h => e1 h.symm)]
  have back : ∀ i ob, upd (lkp s.hp) [(id, .nar esz (es.map nle) zs)] i = some ob → ∃ ob0, lkp s.hp i = some ob0 ∧ ∀ l b, ob.fp l b → ob0.fp l b := fun i ob h => by
    rw [upd_one] at h
    split at h
    · rename_i e; subst e; cases h; exact ⟨_, hg, fun _ _ h => h⟩
    · exact ⟨ob, h, fun _ _ h => h⟩
  have i1 : Inv φ m (upd (lkp s.hp) [(id, .nar esz (es.map nle) zs)]) w := by
    refine ⟨h1.inv.fz, fun i ob h => ?_, fun i i' o o' k k' b k1 k2 k3 k4 k5 k6 k7 => ?_⟩
    · rw [upd_one] at h
      split at h
      · rename_i e; subst e; cases h; exact ⟨l, hm, hr'⟩
      · exact h1.inv.own i ob h
    · obtain ⟨o0, g1, g2⟩ := back i o k1
      obtain ⟨o0', g1', g2'⟩ := back i' o' k2
      exact h1.inv.sep _ _ _ _ _ _ b g1 g1' k3 k4 k5 (g2 _ _ k6) (g2' _ _ k7)
  refine ⟨φ, m, ⟨h1.sz, fun t => h1.vr t, by rw [hup]; exact i1, fun i hi => h1.fr i hi, h1.df⟩, by
    rw [hup]
    exact ⟨h2.φle, h2.ext, h2.os, h2.tape, h2.output, h2.size, h2.old, h2.newφ, fun b hb => by
      obtain ⟨i, ob, l', k1, k2, k3⟩ := hb
      obtain ⟨o0, g1, g2⟩ := back i ob k1
      exact h2.newm b ⟨i, o0, l', g1, k2, g2 _ _ k3⟩⟩⟩

/-! Rules -/
structure nid {α : Type} (e : α → AV) : Prop where
  h : ∀ x, ids (e x) = []
@[simp] theorem nid_int {k : IntKind} : nid (AV.int k) = True := eq_true ⟨fun x => by simp⟩
@[simp] theorem nid_bool : nid AV.bool = True := eq_true ⟨fun x => by simp⟩
@[simp] theorem nid_s : nid eS = True := eq_true ⟨fun x => by simp⟩
@[simp] theorem nid_sl {α : Type} {e : α → AV} : nid (eSl e) = True := eq_true ⟨fun x => by simp⟩
/-! A header, told as it is (or the empty row) -/
def eO : Option Value → AV
  | none => .fsl []
  | some v => .raw v
@[simp] theorem eO_none : eO none = .fsl [] := rfl
theorem eO_some {v : Value} : eO (some v) = .raw v := rfl
theorem inj_eO : Inj eO := ⟨fun a b h => by cases a <;> cases b <;> simp_all [eO]⟩
@[simp] theorem Inj_eO : Inj eO = True := eq_true inj_eO
@[simp] theorem eO_inj {x y : Option Value} : (eO x = eO y) = (x = y) := by
  refine propext ⟨fun h => ?_, fun h => by rw [h]⟩
  cases x <;> cases y <;> simp_all [eO]
@[simp] theorem ids_eO {x : Option Value} : ids (eO x) = [] := by cases x <;> simp [eO, ids]
@[simp] theorem one_eO {x : Option Value} : AV.one (eO x) = true := by cases x <;> rfl
@[simp] theorem cells_eO {x : Option Value} : AV.cells (eO x) = [eO x] := by cases x <;> rfl
@[simp] theorem frzW_eO {g bx} {x : Option Value} : frzW g bx (eO x) = some (eO x) := by cases x <;> simp [eO]
@[simp] theorem ren_eO {f : Nat → Nat} {x : Option Value} : ren f (eO x) = eO x := by cases x <;> simp [eO, ren]
@[simp] theorem fz_eO {x : Option Value} : fz (eO x) = eO x := by cases x <;> rfl
@[simp] theorem fzc_eO {x : Option Value} : fzc (eO x) = eO x := by cases x <;> rfl
@[simp] theorem hasH_eO {x : Option Value} : hasH (eO x) = false := by cases x <;> simp [eO, hasH]
@[simp] theorem nid_eO : nid eO = True := eq_true ⟨fun x => by simp⟩
@[simp] theorem wid_eO : wid eO 1 = True := eq_true ⟨by simp⟩
@[simp] theorem wv_eO {fl z} {x y : Option Value} : wv fl z (eO x) (eO y) = (x = y) := by
  cases x <;> cases y <;> simp [eO, wv]
@[simp] theorem wv_eO_nil {fl z} {x : Option Value} : wv fl z (eO x) .nilsl = (x = none) := by
  cases x <;> simp [eO, wv]
section
variable {α : Type} {e : α → AV} {j n z : Nat} {zs : List Nat} {r : List AV} {l : List α}
theorem idsL_nid (h : nid e) : idsL (List.map e l) = [] := by
  induction l with
  | nil => simp
  | cons x l ih => simp [h.h x, ih]
@[simp] theorem idsL_map (h : nid e) : idsL (List.map e l) = [] := idsL_nid h
@[simp] theorem idsL_appS {a b : List AV} : idsL (a ++ b) = idsL a ++ idsL b := idsL_app a b
theorem idsL_setS : ∀ {cs : List AV} {i : Nat} {x : AV}, idsL cs = [] → i < cs.length → idsL (cs.set i x) = ids x
  | [], i, x, _, h => by simp at h
  | c :: cs, 0, x, h, _ => by
    simp only [idsL, List.append_eq_nil_iff] at h
    simp [h.2]
  | c :: cs, i + 1, x, h, hi => by
    simp only [idsL, List.append_eq_nil_iff] at h
    simp [h.1, idsL_setS h.2 (by simpa using hi)]
@[simp] theorem idsL_set (h : nid e) {i : Nat} {x : AV} (hi : i < l.length) : idsL (List.set (List.map e l) i x) = ids x := idsL_setS (idsL_nid h) (by simpa using hi)
theorem abe_no {x : AV} (h : ids x = []) : abe j r x = x := by
  cases x <;> simp [abe] <;> (try exact abc_no (by rw [h]; simp))
  rename_i cs
  simp only [ids] at h
  induction cs with
  | nil => rfl
  | cons c cs ih =>
    simp only [idsL, List.append_eq_nil_iff] at h
    simp [abc_no (j := j) (r := r) (c := c) (by rw [h.1]; simp), ih h.2]
@[simp] theorem abe_map (h : nid e) : List.map (abe j r) (List.map e l) = List.map e l := by
  rw [List.map_map]; congr 1; funext x; exact abe_no (h.h x)
@[simp] theorem plain_nilsl : plain .nilsl = true := by simp [plain]
theorem idx_getE {l : List α} {i : Int} {x : α} (h : idx l i = some x) : l[i.toNat]'(idx_lt h) = x := (List.getElem?_eq_some_iff.1 (idx_get h)).2
@[simp] theorem abe_comp (h : nid e) : abe j r ∘ e = e := by funext x; exact abe_no (h.h x)
theorem ren_no' {f : Nat → Nat} {x : AV} (h : ids x = []) : ren f x = x := ren_no h
@[simp] theorem renL_map (h : nid e) {f : Nat → Nat} : renL f (List.map e l) = List.map e l := renL_no (idsL_nid h)
@[simp] theorem renL_appS {f : Nat → Nat} : ∀ {a b : List AV}, renL f (a ++ b) = renL f a ++ renL f b
  | [], b => by simp
  | c :: cs, b => by simp [renL_appS (a := cs)]
@[simp] theorem renL_setS {f : Nat → Nat} : ∀ {a : List AV} {i : Nat} {x : AV}, renL f (a.set i x) = (renL f a).set i (ren f x)
  | [], i, x => by simp
  | c :: cs, 0, x => by simp
  | c :: cs, i + 1, x => by simp [renL_setS (a := cs)]
@[simp] theorem abe_agg {cs} : abe j r (.agg cs) = .agg (cs.map (abc j r)) := rfl
@[simp] theorem abc_int {k n} : abc j r (.int k n) = .int k n := rfl
@[simp] theorem abc_bool {n} : abc j r (.bool n) = .bool n := rfl
@[simp] theorem abc_str {n} : abc j r (.str n) = .str n := rfl
@[simp] theorem abc_fsl {n} : abc j r (.fsl n) = .fsl n := rfl
@[simp] theorem abc_osl {i o a t} : abc j r (.osl i o a t) = if i = j then .fsl r else .osl i o a t := rfl
theorem okX_no {y : Nat} {c : AV} (h : ids c = []) : okX j n z y c = true := by
  cases c <;> simp_all [okX, ids]
theorem okC_no : ∀ {zs : List Nat} {cs : List AV}, idsL cs = [] → okC j n z zs cs = true
  | zs, [], _ => rfl
  | zs, c :: cs, h => by
    simp only [idsL, List.append_eq_nil_iff] at h
    simp [okC, okX_no h.1, okC_no h.2]
theorem okE_no {x : AV} (h : ids x = []) : okC j n z zs x.cells = true := by
  refine okC_no ?_
  cases x <;> simp_all [AV.cells, idsL, ids]
@[simp] theorem okA_nil : okA j n z zs [] = true := rfl
@[simp] theorem okA_cons {x es} : okA j n z zs (x :: es) = (okC j n z zs x.cells && okA j n z zs es) := rfl
@[simp] theorem okA_app {a b} : okA j n z zs (a ++ b) = (okA j n z zs a && okA j n z zs b) := by
  induction a with
  | nil => rfl
  | cons x a ih => simp [ih, Bool.and_assoc]
@[simp] theorem okA_map (h : nid e) : okA j n z zs (List.map e l) = true := by
  induction l with
  | nil => rfl
  | cons x l ih => simp only [List.map_cons, okA_cons, okE_no (h.h x), ih, Bool.and_self]
theorem okA_setS : ∀ {cs : List AV} {i : Nat} {x : AV}, okA j n z zs cs = true → okC j n z zs x.cells = true → okA j n z zs (cs.set i x) = true
  | [], i, x, _, _ => by simp
  | c :: cs, 0, x, h, hx => by
    simp only [okA_cons, Bool.and_eq_true] at h
    simp [hx, h.2]
  | c :: cs, i + 1, x, h, hx => by
    simp only [okA_cons, Bool.and_eq_true] at h
    simp [h.1, okA_setS h.2 hx]
@[simp] theorem okA_set (h : nid e) {i : Nat} {x : AV} (hx : okC j n z zs x.cells = true) : okA j n z zs (List.set (List.map e l) i x) = true := okA_setS (okA_map h) hx
@[simp] theorem okC_nil {zs} : okC j n z zs [] = true := rfl
@[simp] theorem okC_cons {y zs c cs} : okC j n z (y :: zs) (c :: cs) = (okX j n z y c && okC j n z zs cs) := rfl
@[simp] theorem okX_int {y k m} : okX j n z y (.int k m) = true := rfl
@[simp] theorem okX_bool {y m} : okX j n z y (.bool m) = true := rfl
@[simp] theorem okX_str {y m} : okX j n z y (.str m) = true := rfl
@[simp] theorem okX_fsl {y m} : okX j n z y (.fsl m) = true := rfl
@[simp] theorem okX_osl {y i o a t} : okX j n z y (.osl i o a t) = (i != j || (o == 0 && a == n && t == n && y == z)) := rfl
@[simp] theorem nlS_eq {id s} : nlS id s = ⟨s.tm, s.hp.map fun p => (p.1, nlO id p.1 p.2), s.nx⟩ := rfl
@[simp] theorem nlO_eq {id i o} : nlO id i o = if i = id then (match o with | .nar z es zs => .nar z (es.map nle) zs | o => o) else o := rfl
@[simp] theorem nle_agg {cs} : nle (.agg cs) = .agg (cs.map nlc) := rfl
@[simp] theorem nle_int {k n} : nle (.int k n) = .int k n := rfl
@[simp] theorem nlc_int {k n} : nlc (.int k n) = .int k n := rfl
@[simp] theorem nlc_bool {n} : nlc (.bool n) = .bool n := rfl
@[simp] theorem nlc_str {n} : nlc (.str n) = .str n := rfl
@[simp] theorem nlc_fsl {n} : nlc (.fsl n) = .fsl n := rfl
@[simp] theorem nlc_osl {i o a t} : nlc (.osl i o a t) = .osl i o a t := rfl
@[simp] theorem nlc_nilsl : nlc .nilsl = .fsl [] := rfl
@[simp] theorem nle_map {β : Type} {e : β → AV} (h : ∀ x, nle (e x) = e x) {l : List β} : List.map nle (List.map e l) = List.map e l := by
  rw [List.map_map]; congr 1; funext x; exact h x
@[simp] theorem nle_comp {β : Type} {e : β → AV} (h : ∀ x, nle (e x) = e x) : nle ∘ e = e := by funext x; exact h x
@[simp] theorem abc_nilsl {j r} : abc j r .nilsl = .nilsl := rfl
@[simp] theorem okX_nilsl {j n z y} : okX j n z y .nilsl = true := rfl
@[simp] theorem absS_eq {id s} : absS id j r s = ⟨s.tm, s.hp.map fun p => (p.1, absO id j r p.1 p.2), s.nx⟩ := rfl
@[simp] theorem absO_eq {id i o} : absO id j r i o = if i = id then (match o with | .nar z es zs => .nar z (es.map (abe j r)) zs | o => o) else if i = j then .gone r.length else o := rfl
end
section
variable {P : Program} {g : Nat → Option Ob} {nx : Nat}
def napO (ts : TS) (b : Nat) (o o2 : Option Ob) (id off len tot id2 off2 len2 tot2 nx : Nat) : Option Eff := match o, o2 with
      | some (.nar esz es zs), some (.nar esz2 es2 zs2) =>
          if ((esz = ts.size ∧ esz2 = ts.size ∧ zs = zs2) ∧ tot = es.length ∧ off = 0 ∧ len = es.length ∧ tot2 = es2.length ∧ off2 = 0 ∧ len2 = es2.length) ∧ 0 < len2 ∧ id ≠ id2 ∧ (len + len2) * b ≤ room then
            some ⟨.osl id 0 (len + len2) (tot + len2), [id, id2], [(id, .nar esz (es ++ es2) zs), (id2, .gone len2)], nx⟩
          else none
      | _, _ => none
@[simp] theorem napO_some {ts b esz es zs esz2 es2 zs2 id off len tot id2 off2 len2 tot2} : napO ts b (some (.nar esz es zs)) (some (.nar esz2 es2 zs2)) id off len tot id2 off2 len2 tot2 nx =
    if ((esz = ts.size ∧ esz2 = ts.size ∧ zs = zs2) ∧ tot = es.length ∧ off = 0 ∧ len = es.length ∧ tot2 = es2.length ∧ off2 = 0 ∧ len2 = es2.length) ∧ 0 < len2 ∧ id ≠ id2 ∧ (len + len2) * b ≤ room then
            some ⟨.osl id 0 (len + len2) (tot + len2), [id, id2], [(id, .nar esz (es ++ es2) zs), (id2, .gone len2)], nx⟩ else none := rfl
def napS (ts : TS) (b : Nat) (z : Option AV) (s x : AV) (g : Nat → Option Ob) (nx : Nat) : Option Eff := match z with
    | none => none
    | some z => if z.cells.length ≠ ts.size ∨ b = 0 ∨ 1048576 < b ∨ z.cells.all AV.one = false then none else
      match s, x with
      | .osl id off len tot, .osl id2 off2 len2 tot2 => napO ts b (g id) (g id2) id off len tot id2 off2 len2 tot2 nx
      | _, _ => none
def napT (el : Option (TypeId × TS × Nat)) (st : Bool) (z : TypeId → Option AV) (s x : AV) (g : Nat → Option Ob) (nx : Nat) : Option Eff := match el with
  | none => none
  | some (e, ts, b) => if !st then none else napS ts b (z e) s x g nx
@[simp] theorem napA_T {t t2 s x} : napA P t t2 s x g nx = napT (elt P t) (srcTy P t2) (zer P) s x g nx := rfl
@[simp] theorem napT_some {e ts b z s x} : napT (some (e, ts, b)) true z s x g nx = napS ts b (z e) s x g nx := rfl
@[simp] theorem napS_some {ts b z id off len tot id2 off2 len2 tot2} (h : z.cells.length = ts.size ∧ ¬ b = 0 ∧ b ≤ 1048576 ∧ z.cells.all AV.one = true) : napS ts b (some z) (.osl id off len tot) (.osl id2 off2 len2 tot2) g nx = napO ts b (g id) (g id2) id off len tot id2 off2 len2 tot2 nx := by
  obtain ⟨h1, h2, h3, h4⟩ := h
  have : ¬ 1048576 < b := by omega
  simp only [napS, h1, h2, this, h4]; simp
def nbsZ (zs : List Nat) (ts : TS) (z : Option AV) (len : Nat) (parts : List (Nat × AV)) (nx : Nat) : Option Eff := match z with
    | none => none
    | some z =>
      if len * ts.size ≤ 16777216 ∧ z.cells.length = ts.size ∧ z.cells.all AV.one then
        match setPartsH ts.size (List.replicate len z) parts with
        | some es => if plainL es = true then some ⟨.osl nx 0 len len, [], [(nx, .nar ts.size es zs)], nx + 1⟩ else none
        | none => none
      else none
def nbsT (zs : TypeId → List Nat) (el : Option (TypeId × TS × Nat)) (z : TypeId → Option AV) (len : Nat) (parts : List (Nat × AV)) (nx : Nat) : Option Eff := match el with
  | none => none
  | some (e, ts, _) => nbsZ (zs e) ts (z e) len parts nx
@[simp] theorem nbsA_T {t len parts} : nbsA P t len parts nx = nbsT (zsP P 6) (elt P t) (zer P) len parts nx := rfl
@[simp] theorem nbsT_some {zs e ts b z len parts} : nbsT zs (some (e, ts, b)) z len parts nx = nbsZ (zs e) ts (z e) len parts nx := rfl
def nbsR (zs : List Nat) (ts : TS) (len nx : Nat) (o : Option (List AV)) : Option Eff := match o with
        | some es => if plainL es = true then some ⟨.osl nx 0 len len, [], [(nx, .nar ts.size es zs)], nx + 1⟩ else none
        | none => none
@[simp] theorem nbsR_some {zs ts len es} : nbsR zs ts len nx (some es) = if plainL es = true then some ⟨.osl nx 0 len len, [], [(nx, .nar ts.size es zs)], nx + 1⟩ else none := rfl
@[simp] theorem nbsZ_some {zs ts z len parts} : nbsZ zs ts (some z) len parts nx = if len * ts.size ≤ 16777216 ∧ z.cells.length = ts.size ∧ z.cells.all AV.one then nbsR zs ts len nx (setPartsH ts.size (List.replicate len z) parts) else none := rfl
@[simp] theorem setPartsH_nil {n es} : setPartsH n es [] = some es := rfl
@[simp] theorem setPartsH_cons {n es i v rest} : setPartsH n es ((i, v) :: rest) = if v.cells.length = n ∧ i < es.length ∧ v.cells.all AV.one then setPartsH n (es.set i v) rest else none := rfl
end
end Go.Proofs.YtapchldnmkfkoabDoor.Am
