import Derived.Test.YtapchldnmkfkoaaAmRcNa
set_option linter.unusedVariables false
set_option linter.unusedSimpArgs false
set_option linter.unusedSectionVars false
namespace Go.Proofs.Ytapchldnmkfkoaa.Am
open Go Go.Proofs
set_option maxRecDepth 100000
set_option linter.unusedSimpArgs false
set_option linter.unusedVariables false
set_option maxHeartbeats 4000000
theorem slices_Insert_KeptR_shift (mixed : Try.prog.follows .mixedOrders = true) (b n c i vb m vc : Nat) (cur : Array Value) (te : TypeId) (vs : List Value) (va : Array Value) (tv : TypeId) (w : World) (hi : i < n) (hm : 0 < m) (hroom : n + m ≤ c) (hbig : (n + m) * 64 ≤ 17592186044416) (hvb : vb ≠ b)
  (hh : w.heap[b]? = some (.cells cur te (0,0))) (hsz : cur.size = c * 6) (hvl : vs.length = m * 6) (hvh : w.heap[vb]? = some (.cells va tv (0,0)))
  (hvs : ∀ j v,vs[j]? = some v → w.cell? ⟨vb,0 + j,none⟩ = some v) (h1c : ∀ v ∈ mid 6 cur.toList i n,v.oneCell' = true) (h1v : ∀ v ∈ vs,v.oneCell' = true) :
  Calls Try.prog 124 #[.slice (some ⟨b,0,none⟩) n c,.int .i64 i,.slice (some ⟨vb,0,none⟩) m vc] w fun e w' =>
   e = .returned (.slice (some ⟨b,0,none⟩) (n + m) c) ∧ ∃ w1,w1 = w.drew.setRow b (spl1 6 cur.toList i m n).toArray ∧ w' = w1.setRow b (spl2 6 cur.toList i m n vs).toArray := by
 have uS : ∀ w,(underlying 38).run Try.prog w = .ok (.slice 73) w := fun w => run_underlying (by kernel_rfl) w
 have zE : ∀ w,(sizeOf 73).run Try.prog w = .ok 6 w := fun w => rfl
 have hz1 : ¬ ((m : Int) = 0) := by omega
 have hz2 : ¬ ((i : Int) = (n : Int)) := by omega
 have hw1 : IntKind.i64.wrap ((i : Int) + (m : Int)) = (i : Int) + (m : Int) := by rw [IntKind.wrap_i64]; omega
 have hw2 : IntKind.i64.wrap ((n : Int) + (m : Int)) = (n : Int) + (m : Int) := by rw [IntKind.wrap_i64]; omega
 have hb1 : (0 : Int) ≤ (i : Int) + (m : Int) := by omega
 have hin : i ≤ n := by omega
 have htn : ((i : Int) + (m : Int)).toNat = i + m := by omega
 have htn2 : ((n : Int) + (m : Int)).toNat = n + m := by omega
 have hb2 : ¬ (c = i + m) := by omega
 have hb3 : (i : Int) ≤ (n : Int) + (m : Int) := by omega
 have hb4 : ¬ (c = i) := by omega
 have hov : ∀ lb cb,(callFunc 157 #[.slice (some ⟨vb,0,none⟩) m vc,.slice (some ⟨b,(i + m) * 6,none⟩) lb cb]).run Try.prog w = .ok (.value (.bool false)) w := fun lb cb => by
  rw [run_callFunc_extern Try.func157 (by kernel_rfl) (by kernel_rfl) (by kernel_rfl) (e := Extern.SlicesOverlaps.overlaps #[38,38] #[4]) (by kernel_rfl),
   Lib.run_overlaps_apart w 38 4 73 (by kernel_rfl) 6 zE ⟨vb,0,none⟩ ⟨b,(i + m) * 6,none⟩ m vc lb cb hvb tv te va.size cur.size (by simp [World.shape?,hvh]) (by simp [World.shape?,hh]) (by rw [hsz]; omega) (by simp [World.frozen?,hvh]) (by simp [World.frozen?,hvh])]
  rfl
 have hcl : cur.toList.length = c * 6 := by simpa using hsz
 have hml : (mid 6 cur.toList i n).length = (n - i) * 6 := mid_len (c := c) (by omega) hcl
 have hs1 : (spl1 6 cur.toList i m n).length = c * 6 := by
  simp only [spl1,List.length_append,List.length_take,List.length_drop,hml,hcl]; omega
 obtain ⟨i0,hi0,hs0⟩ : ∃ i0,Try.prog.info? 73 = some i0 ∧ i0.size = 6 := ⟨_,rfl,rfl⟩
 have hcp1 : ∀ (W : World),W.heap[b]? = some (.cells cur te (0,0)) → ∀ ty dc sc,(Builtin.copy_ #[38,38] ty #[.slice (some ⟨b,(i + m) * 6,none⟩) (n + m - (i + m)) dc,.slice (some ⟨b,i * 6,none⟩) (n + m - i) sc]).run Try.prog W = .ok (goInt (n - i : Nat)) (W.setRow b (spl1 6 cur.toList i m n).toArray) := fun W hW ty dc sc => by
  refine run_copy_at (i := i0) W (elem := 73) (by kernel_rfl) hi0 (by simp only [Nat.min_def]; split <;> omega) ?_ hW (by rw [hml]; omega) h1c
  rw [hs0]
  refine run_firstCells_some W 6 (n - i) ⟨b,i * 6,none⟩ _ _ _ hml (fun j v hj => ?_)
  rw [Addr.add_lit,cell_at hW]
  unfold mid at hj
  rw [List.getElem?_take] at hj
  split at hj
  ·rw [List.getElem?_drop] at hj; simpa using hj
  ·cases hj
 have hcp2 : ∀ (W : World),W.heap[b]? = some (.cells (spl1 6 cur.toList i m n).toArray te (0,0)) → (∀ j v,vs[j]? = some v → W.cell? ⟨vb,0 + j,none⟩ = some v) → ∀ ty dc,(Builtin.copy_ #[38,38] ty #[.slice (some ⟨b,i * 6,none⟩) (n + m - i) dc,.slice (some ⟨vb,0,none⟩) m vc]).run Try.prog W = .ok (goInt m) (W.setRow b (spl2 6 cur.toList i m n vs).toArray) := fun W hW hv ty dc => by
  refine run_copy_at (i := i0) W (elem := 73) (by kernel_rfl) hi0 (by simp only [Nat.min_def]; split <;> omega) ?_ hW (by rw [List.size_toArray,hvl]; have h9 := hs1; unfold spl1 at h9; rw [h9]; have : (i + m) * 6 ≤ c * 6 := Nat.mul_le_mul_right _ (by omega); omega) h1v
  rw [hs0]
  exact run_firstCells_some W 6 m ⟨vb,0,none⟩ _ _ _ hvl (fun j v hj => by rw [Addr.add_lit]; exact hv j v hj)
 have hWh : (w.drew.setRow b (spl1 6 cur.toList i m n).toArray).heap[b]? = some (.cells (spl1 6 cur.toList i m n).toArray te (0,0)) := setRow_heap' (w := w.drew) hh _
 have hcp1' := hcp1 w.drew hh
 have hvs' : ∀ j v,vs[j]? = some v → (w.drew.setRow b (spl1 6 cur.toList i m n).toArray).cell? ⟨vb,0 + j,none⟩ = some v := fun j v hj => by
  rw [← hvs j v hj]
  simp only [World.cell?]
  rw [show (w.drew.setRow b (spl1 6 cur.toList i m n).toArray).heap[vb]? = w.heap[vb]? from setRow_other w.drew b _ hvb]
 have e2 := hcp2 _ hWh hvs'
 clear hcp1 hcp2 hWh hvs'
 go_enter Try.func124,Try.ntmps124
 go_wp2_with (simp only [hov])
 go_region_law_o (refine step_copy_run rfl _ _ 38 38 rfl _ _ (by simp [Act.eval,Act.put]) (by simp [Act.eval,Act.put]) (hcp1' _ _ _) ?_)
 clear hcp1' hov
 go_wp2
 go_ret
 exact ⟨rfl,_,rfl,rfl⟩
theorem slices_Insert_KeptR_grow (mixed : Try.prog.follows .mixedOrders = true) (b n c i vb m vc : Nat) (cur : Array Value) (te : TypeId) (vs : List Value) (w : World) (hi : i < n) (hm : 0 < m) (hnc : n ≤ c) (hroom : c < n + m) (hbig : (n + m) * 64 ≤ 17592186044416)
  (hh : w.heap[b]? = some (.cells cur te (0,0))) (hsz : cur.size = c * 6) (hvl : vs.length = m * 6)
  (hvs : ∀ j v,vs[j]? = some v → w.cell? ⟨vb,0 + j,none⟩ = some v) (h1c : ∀ v ∈ mid 6 cur.toList i n,v.oneCell' = true) (h1v : ∀ v ∈ vs,v.oneCell' = true) :
  Calls Try.prog 124 #[.slice (some ⟨b,0,none⟩) n c,.int .i64 i,.slice (some ⟨vb,0,none⟩) m vc] w fun e w' => ∃ (te : TypeId) (G : Nat) (ROW : Array Value) (w1 w2 : World),
   e = .returned (.slice (some ⟨w.heap.size,0,none⟩) (n + m) G) ∧ n + m ≤ G ∧ ROW.size = G * 6 ∧ ROW.toList.take (i * 6) = cur.toList.take (i * 6) ∧
   w1 = (w.alloc (.cells ROW te)).drew ∧ w2 = (w1.setRow w.heap.size (gr1 6 ROW.toList i vs).toArray).drew ∧ w' = w2.setRow w.heap.size (gr2 6 ROW.toList cur.toList i m n vs).toArray := by
 have uS : ∀ w,(underlying 38).run Try.prog w = .ok (.slice 73) w := fun w => run_underlying (by kernel_rfl) w
 have zE : ∀ w,(sizeOf 73).run Try.prog w = .ok 6 w := fun w => rfl
 obtain ⟨i0,hi0,hs0,hb0,z,hz,hzc⟩ : ∃ i0,Try.prog.info? 73 = some i0 ∧ i0.size = 6 ∧ i0.bytes = 64 ∧ ∃ z,i0.zero = some z ∧ z.cells.size = 6 := ⟨_,rfl,rfl,rfl,_,rfl,rfl⟩
 have hz1 : ¬ ((m : Int) = 0) := by omega
 have hz2 : ¬ ((i : Int) = (n : Int)) := by omega
 have hz3 : (c : Int) < (n : Int) + (m : Int) := by omega
 have hkk : (n : Int) + (m : Int) - (i : Int) = ((n + m - i : Nat) : Int) := by omega
 have hik : i + (n + m - i) = n + m := by omega
 have hw1 : IntKind.i64.wrap ((i : Int) + (m : Int)) = (i : Int) + (m : Int) := by rw [IntKind.wrap_i64]; omega
 have hw2 : IntKind.i64.wrap ((n : Int) + (m : Int)) = (n : Int) + (m : Int) := by rw [IntKind.wrap_i64]; omega
 have hw3 : IntKind.i64.wrap ((n : Int) + (m : Int) - (i : Int)) = (n : Int) + (m : Int) - (i : Int) := by rw [IntKind.wrap_i64]; omega
 have hb1 : (0 : Int) ≤ (i : Int) + (m : Int) := by omega
 have hin : i ≤ n := by omega
 have htn : ((i : Int) + (m : Int)).toNat = i + m := by omega
 have hb3 : (i : Int) ≤ (n : Int) := by omega
 have hcl : cur.toList.length = c * 6 := by simpa using hsz
 have hml : (mid 6 cur.toList i n).length = (n - i) * 6 := mid_len (c := c) (by omega) hcl
 have hold : (Builtin.firstCells i0.size i (.slice (some ⟨b,0,none⟩) i c)).run Try.prog w.drew = .ok (cur.toList.take (i * 6)).toArray w.drew := by
  rw [hs0]
  refine run_firstCells_some w.drew 6 i ⟨b,0,none⟩ i c (cur.toList.take (i * 6)) (by rw [List.length_take,hcl]; have : i * 6 ≤ c * 6 := Nat.mul_le_mul_right _ (by omega); omega) fun j v hj => ?_
  rw [Addr.add_lit,cell_at (w := w.drew) hh,Nat.zero_add]
  rw [List.getElem?_take] at hj
  split at hj
  ·simpa using hj
  ·cases hj
 obtain ⟨G,hG⟩ : ∃ G,G = grownCap w (n + m) c 73 := ⟨_,rfl⟩
 obtain ⟨ROW,hROW⟩ : ∃ ROW : Array Value,ROW = (cur.toList.take (i * 6)).toArray ++ Builtin.zeroCells z.cells (n + m - i) ++ Builtin.zeroCells z.cells (G - (n + m)) := ⟨_,rfl⟩
 have hrz : ∀ ty,(Builtin.append_ #[38,3] ty #[.slice (some ⟨b,0,none⟩) i c,.int .i64 ((n : Int) + (m : Int) - (i : Int))]).run Try.prog w = .ok (.slice (some ⟨w.heap.size,0,none⟩) (n + m) G) (w.drew.alloc (.cells ROW 73)) := fun ty => by
  have h := Lib.run_append_grow_zeros w 38 3 ty 73 i0 z .i64 .i64 (by kernel_rfl) (by kernel_rfl) hi0 hz (some ⟨b,0,none⟩) i c (cur.toList.take (i * 6)) hold (n + m - i) (by omega) (by omega) (by omega) (by omega) (by rw [hb0]; omega) (by rw [hb0,hik]; exact fit_of (by unfold room; omega) hroom (by omega))
  rw [hik] at h
  rw [hkk,hROW,hG]
  exact h
 have hGn : n + m ≤ G := by rw [hG]; unfold grownCap; simp [Question.cut]
 have hG63 : G ≤ 9223372036854775807 := by
  have := grownCap_le_maxLen w (n + m) c 73 (by unfold maxLen; omega)
  rw [← hG] at this
  unfold maxLen at this
  omega
 have hRs : ROW.size = G * 6 := by
  have : i * 6 ≤ c * 6 := Nat.mul_le_mul_right _ (by omega)
  rw [hROW]; simp only [Array.size_append,List.size_toArray,List.length_take,hcl,Builtin.zeroCells,Array.size_map,Array.size_range,hzc]; omega
 have hRt : ROW.toList.take (i * 6) = cur.toList.take (i * 6) := by
  have : i * 6 ≤ c * 6 := Nat.mul_le_mul_right _ (by omega)
  have hl : (cur.toList.take (i * 6)).length = i * 6 := by rw [List.length_take,hcl]; omega
  rw [hROW]; simp only [Array.toList_append,List.append_assoc]
  rw [List.take_append_of_le_length (by omega)]; exact List.take_of_length_le (by omega)
 have hGi : ¬ (G = i) := by omega
 have hGim : ¬ (G = i + m) := by omega
 have hci : ¬ (c = i) := by omega
 clear hROW hG
 have hg1 : (gr1 6 ROW.toList i vs).length = G * 6 := by
  simp only [gr1,List.length_append,List.length_take,List.length_drop,Array.length_toList,hRs,hvl]; omega
 have hN : ∀ W : World,(W.alloc (.cells ROW 73)).heap[W.heap.size]? = some (.cells ROW 73 (0,0)) := fun W => by show (W.heap.push _)[W.heap.size]? = _; simp
 have hbw : b < w.heap.size := (Array.getElem?_eq_some_iff.1 hh).1
 have hcpA : ∀ (W : World),W.heap[w.heap.size]? = some (.cells ROW 73 (0,0)) → (∀ j v,vs[j]? = some v → W.cell? ⟨vb,0 + j,none⟩ = some v) → ∀ ty dc,(Builtin.copy_ #[38,38] ty #[.slice (some ⟨w.heap.size,i * 6,none⟩) (n + m - i) dc,.slice (some ⟨vb,0,none⟩) m vc]).run Try.prog W = .ok (goInt m) (W.setRow w.heap.size (gr1 6 ROW.toList i vs).toArray) := fun W hW hv ty dc => by
  refine run_copy_at (i := i0) W (elem := 73) (by kernel_rfl) hi0 (by simp only [Nat.min_def]; split <;> omega) ?_ hW (by rw [hvl,hRs]; omega) h1v
  rw [hs0]
  exact run_firstCells_some W 6 m ⟨vb,0,none⟩ _ _ _ hvl (fun j v hj => by rw [Addr.add_lit]; exact hv j v hj)
 have hcpB : ∀ (W : World),W.heap[w.heap.size]? = some (.cells (gr1 6 ROW.toList i vs).toArray 73 (0,0)) → W.heap[b]? = some (.cells cur te (0,0)) → ∀ ty dc sc,(Builtin.copy_ #[38,38] ty #[.slice (some ⟨w.heap.size,(i + m) * 6,none⟩) (n + m - (i + m)) dc,.slice (some ⟨b,i * 6,none⟩) (n - i) sc]).run Try.prog W = .ok (goInt (n - i : Nat)) (W.setRow w.heap.size (gr2 6 ROW.toList cur.toList i m n vs).toArray) := fun W hW hv ty dc sc => by
  refine run_copy_at (i := i0) W (elem := 73) (by kernel_rfl) hi0 (by simp only [Nat.min_def]; split <;> omega) ?_ hW (by rw [List.size_toArray,hml]; have h9 := hg1; unfold gr1 at h9; rw [h9]; omega) h1c
  rw [hs0]
  refine run_firstCells_some W 6 (n - i) ⟨b,i * 6,none⟩ _ _ _ hml (fun j v hj => ?_)
  rw [Addr.add_lit,cell_at hv]
  unfold mid at hj
  rw [List.getElem?_take] at hj
  split at hj
  ·rw [List.getElem?_drop] at hj; simpa using hj
  ·cases hj
 have hvw : ∀ j v,vs[j]? = some v → vb < w.heap.size := fun j v hj => by
  have := hvs j v hj
  simp only [World.cell?] at this
  rcases Nat.lt_or_ge vb w.heap.size with h | h
  ·exact h
  ·rw [Array.getElem?_eq_none h] at this; cases this
 have eA := hcpA ((w.alloc (.cells ROW 73)).drew) (hN w) (fun j v hj => by
  rw [← hvs j v hj]
  have := hvw j v hj
  show World.cell? (w.alloc _) _ = _
  simp only [World.cell?,World.alloc]
  rw [Array.getElem?_push,if_neg (by show ¬ vb = w.heap.size; omega)])
 have hWB : ∀ W : World,W.heap = ((w.alloc (.cells ROW 73)).drew.setRow w.heap.size (gr1 6 ROW.toList i vs).toArray).heap → W.heap[w.heap.size]? = some (.cells (gr1 6 ROW.toList i vs).toArray 73 (0,0)) ∧ W.heap[b]? = some (.cells cur te (0,0)) := fun W hW => by
  constructor
  ·rw [hW]; exact setRow_heap' (w := (w.alloc (.cells ROW 73)).drew) (hN w) _
  ·rw [hW,setRow_other _ _ _ (by omega : b ≠ w.heap.size),← hh]
   show (w.heap.push _)[b]? = _
   rw [Array.getElem?_push,if_neg (by omega)]
 have eB := hcpB (((w.alloc (.cells ROW 73)).drew.setRow w.heap.size (gr1 6 ROW.toList i vs).toArray).drew) (hWB _ rfl).1 (hWB _ rfl).2
 clear hcpA hcpB hWB hN hold hkk hik hvw
 go_enter Try.func124,Try.ntmps124
 go_wp2_with (at_builtin; refine Lib.wpList_append_run _ rfl _ _ _ _ rfl _ _ rfl rfl _ _ (hrz _) ?_)
 go_wp2
 go_region_law_o (refine step_copy_run rfl _ _ 38 38 rfl _ _ (by simp [Act.eval,Act.put]) (by simp [Act.eval,Act.put]) (eB _ _ _) ?_)
 go_wp2
 go_ret
 exact ⟨_,G,ROW,_,_,rfl,hGn,hRs,hRt,rfl,rfl,rfl⟩
theorem slices_Insert_KeptR_ok0 (hm : Try.prog.follows .mixedOrders = true) : Sound Try.prog 124 slices_Insert_KeptR_x := by
 refine xOf_sound fun q r h => ?_
 obtain ⟨a0,a1,a2,a3⟩ := q
 have H : HS (slices_Insert_KeptR a0 a1 a2 a3) r := h
 clear h; unfold slices_Insert_KeptR at H
 cases hq : (ieq a1 (a0 : Int)) with
 | false =>
  replace H := HS.cnd_f hq H
  obtain ⟨⟨h1,h2,h3,h4,h5⟩,H⟩ := HS.chkP H
  have hr := (HS.some H).symm; subst hr
  dsimp only [slices_Insert_KeptR_e,slices_Insert_KeptR_v]
  refine ⟨⟨Try.f124,_,Try.func124,rfl,by decide +kernel⟩,?_⟩
  have hh := ins_ok (P := Try.prog) (f := 124) (K := 6) (B := 64) (by decide) (slices_Insert_KeptR_shift hm) (slices_Insert_KeptR_grow hm) (es := List.map eKeptR a2) (vs := List.map eKeptR a3) (k := a0) (i := a1) (ro := false) (by simpa using h3) h1 h2 (by simpa using h4) (by simpa using h5)
  have e1 := insR_len (c := a2) (v := a3) (k := a0) (i := a1) (by omega) h3
  have e2 := insL_len (c := a2) (v := a3) (k := a0) (i := a1) (by omega) h3
  simp only [List.length_map,← insR_map,← insL_map] at hh ⊢
  simp only [e1,e2] at hh ⊢
  first | exact hh | simpa using hh
 | true =>
 replace H := HS.cnd_t hq H
 refine fn_ok E0 hm Try.func124 rfl (by decide +kernel) (by rfl) fun Γ hn hk => ?_
 dsimp only [slices_Insert_KeptR_e,slices_Insert_KeptR_v]
 replace hn : Γ.n = 95 := hn
 replace hk : Γ.k = 2 := hk
 try simp -implicitDefEqProofs at H
 refine Tr.of_vc (cl := tabC []) (E := E0) [] tab_nil hm (by rw [hn]; decide +kernel) ?_
 try simp -implicitDefEqProofs +decide (maxSteps := 999999) [-selQ_sel,hokQ_of,-appO_some,appO_part,appO_whole,hq]
 obtain ⟨h_1,H⟩ := HS.chkP H
 try simp -implicitDefEqProofs +decide (maxSteps := 999999) [-selQ_sel,hokQ_of,-appO_some,appO_part,appO_whole,hq,h_1]
 obtain ⟨v1,h_2,H⟩ := HS.bnd H
 have s_3 := (slc_spec h_2).1
 have s_4 := slc_fit h_2
 have s_5 := slc_map (e := eKeptR) h_2
 have s_6 := (slc_spec h_2).2.1
 simp -implicitDefEqProofs at s_3 s_4 s_5 s_6
 try simp only [s_6] at s_4 s_5
 try simp -implicitDefEqProofs +decide (maxSteps := 999999) [-selQ_sel,hokQ_of,-appO_some,appO_part,appO_whole,hq,h_1,h_2,s_3,s_4,s_5,s_6]
 refine Hid.brV (fun h_7 => ?_) (fun h_7 => ?_)
 ·replace H := HS.cnd_t h_7 H
  try simp -implicitDefEqProofs +decide (maxSteps := 999999) [-selQ_sel,hokQ_of,-appO_some,appO_part,appO_whole,hq,h_1,h_2,s_3,s_4,s_5,s_6,h_7]
  have hr := (HS.some H).symm; subst hr
  refine Hid.mk ⟨⟨[(6,AV.osl 0 0 a0 (List.length a2))],[(0,Ob.arr 6 (List.map eKeptR a2) false),(1,Ob.arr 6 (List.map eKeptR a3) false)],2⟩,Wk.ofk [0,1] hk (by rfl) (by simp -implicitDefEqProofs [hq,h_1,h_2,s_3,s_4,s_5,s_6,h_7]) (by simp -implicitDefEqProofs [hq,h_1,h_2,s_3,s_4,s_5,s_6,h_7]),?_⟩
  try simp -implicitDefEqProofs +decide (maxSteps := 999999) [-selQ_sel,hokQ_of,-appO_some,appO_part,appO_whole,hq,h_1,h_2,s_3,s_4,s_5,s_6,h_7]
 ·replace H := HS.cnd_f h_7 H
  try simp -implicitDefEqProofs +decide (maxSteps := 999999) [-selQ_sel,hokQ_of,-appO_some,appO_part,appO_whole,hq,h_1,h_2,s_3,s_4,s_5,s_6,h_7]
  cases h_8 : (ieq (a0 : Int) (List.length a2 : Int)) with
  | true =>
   replace H := HS.cnd_t h_8 H
   have h_9 : a0 = List.length a2 := by have := h_8; simp [ieq] at this; omega
   clear h_8
   try simp -implicitDefEqProofs +decide (maxSteps := 999999) [-selQ_sel,hokQ_of,-appO_some,appO_part,appO_whole,hq,h_1,h_2,s_3,s_4,s_5,s_6,h_7,h_9]
   obtain ⟨h_10,H⟩ := HS.chkP H
   try simp -implicitDefEqProofs +decide (maxSteps := 999999) [-selQ_sel,hokQ_of,-appO_some,appO_part,appO_whole,hq,h_1,h_2,s_3,s_4,s_5,s_6,h_7,h_9,h_10]
   obtain ⟨l2,h_11,H⟩ := HS.nam H
   have m_12 := congrArg (List.map eKeptR) h_11
   have q_13 := congrArg List.length h_11
   simp -implicitDefEqProofs at m_12 q_13
   try simp only [q_13] at m_12
   try simp only [q_13] at h_10
   try simp only [q_13] at s_3
   try simp only [q_13] at s_4
   try simp only [q_13] at s_5
   try simp only [q_13] at s_6
   try simp -implicitDefEqProofs +decide (maxSteps := 999999) [-selQ_sel,hokQ_of,-appO_some,appO_part,appO_whole,hq,h_1,h_2,s_3,s_4,s_5,s_6,h_7,h_9,h_10,m_12,q_13]
   have hr := (HS.some H).symm; subst hr
   refine Hid.mk ⟨⟨[(6,AV.osl 0 0 (List.length l2) (List.length l2))],[(0,Ob.arr 6 (List.map eKeptR l2) false),(1,Ob.arr 6 (List.map eKeptR a3) false)],2⟩,Wk.ofk [0,1] hk (by rfl) (by simp -implicitDefEqProofs [hq,h_1,h_2,s_3,s_4,s_5,s_6,h_7,h_9,h_10,m_12,q_13]) (by simp -implicitDefEqProofs [hq,h_1,h_2,s_3,s_4,s_5,s_6,h_7,h_9,h_10,m_12,q_13]),?_⟩
   try simp -implicitDefEqProofs +decide (maxSteps := 999999) [-selQ_sel,hokQ_of,-appO_some,appO_part,appO_whole,hq,h_1,h_2,s_3,s_4,s_5,s_6,h_7,h_9,h_10,m_12,q_13]
  | false =>
   replace H := HS.cnd_f h_8 H
   try simp -implicitDefEqProofs +decide (maxSteps := 999999) [-selQ_sel,hokQ_of,-appO_some,appO_part,appO_whole,hq,h_1,h_2,s_3,s_4,s_5,s_6,h_7,h_8]
   obtain ⟨h_14,H⟩ := HS.chkP H
   try simp -implicitDefEqProofs +decide (maxSteps := 999999) [-selQ_sel,hokQ_of,-appO_some,appO_part,appO_whole,hq,h_1,h_2,s_3,s_4,s_5,s_6,h_7,h_8,h_14]
   obtain ⟨h_15,H⟩ := HS.chkP H
   try simp -implicitDefEqProofs +decide (maxSteps := 999999) [-selQ_sel,hokQ_of,-appO_some,appO_part,appO_whole,hq,h_1,h_2,s_3,s_4,s_5,s_6,h_7,h_8,h_14,h_15]
   obtain ⟨l3,h_16,H⟩ := HS.nam H
   have m_17 := congrArg (List.map eKeptR) h_16
   have q_18 := congrArg List.length h_16
   rw [ovr_len (by simp -implicitDefEqProofs [h_1,h_2,s_3,s_4,s_5,s_6,h_7,h_8,h_14,h_15])] at q_18
   simp -implicitDefEqProofs at m_17 q_18
   try simp only [q_18] at m_17
   try simp only [q_18] at h_15
   try simp only [q_18] at s_3
   try simp only [q_18] at s_4
   try simp only [q_18] at s_5
   try simp only [q_18] at s_6
   try simp -implicitDefEqProofs +decide (maxSteps := 999999) [-selQ_sel,hokQ_of,-appO_some,appO_part,appO_whole,hq,h_1,h_2,s_3,s_4,s_5,s_6,h_7,h_8,h_14,h_15,m_17,q_18]
   obtain ⟨v4,h_19,H⟩ := HS.bnd H
   have s_20 := (slc_spec h_19).1
   have s_21 := slc_fit h_19
   have s_22 := slc_map (e := eKeptR) h_19
   have s_23 := (slc_spec h_19).2.1
   simp -implicitDefEqProofs at s_20 s_21 s_22 s_23
   try simp only [s_23] at s_21 s_22
   have s_24 := slc_hi h_19
   try simp -implicitDefEqProofs +decide (maxSteps := 999999) [-selQ_sel,hokQ_of,-appO_some,appO_part,appO_whole,hq,h_1,h_2,s_3,s_4,s_5,s_6,h_7,h_8,h_14,h_15,m_17,q_18,h_19,s_20,s_21,s_22,s_23,s_24]
   have hr := (HS.some H).symm; subst hr
   refine Hid.mk ⟨⟨[(6,AV.osl 0 0 (List.length v4) (List.length l3))],[(0,Ob.arr 6 (List.map eKeptR l3) false),(1,Ob.arr 6 (List.map eKeptR a3) false)],2⟩,Wk.ofk [0,1] hk (by rfl) (by simp -implicitDefEqProofs [hq,h_1,h_2,s_3,s_4,s_5,s_6,h_7,h_8,h_14,h_15,m_17,q_18,h_19,s_20,s_21,s_22,s_23,s_24]) (by simp -implicitDefEqProofs [hq,h_1,h_2,s_3,s_4,s_5,s_6,h_7,h_8,h_14,h_15,m_17,q_18,h_19,s_20,s_21,s_22,s_23,s_24]),?_⟩
   try simp -implicitDefEqProofs +decide (maxSteps := 999999) [-selQ_sel,hokQ_of,-appO_some,appO_part,appO_whole,hq,h_1,h_2,s_3,s_4,s_5,s_6,h_7,h_8,h_14,h_15,m_17,q_18,h_19,s_20,s_21,s_22,s_23,s_24]
def lr_Kept (p : TKept × (Nat → Value)) : TKeptR := (TKeptR.mk p.1.id (TMaskR.mk p.1.mask.box (some (p.2 5))))
theorem lr_Kept1 : ∀ x : TKept,(eKept x).cells.length = 6 ∧ (eKept x).cells.all AV.one = true := fun x => by simp
theorem lr_Kept2 : ∀ (b : Bool) (x : TKept) (h : Nat → Value),rwE b (eKept x) h 0 = eKeptR (lr_Kept (x,h)) := fun _ _ _ => rfl
theorem lr_Kept3 : ∀ (x : TKept) (h : Nat → Value),plainL (eKeptR (lr_Kept (x,h))).cells = true := fun x h => by simp [lr_Kept,plainL,plain,eO]
theorem lr_Kept4 : ∀ (ct : Value → List AV) (x : TKept) (h : Nat → Value),(∀ c r,(eKept x).cells[c]? = some (.fsl r) → ct (h c) = r) → unE ct (eKeptR (lr_Kept (x,h))) = eKept x := fun ct x h H => by
 have h5 := H 5 _ rfl
 simp [unE,unC,lr_Kept,eO,h5]
theorem lr_Kept5 : ∀ x : TKept,∀ c ∈ (eKept x).cells,∀ u,c ≠ .raw u := fun x => by simp
theorem impl_Cache_toFront_n_ok0 (hm : Try.prog.follows .mixedOrders = true) (k_impl_Cache_toFrontR : Sound Try.prog 77 impl_Cache_toFrontR_x) : Sound Try.prog 77 impl_Cache_toFront_n_x := by
 refine xOf_sound fun q r h => ?_
 obtain ⟨a0,a1,a2,a3,a4,a5⟩ := q
 have H : HS (impl_Cache_toFront_n a0 a1 a2 a3 a4 a5) r := h
 clear h; unfold impl_Cache_toFront_n at H
 obtain ⟨⟨h2,h1,h4⟩,H⟩ := HS.chkP H
 have hr := (HS.some H).symm; subst hr
 dsimp only [impl_Cache_toFront_n_e,impl_Cache_toFront_n_v]
 let x : TKept := ⟨a0,⟨a1,a3⟩⟩
 let op : AV := AV.agg [AV.int .i64 a0,AV.int .i64 a1.x0,AV.int .i64 a1.y0,AV.int .i64 a1.x1,AV.int .i64 a1.y1,AV.osl 1 0 (List.length a3) (List.length a3)]
 have hset : ((a4 ++ x :: a5).map eKept).set a4.length op = a4.map eKept ++ op :: a5.map eKept := by
  rw [List.map_append,List.map_cons,List.set_append_right _ _ (by simp)]
  simp
 refine lift_op (e := eKept) (e' := fun p => eKeptR (lr_Kept p)) (w := 6) lr_Kept1 lr_Kept2 lr_Kept3 lr_Kept4 lr_Kept5 (of_eq_true nid_eKept) k_impl_Cache_toFrontR (a := 2) (l := a4 ++ x :: a5) (zs := [0,0,0,0,0,1]) (t := a4.length) (op := op) (x := x) (by simp) rfl (fun _ => rfl) (fun _ => rfl) (by simp [op]) (by simp [op]) (by rw [hset]; rfl) [(1,5,a3.map (AV.int .i64))] (by simp) (by simp)
  (fun gj => [AV.optr 0 0 2,AV.agg [AV.int .i64 a0,AV.int .i64 a1.x0,AV.int .i64 a1.y0,AV.int .i64 a1.x1,AV.int .i64 a1.y1,AV.raw (gj 1)]])
  (fun φ m vs hv => ?_) (fun er => [Ob.box [AV.int .i64 a2,AV.osl 2 0 (List.length (a4 ++ x :: a5)) (List.length (a4 ++ x :: a5))],Ob.gone (List.length a3),.arr 6 er false]) (fun er i => ?_) (fun _ => rfl)
  (fun gj => [(x,fun _ => gj 1)]) (fun gj ct h p hp c r hc => ?_) (fun _ => rfl) fun lz gj hz => ?_
 ·obtain ⟨u,u1,u2⟩ := rw_arg hv (p := 1) (k := 5) rfl rfl
  exact ⟨fun _ => u,by simpa using u1,u2⟩
 ·match i with
  | 0 => rfl
  | 1 => simp [Ob.len]
  | 2 => rfl
  | n + 3 => simp
 ·simp only [List.mem_singleton] at hp
  subst hp
  have h5 := h _ (.head _)
  rcases c with _ | _ | _ | _ | _ | _ | c <;> simp [x] at hc
  rw [← hc]; exact h5
 ·obtain ⟨z1,z',rfl,rfl,hz2⟩ := List.map_eq_append_iff.1 hz
  obtain ⟨z,z2,rfl,hz3,rfl⟩ := List.map_eq_cons_iff.1 hz2
  let y : TKept × (Nat → Value) := (x,fun _ => gj 1)
  obtain ⟨l',d1,d2,d3⟩ := Na.toFrontG_ok (k := lr_Kept y) (m := a2) (g := List.length a3) (l := (z1 ++ z :: z2).map lr_Kept) h1 (by simp only [List.length_map,List.length_append,List.length_cons] at h2 ⊢; omega)
  have k := impl_Cache_toFrontR_k a0 a1.x0 a1.y0 a1.x1 a1.y1 (some (gj 1)) a2 (List.length a3) ((z1 ++ z :: z2).map lr_Kept)
  rw [show (⟨a0,⟨⟨a1.x0,a1.y0,a1.x1,a1.y1⟩,some (gj 1)⟩⟩ : TKeptR) = lr_Kept y from rfl,d1] at k
  have hz1 : ∀ p ∈ z1,¬ (ieq p.1.id a0 = true) := fun p hp => by
   have := List.any_eq_false.1 h4 p.1 (List.mem_map.2 ⟨p,hp,rfl⟩)
   simpa using this
  have hf : ((z1 ++ z :: z2).map lr_Kept).eraseP (fun z => ieq z.id (lr_Kept y).id) = (z1 ++ z2).map lr_Kept := by
   rw [List.eraseP_map]
   have e4 := List.eraseP_append_right (p := (fun z : TKeptR => ieq z.id (lr_Kept y).id) ∘ lr_Kept) (z :: z2) (fun p hp => hz1 p hp)
   have e5 : (z :: z2).eraseP ((fun z : TKeptR => ieq z.id (lr_Kept y).id) ∘ lr_Kept) = z2 := List.eraseP_cons_of_pos (by
    show ieq z.1.id a0 = true
    rw [hz3]; exact iqt)
   rw [e4,e5]
  have ht : (lr_Kept y :: ((z1 ++ z :: z2).map lr_Kept).eraseP (fun z => ieq z.id (lr_Kept y).id)).take a2.toNat = ((y :: (z1 ++ z2)).take a2.toNat).map lr_Kept := by
   rw [hf,← List.map_cons,List.map_take]
  have hu : (x :: (z1.map (·.1) ++ z2.map (·.1))).take a2.toNat = ((y :: (z1 ++ z2)).take a2.toNat).map (·.1) := by
   rw [List.map_take,List.map_cons,List.map_append]
  have hei : (z1 ++ z :: z2).eraseIdx (List.length (z1.map (·.1))) = z1 ++ z2 := by
   rw [List.length_map,List.eraseIdx_append_of_length_le (Nat.le_refl _),Nat.sub_self]; rfl
  have hs : ∃ s,((y :: (z1 ++ z2)).take a2.toNat).Perm s ∧ s.Sublist ((z1 ++ z :: z2).eraseIdx (List.length (z1.map (·.1))) ++ [y]) := by
   rw [hei]
   cases a2.toNat with
   | zero => exact ⟨[],.refl _,List.nil_sublist _⟩
   | succ n =>
    rw [List.take_succ_cons]
    exact ⟨((z1 ++ z2).take n) ++ [y],(List.perm_append_singleton _ _).symm,(List.take_sublist _ _).append (.refl _)⟩
  have hn : List.length (z1.map (·.1)) + List.length (z2.map (·.1)) + 1 = l'.length := by rw [d3,hf]; simp
  rw [ht] at k d2
  have hle : ((y :: (z1 ++ z2)).take a2.toNat).length ≤ l'.length := by
   rw [← hn,List.length_take,List.length_cons,List.length_append,List.length_map,List.length_map]; omega
  have hu' : List.take a2.toNat (TKept.mk a0 (TMask.mk a1 a3) :: (z1.map (·.1) ++ z2.map (·.1))) = ((y :: (z1 ++ z2)).take a2.toNat).map (·.1) := hu
  rw [hu',hn]
  generalize (y :: (z1 ++ z2)).take a2.toNat = L at *
  simp only [List.length_map] at d2
  refine ⟨AV.tup [],[Ob.box [AV.int .i64 a2,AV.osl 2 0 L.length l'.length],Ob.gone (List.length a3),Ob.arr 6 (l'.map eKeptR) false],l'.map eKeptR,L.length,L,?_,rfl,?_,?_,hs,rfl,rfl,rfl,?_,fun i hi1 hi2 => ?_⟩
  ·have e3 : List.length (z1.map (·.1) ++ x :: z2.map (·.1)) = List.length ((z1 ++ z :: z2).map lr_Kept) := by simp
   rw [e3]; rw [List.map_map] at k; exact k.trans (by show some (AV.tup [],[Ob.box [AV.int .i64 a2,AV.osl 2 0 (List.map lr_Kept L).length l'.length],_,_]) = _; rw [List.length_map])
  ·rw [List.length_map]; exact hle
  ·rw [← List.map_take,d2,List.map_map]; rfl
  ·simp
  ·match i with
   | 0 => exact .inr ⟨_,rfl,by simp [shC]⟩
   | 1 => exact .inl rfl
   | 2 => exact (hi1 rfl).elim
   | 3 => exact (hi2 rfl).elim
   | n + 4 => exact .inl rfl
theorem spec_MaskOk_ok0 (hm : Try.prog.follows .mixedOrders = true) (k_spec_l11Box : Sound Try.prog 121 spec_l11Box_x) (k_spec_l01In : Sound Try.prog 71 spec_l01In_x) : Sound Try.prog 72 spec_MaskOk_x := by
 refine xOf_sound fun q r h => ?_
 revert h; revert r; revert q; intro a0 r h
 refine fn_ok E0 hm Try.func72 rfl (by decide +kernel) (by rfl) fun Γ hn hk => ?_
 dsimp only [spec_MaskOk_e,spec_MaskOk_v]
 replace hn : Γ.n = 51 := hn
 replace hk : Γ.k = 0 := hk
 have H : HS (spec_MaskOk a0) r := h
 clear h; unfold spec_MaskOk at H
 try simp -implicitDefEqProofs at H
 refine Tr.of_vc (cl := tabC [(121,spec_l11Box_x),(71,spec_l01In_x)]) (E := E0) [] (tab_cons k_spec_l11Box (tab_cons k_spec_l01In tab_nil)) hm (by rw [hn]; decide +kernel) ?_
 try simp -implicitDefEqProofs (maxSteps := 999999) [-selQ_sel]
 refine Hid.brV (fun h_1 => ?_) (fun h_1 => ?_)
 ·replace H := HS.cnd_t h_1 H
  try simp -implicitDefEqProofs (maxSteps := 999999) [-selQ_sel,h_1]
  have hr := (HS.some H).symm; subst hr
  refine Hid.mk ⟨_,Wk.refl _,?_⟩
  try simp -implicitDefEqProofs (maxSteps := 999999) [-selQ_sel,h_1]
 ·replace H := HS.cnd_f h_1 H
  try simp -implicitDefEqProofs (maxSteps := 999999) [-selQ_sel,h_1]
  obtain ⟨v1,h_2,H⟩ := HS.bnd H
  try simp -implicitDefEqProofs (maxSteps := 999999) [-selQ_sel,h_1,h_2]
  refine Hid.selQ (fun h_3 => ?_) (fun h_3 => ?_)
  ·replace H := HS.cnd_t h_3 H
   try simp -implicitDefEqProofs (maxSteps := 999999) [-selQ_sel,h_1,h_2,h_3]
   refine Hid.brV (fun h_4 => ?_) (fun h_4 => ?_)
   ·replace H := HS.cnd_t h_4 H
    try simp -implicitDefEqProofs (maxSteps := 999999) [-selQ_sel,h_1,h_2,h_3,h_4]
    obtain ⟨q,h_5,H⟩ := HS.bnd H
    refine Hid.mk (Tr.weak (s' := (spec_MaskOk_l0_S a0) 0) (Wk.ofk [0] hk (by rfl) (by simp -implicitDefEqProofs [spec_MaskOk_l0_S,h_1,h_2,h_3,h_4]) (by simp -implicitDefEqProofs [spec_MaskOk_l0_S,h_1,h_2,h_3,h_4])) ?_)
    refine wp_loop_of (S := (spec_MaskOk_l0_S a0)) (f := (spec_MaskOk_l0 a0)) (xt := (spec_MaskOk_l0_X a0)) ?_ ?_ h_5 ?_
    ·intro q; rcases q with ⟨⟩ | ⟨⟩ <;> simp [spec_MaskOk_l0_X]
    ·clear H h_5 q
     rintro x4 o R hf hR
     have H : HS (spec_MaskOk_l0 a0 x4) o := hf
     clear hf; unfold spec_MaskOk_l0 at H
     try simp -implicitDefEqProofs at H
     refine Tr.of_vc (cl := tabC [(121,spec_l11Box_x),(71,spec_l01In_x)]) (E := E0) [] (tab_cons k_spec_l11Box (tab_cons k_spec_l01In tab_nil)) hm (by rw [hn]; decide +kernel) ?_
     try simp -implicitDefEqProofs (maxSteps := 999999) [-selQ_sel,spec_MaskOk_l0_S]
     refine Hid.brV (fun h_6 => ?_) (fun h_6 => ?_)
     ·replace H := HS.cnd_t h_6 H
      try simp -implicitDefEqProofs (maxSteps := 999999) [-selQ_sel,h_6]
      have hr := (HS.some H).symm; subst hr
      exact Hid.mk ⟨(spec_MaskOk_l0_X a0 (.inl ())).2,Wk.ofk [] hk (by rfl) (by simp -implicitDefEqProofs [spec_MaskOk_l0_X,h_6]) (by simp -implicitDefEqProofs [spec_MaskOk_l0_X,h_6]),hR⟩
     ·replace H := HS.cnd_f h_6 H
      try simp -implicitDefEqProofs (maxSteps := 999999) [-selQ_sel,h_6]
      obtain ⟨v5,h_7,H⟩ := HS.bnd H
      try simp -implicitDefEqProofs (maxSteps := 999999) [-selQ_sel,h_6,h_7]
      obtain ⟨v6,h_8,H⟩ := HS.bnd H
      try simp -implicitDefEqProofs (maxSteps := 999999) [-selQ_sel,h_6,h_7,h_8]
      refine Hid.brV (fun h_9 => ?_) (fun h_9 => ?_)
      ·replace H := HS.cnd_t h_9 H
       try simp -implicitDefEqProofs (maxSteps := 999999) [-selQ_sel,h_6,h_7,h_8,h_9]
       have hr := (HS.some H).symm; subst hr
       exact Hid.mk ⟨spec_MaskOk_l0_S a0 (IntKind.i64.wrap (x4 + 1)),Wk.ofk [0] hk (by rfl) (by simp -implicitDefEqProofs [spec_MaskOk_l0_S,h_6,h_7,h_8,h_9]) (by simp -implicitDefEqProofs [spec_MaskOk_l0_S,h_6,h_7,h_8,h_9]),hR⟩
      ·replace H := HS.cnd_f h_9 H
       try simp -implicitDefEqProofs (maxSteps := 999999) [-selQ_sel,h_6,h_7,h_8,h_9]
       have hr := (HS.some H).symm; subst hr
       exact Hid.mk ⟨(spec_MaskOk_l0_X a0 (.inr ())).2,Wk.ofk [] hk (by rfl) (by simp -implicitDefEqProofs [spec_MaskOk_l0_X,h_6,h_7,h_8,h_9]) (by simp -implicitDefEqProofs [spec_MaskOk_l0_X,h_6,h_7,h_8,h_9]),hR⟩
    ·rcases q with ⟨⟩ | ⟨⟩
     ·dsimp only at H
      try simp -implicitDefEqProofs (maxSteps := 999999) [-selQ_sel,h_1,h_2,h_3,h_4,spec_MaskOk_l0_X]
      have hr := (HS.some H).symm; subst hr
      refine Hid.mk ⟨_,Wk.refl _,?_⟩
      try simp -implicitDefEqProofs (maxSteps := 999999) [-selQ_sel,h_1,h_2,h_3,h_4]
     ·dsimp only at H
      try simp -implicitDefEqProofs (maxSteps := 999999) [-selQ_sel,h_1,h_2,h_3,h_4,spec_MaskOk_l0_X]
      have hr := (HS.some H).symm; subst hr
      refine Hid.mk ⟨_,Wk.refl _,?_⟩
      try simp -implicitDefEqProofs (maxSteps := 999999) [-selQ_sel,h_1,h_2,h_3,h_4]
   ·replace H := HS.cnd_f h_4 H
    try simp -implicitDefEqProofs (maxSteps := 999999) [-selQ_sel,h_1,h_2,h_3,h_4]
    have hr := (HS.some H).symm; subst hr
    refine Hid.mk ⟨_,Wk.refl _,?_⟩
    try simp -implicitDefEqProofs (maxSteps := 999999) [-selQ_sel,h_1,h_2,h_3,h_4]
  ·replace H := HS.cnd_f h_3 H
   try simp -implicitDefEqProofs (maxSteps := 999999) [-selQ_sel,h_1,h_2,h_3]
   have hr := (HS.some H).symm; subst hr
   refine Hid.mk ⟨_,Wk.refl _,?_⟩
   try simp -implicitDefEqProofs (maxSteps := 999999) [-selQ_sel,h_1,h_2,h_3]
theorem spec_l21First_ok0 (hm : Try.prog.follows .mixedOrders = true) (k_spec_l21Copy : Sound Try.prog 60 spec_l21Copy_x) : Sound Try.prog 73 spec_l21First_x := by
 refine xOf_sound fun q r h => ?_
 obtain ⟨a0,a1,a2⟩ := q
 refine fn_ok E0 hm Try.func73 rfl (by decide +kernel) (by rfl) fun Γ hn hk => ?_
 dsimp only [spec_l21First_e,spec_l21First_v]
 replace hn : Γ.n = 51 := hn
 replace hk : Γ.k = 0 := hk
 have H : HS (spec_l21First a0 a1 a2) r := h
 clear h; unfold spec_l21First at H
 try simp -implicitDefEqProofs at H
 refine Tr.of_vc (cl := tabC [(60,spec_l21Copy_x)]) (E := E0) [] (tab_cons k_spec_l21Copy tab_nil) hm (by rw [hn]; decide +kernel) ?_
 try simp -implicitDefEqProofs +decide (maxSteps := 999999) [-selQ_sel,hokQ_of]
 obtain ⟨q,h_1,H⟩ := HS.bnd H
 refine Hid.mk (Tr.weak (s' := (spec_l21First_l0_S a0 a1) (0,[(TKept.mk a1 a2)])) (Wk.ofk [0,2,4,3] hk (by rfl) (by simp -implicitDefEqProofs [spec_l21First_l0_S]) (by simp -implicitDefEqProofs [spec_l21First_l0_S])) ?_)
 refine wp_loop_of (S := (spec_l21First_l0_S a0 a1)) (f := (spec_l21First_l0 a0 a1)) (xt := (spec_l21First_l0_X a0 a1)) ?_ ?_ h_1 ?_
 ·intro q; simp [spec_l21First_l0_X]
 ·clear H h_1 q
  rintro ⟨x2,x3⟩ o R hf hR
  have H : HS (spec_l21First_l0 a0 a1 (x2,x3)) o := hf
  clear hf; unfold spec_l21First_l0 at H
  try simp -implicitDefEqProofs at H
  refine Tr.of_vc (cl := tabC [(60,spec_l21Copy_x)]) (E := E0) [] (tab_cons k_spec_l21Copy tab_nil) hm (by rw [hn]; decide +kernel) ?_
  try simp -implicitDefEqProofs +decide (maxSteps := 999999) [-selQ_sel,hokQ_of,spec_l21First_l0_S]
  refine Hid.brV (fun h_2 => ?_) (fun h_2 => ?_)
  ·replace H := HS.cnd_t h_2 H
   try simp -implicitDefEqProofs +decide (maxSteps := 999999) [-selQ_sel,hokQ_of,h_2]
   have hr := (HS.some H).symm; subst hr
   exact Hid.mk ⟨(spec_l21First_l0_X a0 a1 x3).2,Wk.ofk [1,2,3] hk (by rfl) (by simp -implicitDefEqProofs [spec_l21First_l0_X,h_2]) (by simp -implicitDefEqProofs [spec_l21First_l0_X,h_2]),hR⟩
  ·replace H := HS.cnd_f h_2 H
   try simp -implicitDefEqProofs +decide (maxSteps := 999999) [-selQ_sel,hokQ_of,h_2]
   obtain ⟨v4,h_3,H⟩ := HS.bnd H
   try simp -implicitDefEqProofs +decide (maxSteps := 999999) [-selQ_sel,hokQ_of,h_2,h_3]
   refine Hid.selQ (fun h_4 => ?_) (fun h_4 => ?_)
   ·replace H := HS.cnd_t h_4 H
    try simp -implicitDefEqProofs +decide (maxSteps := 999999) [-selQ_sel,hokQ_of,h_2,h_3,h_4]
    have hr := (HS.some H).symm; subst hr
    exact Hid.mk ⟨spec_l21First_l0_S a0 a1 ((IntKind.i64.wrap (x2 + 1)),x3),Wk.ofk [0,1,2,3] hk (by rfl) (by simp -implicitDefEqProofs [spec_l21First_l0_S,h_2,h_3,h_4]) (by simp -implicitDefEqProofs [spec_l21First_l0_S,h_2,h_3,h_4]),hR⟩
   ·replace H := HS.cnd_f h_4 H
    try simp -implicitDefEqProofs +decide (maxSteps := 999999) [-selQ_sel,hokQ_of,h_2,h_3,h_4]
    refine Hid.brV (fun h_5 => ?_) (fun h_5 => ?_)
    ·replace H := HS.cnd_t h_5 H
     try simp -implicitDefEqProofs +decide (maxSteps := 999999) [-selQ_sel,hokQ_of,h_2,h_3,h_4,h_5]
     have hr := (HS.some H).symm; subst hr
     exact Hid.mk ⟨spec_l21First_l0_S a0 a1 ((IntKind.i64.wrap (x2 + 1)),x3),Wk.ofk [0,1,2,3] hk (by rfl) (by simp -implicitDefEqProofs [spec_l21First_l0_S,h_2,h_3,h_4,h_5]) (by simp -implicitDefEqProofs [spec_l21First_l0_S,h_2,h_3,h_4,h_5]),hR⟩
    ·replace H := HS.cnd_f h_5 H
     try simp -implicitDefEqProofs +decide (maxSteps := 999999) [-selQ_sel,hokQ_of,h_2,h_3,h_4,h_5]
     obtain ⟨h_6,H⟩ := HS.chkP H
     try simp -implicitDefEqProofs +decide (maxSteps := 999999) [-selQ_sel,hokQ_of,h_2,h_3,h_4,h_5,h_6]
     obtain ⟨l5,h_7,H⟩ := HS.nam H
     have m_8 := congrArg (List.map eKept) h_7
     have q_9 := congrArg List.length h_7
     simp -implicitDefEqProofs at m_8 q_9
     try simp only [q_9] at m_8
     try simp only [q_9] at h_6
     try simp -implicitDefEqProofs +decide (maxSteps := 999999) [-selQ_sel,hokQ_of,h_2,h_3,h_4,h_5,h_6,m_8,q_9]
     have hr := (HS.some H).symm; subst hr
     exact Hid.mk ⟨spec_l21First_l0_S a0 a1 ((IntKind.i64.wrap (x2 + 1)),l5),Wk.ofk [0,1,2,3] hk (by rfl) (by simp -implicitDefEqProofs [spec_l21First_l0_S,h_2,h_3,h_4,h_5,h_6,m_8,q_9]) (by simp -implicitDefEqProofs [spec_l21First_l0_S,h_2,h_3,h_4,h_5,h_6,m_8,q_9]),hR⟩
 ·revert H h_1; revert q; intro y6 h_1 H
  try dsimp only at H
  try simp -implicitDefEqProofs +decide (maxSteps := 999999) [-selQ_sel,hokQ_of,spec_l21First_l0_X]
  obtain ⟨⟨w8,w9⟩,h_10,H⟩ := HS.bnd H
  dsimp only at H
  have k_11 := spec_l21Copy_k ((TCache.mk a0.most y6).most) ((TCache.mk a0.most y6).list)
  simp -implicitDefEqProofs [-spec_l21Copy_k] at k_11
  try simp -implicitDefEqProofs +decide (maxSteps := 999999) [-selQ_sel,hokQ_of,h_10,k_11]
  have hr := (HS.some H).symm; subst hr
  refine Hid.mk ⟨⟨[(6,AV.optr 0 0 2)],[(0,Ob.box [AV.int .i64 w8,AV.osl 1 0 (List.length w9) (List.length w9)]),(1,Ob.nar 6 (List.map eKept w9) [0,0,0,0,0,1])],2⟩,Wk.ofk [0,3] hk (by rfl) (by simp -implicitDefEqProofs [h_10,k_11]) (by simp -implicitDefEqProofs [h_10,k_11]),?_⟩
  try simp -implicitDefEqProofs +decide (maxSteps := 999999) [-selQ_sel,hokQ_of,h_10,k_11]
theorem slices_IndexFunc_Kept_Cache_keptAt_1_ok0 (hm : Try.prog.follows .mixedOrders = true) (k_impl_Cache_keptAt_1 : Sound Try.prog 126 impl_Cache_keptAt_1_x) : Sound Try.prog 118 slices_IndexFunc_Kept_Cache_keptAt_1_x := by
 refine xOf_sound fun q r h => ?_
 obtain ⟨a0,a1⟩ := q
 refine fn_ok E0 hm Try.func118 rfl (by decide +kernel) (by rfl) fun Γ hn hk => ?_
 dsimp only [slices_IndexFunc_Kept_Cache_keptAt_1_e,slices_IndexFunc_Kept_Cache_keptAt_1_v]
 replace hn : Γ.n = 19 := hn
 replace hk : Γ.k = 0 := hk
 have H : HS (slices_IndexFunc_Kept_Cache_keptAt_1 a0 a1) r := h
 clear h; unfold slices_IndexFunc_Kept_Cache_keptAt_1 at H
 try simp -implicitDefEqProofs at H
 refine Tr.of_vc (cl := tabC [(126,impl_Cache_keptAt_1_x)]) (E := E0) [] (tab_cons k_impl_Cache_keptAt_1 tab_nil) hm (by rw [hn]; decide +kernel) ?_
 try simp -implicitDefEqProofs (maxSteps := 999999) [-selQ_sel]
 obtain ⟨q,h_1,H⟩ := HS.bnd H
 refine Hid.mk (Tr.weak (s' := (slices_IndexFunc_Kept_Cache_keptAt_1_l0_S a0 a1) 0) (Wk.ofk [] hk (by rfl) (by simp -implicitDefEqProofs [slices_IndexFunc_Kept_Cache_keptAt_1_l0_S]) (by simp -implicitDefEqProofs [slices_IndexFunc_Kept_Cache_keptAt_1_l0_S])) ?_)
 refine wp_loop_of (S := (slices_IndexFunc_Kept_Cache_keptAt_1_l0_S a0 a1)) (f := (slices_IndexFunc_Kept_Cache_keptAt_1_l0 a0 a1)) (xt := (slices_IndexFunc_Kept_Cache_keptAt_1_l0_X a0 a1)) ?_ ?_ h_1 ?_
 ·intro q; rcases q with ⟨⟩ | y6 <;> simp [slices_IndexFunc_Kept_Cache_keptAt_1_l0_X]
 ·clear H h_1 q
  rintro x3 o R hf hR
  have H : HS (slices_IndexFunc_Kept_Cache_keptAt_1_l0 a0 a1 x3) o := hf
  clear hf; unfold slices_IndexFunc_Kept_Cache_keptAt_1_l0 at H
  try simp -implicitDefEqProofs at H
  refine Tr.of_vc (cl := tabC [(126,impl_Cache_keptAt_1_x)]) (E := E0) [] (tab_cons k_impl_Cache_keptAt_1 tab_nil) hm (by rw [hn]; decide +kernel) ?_
  try simp -implicitDefEqProofs (maxSteps := 999999) [-selQ_sel,slices_IndexFunc_Kept_Cache_keptAt_1_l0_S]
  refine Hid.brV (fun h_2 => ?_) (fun h_2 => ?_)
  ·replace H := HS.cnd_t h_2 H
   try simp -implicitDefEqProofs (maxSteps := 999999) [-selQ_sel,h_2]
   have hr := (HS.some H).symm; subst hr
   exact Hid.mk ⟨(slices_IndexFunc_Kept_Cache_keptAt_1_l0_X a0 a1 (.inl ())).2,Wk.ofk [] hk (by rfl) (by simp -implicitDefEqProofs [slices_IndexFunc_Kept_Cache_keptAt_1_l0_X,h_2]) (by simp -implicitDefEqProofs [slices_IndexFunc_Kept_Cache_keptAt_1_l0_X,h_2]),hR⟩
  ·replace H := HS.cnd_f h_2 H
   try simp -implicitDefEqProofs (maxSteps := 999999) [-selQ_sel,h_2]
   obtain ⟨v4,h_3,H⟩ := HS.bnd H
   try simp -implicitDefEqProofs (maxSteps := 999999) [-selQ_sel,h_2,h_3]
   obtain ⟨v5,h_4,H⟩ := HS.bnd H
   try simp -implicitDefEqProofs (maxSteps := 999999) [-selQ_sel,h_2,h_3,h_4]
   refine Hid.brV (fun h_5 => ?_) (fun h_5 => ?_)
   ·replace H := HS.cnd_t h_5 H
    try simp -implicitDefEqProofs (maxSteps := 999999) [-selQ_sel,h_2,h_3,h_4,h_5]
    have hr := (HS.some H).symm; subst hr
    exact Hid.mk ⟨(slices_IndexFunc_Kept_Cache_keptAt_1_l0_X a0 a1 (.inr x3)).2,Wk.ofk [] hk (by rfl) (by simp -implicitDefEqProofs [slices_IndexFunc_Kept_Cache_keptAt_1_l0_X,h_2,h_3,h_4,h_5]) (by simp -implicitDefEqProofs [slices_IndexFunc_Kept_Cache_keptAt_1_l0_X,h_2,h_3,h_4,h_5]),hR⟩
   ·replace H := HS.cnd_f h_5 H
    try simp -implicitDefEqProofs (maxSteps := 999999) [-selQ_sel,h_2,h_3,h_4,h_5]
    have hr := (HS.some H).symm; subst hr
    exact Hid.mk ⟨slices_IndexFunc_Kept_Cache_keptAt_1_l0_S a0 a1 (IntKind.i64.wrap (x3 + 1)),Wk.ofk [] hk (by rfl) (by simp -implicitDefEqProofs [slices_IndexFunc_Kept_Cache_keptAt_1_l0_S,h_2,h_3,h_4,h_5]) (by simp -implicitDefEqProofs [slices_IndexFunc_Kept_Cache_keptAt_1_l0_S,h_2,h_3,h_4,h_5]),hR⟩
 ·rcases q with ⟨⟩ | y6
  ·dsimp only at H
   try simp -implicitDefEqProofs (maxSteps := 999999) [-selQ_sel,slices_IndexFunc_Kept_Cache_keptAt_1_l0_X]
   have hr := (HS.some H).symm; subst hr
   refine Hid.mk ⟨_,Wk.refl _,?_⟩
   try simp -implicitDefEqProofs (maxSteps := 999999) [-selQ_sel]
  ·dsimp only at H
   try simp -implicitDefEqProofs (maxSteps := 999999) [-selQ_sel,slices_IndexFunc_Kept_Cache_keptAt_1_l0_X]
   have hr := (HS.some H).symm; subst hr
   refine Hid.mk ⟨_,Wk.refl _,?_⟩
   try simp -implicitDefEqProofs (maxSteps := 999999) [-selQ_sel]
theorem laws_toKeptS_ok0 (hm : Try.prog.follows .mixedOrders = true) (k_laws_toKept : Sound Try.prog 117 laws_toKept_x) : Sound Try.prog 61 laws_toKeptS_x := by
 refine xOf_sound fun q r h => ?_
 revert h; revert r; revert q; intro a0 r h
 refine fn_ok E0 hm Try.func61 rfl (by decide +kernel) (by rfl) fun Γ hn hk => ?_
 dsimp only [laws_toKeptS_e,laws_toKeptS_v]
 replace hn : Γ.n = 23 := hn
 replace hk : Γ.k = 0 := hk
 have H : HS (laws_toKeptS a0) r := h
 clear h; unfold laws_toKeptS at H
 try simp -implicitDefEqProofs at H
 refine Tr.of_vc (cl := tabC [(117,laws_toKept_x)]) (E := E0) [] (tab_cons k_laws_toKept tab_nil) hm (by rw [hn]; decide +kernel) ?_
 try simp -implicitDefEqProofs (maxSteps := 999999) [-selQ_sel]
 obtain ⟨h_1,H⟩ := HS.chkP H
 try simp -implicitDefEqProofs (maxSteps := 999999) [-selQ_sel,h_1]
 obtain ⟨l1,h_2,H⟩ := HS.nam H
 have m_3 := congrArg (List.map eKept) h_2
 have q_4 := congrArg List.length h_2
 simp -implicitDefEqProofs at m_3 q_4
 try simp only [q_4] at m_3
 try simp only [q_4] at h_1
 try simp -implicitDefEqProofs (maxSteps := 999999) [-selQ_sel,h_1,m_3,q_4]
 obtain ⟨q,h_5,H⟩ := HS.bnd H
 refine Hid.mk (Tr.weak (s' := (laws_toKeptS_l0_S a0) (0,l1)) (Wk.ofk [0] hk (by rfl) (by simp -implicitDefEqProofs [laws_toKeptS_l0_S,h_1,m_3,q_4]) (by simp -implicitDefEqProofs [laws_toKeptS_l0_S,h_1,m_3,q_4])) ?_)
 refine wp_loop_of (S := (laws_toKeptS_l0_S a0)) (f := (laws_toKeptS_l0 a0)) (xt := (laws_toKeptS_l0_X a0)) ?_ ?_ h_5 ?_
 ·intro q; simp [laws_toKeptS_l0_X]
 ·clear H h_5 q
  rintro ⟨x8,x9⟩ o R hf hR
  have H : HS (laws_toKeptS_l0 a0 (x8,x9)) o := hf
  clear hf; unfold laws_toKeptS_l0 at H
  try simp -implicitDefEqProofs at H
  refine Tr.of_vc (cl := tabC [(117,laws_toKept_x)]) (E := E0) [] (tab_cons k_laws_toKept tab_nil) hm (by rw [hn]; decide +kernel) ?_
  try simp -implicitDefEqProofs (maxSteps := 999999) [-selQ_sel,laws_toKeptS_l0_S]
  refine Hid.brV (fun h_6 => ?_) (fun h_6 => ?_)
  ·replace H := HS.cnd_t h_6 H
   try simp -implicitDefEqProofs (maxSteps := 999999) [-selQ_sel,h_6]
   have hr := (HS.some H).symm; subst hr
   exact Hid.mk ⟨(laws_toKeptS_l0_X a0 x9).2,Wk.ofk [0] hk (by rfl) (by simp -implicitDefEqProofs [laws_toKeptS_l0_X,h_6]) (by simp -implicitDefEqProofs [laws_toKeptS_l0_X,h_6]),hR⟩
  ·replace H := HS.cnd_f h_6 H
   try simp -implicitDefEqProofs (maxSteps := 999999) [-selQ_sel,h_6]
   obtain ⟨v10,h_7,H⟩ := HS.bnd H
   try simp -implicitDefEqProofs (maxSteps := 999999) [-selQ_sel,h_6,h_7]
   obtain ⟨⟨w12,w13,w14⟩,h_8,H⟩ := HS.bnd H
   dsimp only at H
   try simp -implicitDefEqProofs (maxSteps := 999999) [-selQ_sel,h_6,h_7,h_8]
   obtain ⟨v15,h_9,H⟩ := HS.bnd H
   have g_10 := idx_get h_9
   have g_11 := idx_lt h_9
   have g_12 := idx_getE h_9
   try simp -implicitDefEqProofs (maxSteps := 999999) [-selQ_sel,h_6,h_7,h_8,h_9,g_10,g_11,g_12]
   have hr := (HS.some H).symm; subst hr
   exact Hid.mk ⟨laws_toKeptS_l0_S a0 ((IntKind.i64.wrap (x8 + 1)),(List.set x9 (Int.toNat x8) (TKept.mk w12 (TMask.mk w13 w14)))),Wk.trans (Wk.abs (id := 0) (j := 1) (js := []) (by rfl) (by rfl) (by decide) (by simp -implicitDefEqProofs [laws_toKeptS_l0_S,h_6,h_7,h_8,h_9,g_10,g_11,g_12]) (by rfl) (by simp -implicitDefEqProofs [laws_toKeptS_l0_S,h_6,h_7,h_8,h_9,g_10,g_11,g_12]) (by simp -implicitDefEqProofs [laws_toKeptS_l0_S,h_6,h_7,h_8,h_9,g_10,g_11,g_12])) (Wk.ofk [0] hk (by rfl) (by simp -implicitDefEqProofs [laws_toKeptS_l0_S,h_6,h_7,h_8,h_9,g_10,g_11,g_12]) (by simp -implicitDefEqProofs [laws_toKeptS_l0_S,h_6,h_7,h_8,h_9,g_10,g_11,g_12])),hR⟩
 ·revert H h_5; revert q; intro y16 h_5 H
  try dsimp only at H
  try simp -implicitDefEqProofs (maxSteps := 999999) [-selQ_sel,h_1,m_3,q_4,laws_toKeptS_l0_X]
  have hr := (HS.some H).symm; subst hr
  refine Hid.mk ⟨⟨[(2,AV.osl 0 0 (List.length y16) (List.length y16))],[(0,Ob.nar 6 (List.map eKept y16) [0,0,0,0,0,1])],1⟩,Wk.ofk [0] hk (by rfl) (by simp -implicitDefEqProofs [h_1,m_3,q_4]) (by simp -implicitDefEqProofs [h_1,m_3,q_4]),?_⟩
  try simp -implicitDefEqProofs (maxSteps := 999999) [-selQ_sel,h_1,m_3,q_4]
theorem spec_l21Copy_ok0 (hm : Try.prog.follows .mixedOrders = true) (k_spec_l21CopyMask : Sound Try.prog 80 spec_l21CopyMask_x) : Sound Try.prog 60 spec_l21Copy_x := by
 refine xOf_sound fun q r h => ?_
 revert h; revert r; revert q; intro a0 r h
 refine fn_ok E0 hm Try.func60 rfl (by decide +kernel) (by rfl) fun Γ hn hk => ?_
 dsimp only [spec_l21Copy_e,spec_l21Copy_v]
 replace hn : Γ.n = 35 := hn
 replace hk : Γ.k = 0 := hk
 have H : HS (spec_l21Copy a0) r := h
 clear h; unfold spec_l21Copy at H
 try simp -implicitDefEqProofs at H
 refine Tr.of_vc (cl := tabC [(80,spec_l21CopyMask_x)]) (E := E0) [] (tab_cons k_spec_l21CopyMask tab_nil) hm (by rw [hn]; decide +kernel) ?_
 try simp -implicitDefEqProofs +decide (maxSteps := 999999) [-selQ_sel,hokQ_of]
 obtain ⟨q,h_1,H⟩ := HS.bnd H
 refine Hid.mk (Tr.weak (s' := (spec_l21Copy_l0_S a0) (0,[])) (Wk.ofk [0,1,2,3] hk (by rfl) (by simp -implicitDefEqProofs [spec_l21Copy_l0_S]) (by simp -implicitDefEqProofs [spec_l21Copy_l0_S])) ?_)
 refine wp_loop_of (S := (spec_l21Copy_l0_S a0)) (f := (spec_l21Copy_l0 a0)) (xt := (spec_l21Copy_l0_X a0)) ?_ ?_ h_1 ?_
 ·intro q; simp [spec_l21Copy_l0_X]
 ·clear H h_1 q
  rintro ⟨x5,x6⟩ o R hf hR
  have H : HS (spec_l21Copy_l0 a0 (x5,x6)) o := hf
  clear hf; unfold spec_l21Copy_l0 at H
  try simp -implicitDefEqProofs at H
  refine Tr.of_vc (cl := tabC [(80,spec_l21CopyMask_x)]) (E := E0) [] (tab_cons k_spec_l21CopyMask tab_nil) hm (by rw [hn]; decide +kernel) ?_
  try simp -implicitDefEqProofs +decide (maxSteps := 999999) [-selQ_sel,hokQ_of,spec_l21Copy_l0_S]
  refine Hid.brV (fun h_2 => ?_) (fun h_2 => ?_)
  ·replace H := HS.cnd_t h_2 H
   try simp -implicitDefEqProofs +decide (maxSteps := 999999) [-selQ_sel,hokQ_of,h_2]
   have hr := (HS.some H).symm; subst hr
   exact Hid.mk ⟨(spec_l21Copy_l0_X a0 x6).2,Wk.ofk [1,2,3] hk (by rfl) (by simp -implicitDefEqProofs [spec_l21Copy_l0_X,h_2]) (by simp -implicitDefEqProofs [spec_l21Copy_l0_X,h_2]),hR⟩
  ·replace H := HS.cnd_f h_2 H
   try simp -implicitDefEqProofs +decide (maxSteps := 999999) [-selQ_sel,hokQ_of,h_2]
   obtain ⟨v7,h_3,H⟩ := HS.bnd H
   try simp -implicitDefEqProofs +decide (maxSteps := 999999) [-selQ_sel,hokQ_of,h_2,h_3]
   obtain ⟨⟨w9,w10⟩,h_4,H⟩ := HS.bnd H
   dsimp only at H
   try simp -implicitDefEqProofs +decide (maxSteps := 999999) [-selQ_sel,hokQ_of,h_2,h_3,h_4]
   obtain ⟨h_5,H⟩ := HS.chkP H
   try simp -implicitDefEqProofs +decide (maxSteps := 999999) [-selQ_sel,hokQ_of,h_2,h_3,h_4,h_5]
   have hr := (HS.some H).symm; subst hr
   exact Hid.mk ⟨spec_l21Copy_l0_S a0 ((IntKind.i64.wrap (x5 + 1)),(x6 ++ [(TKept.mk v7.id (TMask.mk w9 w10))])),Wk.trans (Wk.abs (id := 3) (j := 4) (js := []) (by rfl) (by rfl) (by decide) (by simp -implicitDefEqProofs [spec_l21Copy_l0_S,h_2,h_3,h_4,h_5]) (by rfl) (by simp -implicitDefEqProofs [spec_l21Copy_l0_S,h_2,h_3,h_4,h_5]) (by simp -implicitDefEqProofs [spec_l21Copy_l0_S,h_2,h_3,h_4,h_5])) (Wk.ofk [0,1,2,3] hk (by rfl) (by simp -implicitDefEqProofs [spec_l21Copy_l0_S,h_2,h_3,h_4,h_5]) (by simp -implicitDefEqProofs [spec_l21Copy_l0_S,h_2,h_3,h_4,h_5])),hR⟩
 ·revert H h_1; revert q; intro y11 h_1 H
  try dsimp only at H
  try simp -implicitDefEqProofs +decide (maxSteps := 999999) [-selQ_sel,hokQ_of,spec_l21Copy_l0_X]
  have hr := (HS.some H).symm; subst hr
  refine Hid.mk ⟨⟨[(2,AV.optr 0 0 2)],[(0,Ob.box [AV.int .i64 a0.most,AV.osl 1 0 (List.length y11) (List.length y11)]),(1,Ob.nar 6 (List.map eKept y11) [0,0,0,0,0,1])],2⟩,Wk.ofk [0,2] hk (by rfl) (by simp -implicitDefEqProofs []) (by simp -implicitDefEqProofs []),?_⟩
  try simp -implicitDefEqProofs +decide (maxSteps := 999999) [-selQ_sel,hokQ_of]
theorem laws_heldIntS_ok0 (hm : Try.prog.follows .mixedOrders = true) : Sound Try.prog 82 laws_heldIntS_x := by
 refine xOf_sound fun q r h => ?_
 obtain ⟨a0,a1⟩ := q
 refine fn_ok E0 hm Try.func82 rfl (by decide +kernel) (by rfl) fun Γ hn hk => ?_
 dsimp only [laws_heldIntS_e,laws_heldIntS_v]
 replace hn : Γ.n = 21 := hn
 replace hk : Γ.k = 0 := hk
 have H : HS (laws_heldIntS a0 a1) r := h
 clear h; unfold laws_heldIntS at H
 try simp -implicitDefEqProofs at H
 refine Tr.of_vc (cl := tabC []) (E := E0) [] tab_nil hm (by rw [hn]; decide +kernel) ?_
 try simp -implicitDefEqProofs (maxSteps := 999999) [-selQ_sel]
 obtain ⟨q,h_1,H⟩ := HS.bnd H
 refine Hid.mk (Tr.weak (s' := (laws_heldIntS_l0_S a0) (a1,0)) (Wk.ofk [] hk (by rfl) (by simp -implicitDefEqProofs [laws_heldIntS_l0_S]) (by simp -implicitDefEqProofs [laws_heldIntS_l0_S])) ?_)
 refine wp_loop_of (S := (laws_heldIntS_l0_S a0)) (f := (laws_heldIntS_l0 a0)) (xt := (laws_heldIntS_l0_X a0)) ?_ ?_ h_1 ?_
 ·intro q; rcases q with y5 | ⟨⟩ <;> simp [laws_heldIntS_l0_X]
 ·clear H h_1 q
  rintro ⟨x2,x3⟩ o R hf hR
  have H : HS (laws_heldIntS_l0 a0 (x2,x3)) o := hf
  clear hf; unfold laws_heldIntS_l0 at H
  try simp -implicitDefEqProofs at H
  refine Tr.of_vc (cl := tabC []) (E := E0) [] tab_nil hm (by rw [hn]; decide +kernel) ?_
  try simp -implicitDefEqProofs (maxSteps := 999999) [-selQ_sel,laws_heldIntS_l0_S]
  refine Hid.brV (fun h_2 => ?_) (fun h_2 => ?_)
  ·replace H := HS.cnd_t h_2 H
   try simp -implicitDefEqProofs (maxSteps := 999999) [-selQ_sel,h_2]
   have hr := (HS.some H).symm; subst hr
   exact Hid.mk ⟨(laws_heldIntS_l0_X a0 (.inl x2)).2,Wk.ofk [] hk (by rfl) (by simp -implicitDefEqProofs [laws_heldIntS_l0_X,h_2]) (by simp -implicitDefEqProofs [laws_heldIntS_l0_X,h_2]),hR⟩
  ·replace H := HS.cnd_f h_2 H
   try simp -implicitDefEqProofs (maxSteps := 999999) [-selQ_sel,h_2]
   obtain ⟨v4,h_3,H⟩ := HS.bnd H
   try simp -implicitDefEqProofs (maxSteps := 999999) [-selQ_sel,h_2,h_3]
   refine Hid.brV (fun h_4 => ?_) (fun h_4 => ?_)
   ·replace H := HS.cnd_t h_4 H
    try simp -implicitDefEqProofs (maxSteps := 999999) [-selQ_sel,h_2,h_3,h_4]
    have hr := (HS.some H).symm; subst hr
    exact Hid.mk ⟨laws_heldIntS_l0_S a0 ((IntKind.i64.wrap (x2 + 1)),(IntKind.i64.wrap (x3 + 1))),Wk.ofk [] hk (by rfl) (by simp -implicitDefEqProofs [laws_heldIntS_l0_S,h_2,h_3,h_4]) (by simp -implicitDefEqProofs [laws_heldIntS_l0_S,h_2,h_3,h_4]),hR⟩
   ·replace H := HS.cnd_f h_4 H
    try simp -implicitDefEqProofs (maxSteps := 999999) [-selQ_sel,h_2,h_3,h_4]
    have hr := (HS.some H).symm; subst hr
    exact Hid.mk ⟨(laws_heldIntS_l0_X a0 (.inr ())).2,Wk.ofk [] hk (by rfl) (by simp -implicitDefEqProofs [laws_heldIntS_l0_X,h_2,h_3,h_4]) (by simp -implicitDefEqProofs [laws_heldIntS_l0_X,h_2,h_3,h_4]),hR⟩
 ·rcases q with y5 | ⟨⟩
  ·dsimp only at H
   try simp -implicitDefEqProofs (maxSteps := 999999) [-selQ_sel,laws_heldIntS_l0_X]
   have hr := (HS.some H).symm; subst hr
   refine Hid.mk ⟨_,Wk.refl _,?_⟩
   try simp -implicitDefEqProofs (maxSteps := 999999) [-selQ_sel]
  ·dsimp only at H
   try simp -implicitDefEqProofs (maxSteps := 999999) [-selQ_sel,laws_heldIntS_l0_X]
   have hr := (HS.some H).symm; subst hr
   refine Hid.mk ⟨_,Wk.refl _,?_⟩
   try simp -implicitDefEqProofs (maxSteps := 999999) [-selQ_sel]
theorem laws_eqMask_ok0 (hm : Try.prog.follows .mixedOrders = true) (k_laws_eqBox : Sound Try.prog 79 laws_eqBox_x) (k_laws_eqIntS : Sound Try.prog 20 laws_eqIntS_x) : Sound Try.prog 28 laws_eqMask_x := by
 refine xOf_sound fun q r h => ?_
 obtain ⟨a0,a1⟩ := q
 refine fn_ok E0 hm Try.func28 rfl (by decide +kernel) (by rfl) fun Γ hn hk => ?_
 dsimp only [laws_eqMask_e,laws_eqMask_v]
 replace hn : Γ.n = 17 := hn
 replace hk : Γ.k = 0 := hk
 have H : HS (laws_eqMask a0 a1) r := h
 clear h; unfold laws_eqMask at H
 try simp -implicitDefEqProofs at H
 refine Tr.of_vc (cl := tabC [(79,laws_eqBox_x),(20,laws_eqIntS_x)]) (E := E0) [] (tab_cons k_laws_eqBox (tab_cons k_laws_eqIntS tab_nil)) hm (by rw [hn]; decide +kernel) ?_
 try simp -implicitDefEqProofs (maxSteps := 999999) [-selQ_sel]
 obtain ⟨v1,h_1,H⟩ := HS.bnd H
 try simp -implicitDefEqProofs (maxSteps := 999999) [-selQ_sel,h_1]
 refine Hid.brV (fun h_2 => ?_) (fun h_2 => ?_)
 ·replace H := HS.cnd_t h_2 H
  try simp -implicitDefEqProofs (maxSteps := 999999) [-selQ_sel,h_1,h_2]
  obtain ⟨v2,h_3,H⟩ := HS.bnd H
  try simp -implicitDefEqProofs (maxSteps := 999999) [-selQ_sel,h_1,h_2,h_3]
  refine Hid.brV (fun h_4 => ?_) (fun h_4 => ?_)
  ·replace H := HS.cnd_t h_4 H
   try simp -implicitDefEqProofs (maxSteps := 999999) [-selQ_sel,h_1,h_2,h_3,h_4]
   have hr := (HS.some H).symm; subst hr
   refine Hid.mk ⟨_,Wk.refl _,?_⟩
   try simp -implicitDefEqProofs (maxSteps := 999999) [-selQ_sel,h_1,h_2,h_3,h_4]
  ·replace H := HS.cnd_f h_4 H
   try simp -implicitDefEqProofs (maxSteps := 999999) [-selQ_sel,h_1,h_2,h_3,h_4]
   have hr := (HS.some H).symm; subst hr
   refine Hid.mk ⟨_,Wk.refl _,?_⟩
   try simp -implicitDefEqProofs (maxSteps := 999999) [-selQ_sel,h_1,h_2,h_3,h_4]
 ·replace H := HS.cnd_f h_2 H
  try simp -implicitDefEqProofs (maxSteps := 999999) [-selQ_sel,h_1,h_2]
  have hr := (HS.some H).symm; subst hr
  refine Hid.mk ⟨_,Wk.refl _,?_⟩
  try simp -implicitDefEqProofs (maxSteps := 999999) [-selQ_sel,h_1,h_2]
theorem slices_Clone_int_ok0 (hm : Try.prog.follows .mixedOrders = true) : Sound Try.prog 125 slices_Clone_int_x := by
 refine xOf_sound fun q r h => ?_
 revert h; revert r; revert q; intro a0 r h
 refine fn_ok E0 hm Try.func125 rfl (by decide +kernel) (by rfl) fun Γ hn hk => ?_
 dsimp only [slices_Clone_int_e,slices_Clone_int_v]
 replace hn : Γ.n = 8 := hn
 replace hk : Γ.k = 0 := hk
 have H : HS (slices_Clone_int a0) r := h
 clear h; unfold slices_Clone_int at H
 obtain ⟨h_1,H⟩ := HS.chkP H
 have hr := (HS.some H).symm; subst hr
 refine Tr.of_vc (cl := tabC []) (E := E0) [1] tab_nil hm (by rw [hn]; decide +kernel) ?_
 simp -implicitDefEqProofs [-selQ_sel]
 refine Hid.mk (Tr_nil (E := E0) tab_nil (h1 := rfl) (hd1 := fun d h => by cases h; rw [hn]; decide) (ho := rfl) (hg := rfl) (hd := rfl) (hdn := by rw [hn]; decide) (hu := elt_36) (hx := rfl) fun b hb => ?_)
 refine Tr.of_vc (cl := tabC []) (E := E0) [] tab_nil hm (by rw [hn]; decide +kernel) ?_
 simp -implicitDefEqProofs [-selQ_sel,aft,putT]
 refine Hid.brV (fun h_2 => ?_) (fun h_2 => ?_)
 ·simp -implicitDefEqProofs [-selQ_sel]
  have h_3 := hb h_2; simp at h_3; subst h_3
  refine Hid.mk ⟨_,Wk.refl _,?_⟩
  simp -implicitDefEqProofs [-selQ_sel,h_1]
  refine ⟨⟨[(2,AV.osl 0 0 0 0)],[(0,Ob.arr 1 (List.map (AV.int .i64) []) false)],1⟩,Wk.ofk [0] hk (by rfl) (by simp -implicitDefEqProofs) (by simp -implicitDefEqProofs),?_⟩
  simp -implicitDefEqProofs [-selQ_sel,h_1]
 ·simp -implicitDefEqProofs [-selQ_sel]
  refine Hid.mk ⟨_,Wk.refl _,?_⟩
  simp -implicitDefEqProofs [-selQ_sel,h_1]
  refine ⟨⟨[(2,AV.osl 0 0 (List.length a0) (List.length a0))],[(0,Ob.arr 1 (List.map (AV.int .i64) a0) false)],1⟩,Wk.ofk [0] hk (by rfl) (by simp -implicitDefEqProofs) (by simp -implicitDefEqProofs),?_⟩
  simp -implicitDefEqProofs [-selQ_sel,h_1]
theorem laws_toMask_ok0 (hm : Try.prog.follows .mixedOrders = true) (k_laws_toBox : Sound Try.prog 74 laws_toBox_x) (k_laws_toIntS : Sound Try.prog 17 laws_toIntS_x) : Sound Try.prog 26 laws_toMask_x := by
 refine xOf_sound fun q r h => ?_
 revert h; revert r; revert q; intro a0 r h
 refine fn_ok E0 hm Try.func26 rfl (by decide +kernel) (by rfl) fun Γ hn hk => ?_
 dsimp only [laws_toMask_e,laws_toMask_v]
 replace hn : Γ.n = 13 := hn
 replace hk : Γ.k = 0 := hk
 have H : HS (laws_toMask a0) r := h
 clear h; unfold laws_toMask at H
 try simp -implicitDefEqProofs at H
 refine Tr.of_vc (cl := tabC [(74,laws_toBox_x),(17,laws_toIntS_x)]) (E := E0) [] (tab_cons k_laws_toBox (tab_cons k_laws_toIntS tab_nil)) hm (by rw [hn]; decide +kernel) ?_
 try simp -implicitDefEqProofs (maxSteps := 999999) [-selQ_sel]
 obtain ⟨v1,h_1,H⟩ := HS.bnd H
 try simp -implicitDefEqProofs (maxSteps := 999999) [-selQ_sel,h_1]
 obtain ⟨v2,h_2,H⟩ := HS.bnd H
 try simp -implicitDefEqProofs (maxSteps := 999999) [-selQ_sel,h_1,h_2]
 have hr := (HS.some H).symm; subst hr
 refine Hid.mk ⟨⟨[(2,AV.optr 0 0 5)],[(0,Ob.box [AV.int .i64 v1.x0,AV.int .i64 v1.y0,AV.int .i64 v1.x1,AV.int .i64 v1.y1,AV.osl 1 0 (List.length v2) (List.length v2)]),(1,Ob.arr 1 (List.map (AV.int .i64) v2) false)],2⟩,Wk.ofk [1,3] hk (by rfl) (by simp -implicitDefEqProofs [h_1,h_2]) (by simp -implicitDefEqProofs [h_1,h_2]),?_⟩
 try simp -implicitDefEqProofs (maxSteps := 999999) [-selQ_sel,h_1,h_2]
theorem laws_szCache_ok0 (hm : Try.prog.follows .mixedOrders = true) (k_laws_szKeptS : Sound Try.prog 59 laws_szKeptS_x) : Sound Try.prog 14 laws_szCache_x := by
 refine xOf_sound fun q r h => ?_
 obtain ⟨a0,a1⟩ := q
 refine fn_ok E0 hm Try.func14 rfl (by decide +kernel) (by rfl) fun Γ hn hk => ?_
 dsimp only [laws_szCache_e,laws_szCache_v]
 replace hn : Γ.n = 12 := hn
 replace hk : Γ.k = 0 := hk
 have H : HS (laws_szCache a0 a1) r := h
 clear h; unfold laws_szCache at H
 try simp -implicitDefEqProofs at H
 refine Tr.of_vc (cl := tabC [(59,laws_szKeptS_x)]) (E := E0) [] (tab_cons k_laws_szKeptS tab_nil) hm (by rw [hn]; decide +kernel) ?_
 try simp -implicitDefEqProofs (maxSteps := 999999) [-selQ_sel]
 obtain ⟨v1,h_1,H⟩ := HS.bnd H
 try simp -implicitDefEqProofs (maxSteps := 999999) [-selQ_sel,h_1]
 refine Hid.brV (fun h_2 => ?_) (fun h_2 => ?_)
 ·replace H := HS.cnd_t h_2 H
  try simp -implicitDefEqProofs (maxSteps := 999999) [-selQ_sel,h_1,h_2]
  have hr := (HS.some H).symm; subst hr
  refine Hid.mk ⟨_,Wk.refl _,?_⟩
  try simp -implicitDefEqProofs (maxSteps := 999999) [-selQ_sel,h_1,h_2]
 ·replace H := HS.cnd_f h_2 H
  try simp -implicitDefEqProofs (maxSteps := 999999) [-selQ_sel,h_1,h_2]
  have hr := (HS.some H).symm; subst hr
  refine Hid.mk ⟨_,Wk.refl _,?_⟩
  try simp -implicitDefEqProofs (maxSteps := 999999) [-selQ_sel,h_1,h_2]
theorem impl_copyMask_ok0 (hm : Try.prog.follows .mixedOrders = true) (k_slices_Clone_int : Sound Try.prog 125 slices_Clone_int_x) : Sound Try.prog 78 impl_copyMask_x := by
 refine xOf_sound fun q r h => ?_
 revert h; revert r; revert q; intro a0 r h
 refine fn_ok E0 hm Try.func78 rfl (by decide +kernel) (by rfl) fun Γ hn hk => ?_
 dsimp only [impl_copyMask_e,impl_copyMask_v]
 replace hn : Γ.n = 9 := hn
 replace hk : Γ.k = 0 := hk
 have H : HS (impl_copyMask a0) r := h
 clear h; unfold impl_copyMask at H
 try simp -implicitDefEqProofs at H
 refine Tr.of_vc (cl := tabC [(125,slices_Clone_int_x)]) (E := E0) [] (tab_cons k_slices_Clone_int tab_nil) hm (by rw [hn]; decide +kernel) ?_
 try simp -implicitDefEqProofs +decide (maxSteps := 999999) [-selQ_sel,hokQ_of]
 obtain ⟨v1,h_1,H⟩ := HS.bnd H
 try simp -implicitDefEqProofs +decide (maxSteps := 999999) [-selQ_sel,hokQ_of,h_1]
 have hr := (HS.some H).symm; subst hr
 refine Hid.mk ⟨⟨[(2,AV.optr 0 0 5)],[(0,Ob.box [AV.int .i64 a0.box.x0,AV.int .i64 a0.box.y0,AV.int .i64 a0.box.x1,AV.int .i64 a0.box.y1,AV.osl 1 0 (List.length v1) (List.length v1)]),(1,Ob.arr 1 (List.map (AV.int .i64) v1) false)],2⟩,Wk.ofk [1,2] hk (by rfl) (by simp -implicitDefEqProofs [h_1]) (by simp -implicitDefEqProofs [h_1]),?_⟩
 try simp -implicitDefEqProofs +decide (maxSteps := 999999) [-selQ_sel,hokQ_of,h_1]
theorem spec_Empty_ok0 (hm : Try.prog.follows .mixedOrders = true) : Sound Try.prog 155 spec_Empty_x := by
 refine xOf_sound fun q r h => ?_
 revert h; revert r; revert q; intro a0 r h
 refine fn_ok E0 hm Try.func155 rfl (by decide +kernel) (by rfl) fun Γ hn hk => ?_
 dsimp only [spec_Empty_e,spec_Empty_v]
 replace hn : Γ.n = 15 := hn
 replace hk : Γ.k = 0 := hk
 have H : HS (spec_Empty a0) r := h
 clear h; unfold spec_Empty at H
 try simp -implicitDefEqProofs at H
 refine Tr.of_vc (cl := tabC []) (E := E0) [] tab_nil hm (by rw [hn]; decide +kernel) ?_
 try simp -implicitDefEqProofs (maxSteps := 999999) [-selQ_sel]
 refine Hid.selQ (fun h_1 => ?_) (fun h_1 => ?_)
 ·replace H := HS.cnd_t h_1 H
  try simp -implicitDefEqProofs (maxSteps := 999999) [-selQ_sel,h_1]
  have hr := (HS.some H).symm; subst hr
  refine Hid.mk ⟨_,Wk.refl _,?_⟩
  try simp -implicitDefEqProofs (maxSteps := 999999) [-selQ_sel,h_1]
 ·replace H := HS.cnd_f h_1 H
  try simp -implicitDefEqProofs (maxSteps := 999999) [-selQ_sel,h_1]
  have hr := (HS.some H).symm; subst hr
  refine Hid.mk ⟨_,Wk.refl _,?_⟩
  try simp -implicitDefEqProofs (maxSteps := 999999) [-selQ_sel,h_1]
theorem spec_l01In_ok0 (hm : Try.prog.follows .mixedOrders = true) : Sound Try.prog 71 spec_l01In_x := by
 refine xOf_sound fun q r h => ?_
 obtain ⟨a0,a1,a2⟩ := q
 refine fn_ok E0 hm Try.func71 rfl (by decide +kernel) (by rfl) fun Γ hn hk => ?_
 dsimp only [spec_l01In_e,spec_l01In_v]
 replace hn : Γ.n = 15 := hn
 replace hk : Γ.k = 0 := hk
 have H : HS (spec_l01In a0 a1 a2) r := h
 clear h; unfold spec_l01In at H
 try simp -implicitDefEqProofs at H
 refine Tr.of_vc (cl := tabC []) (E := E0) [] tab_nil hm (by rw [hn]; decide +kernel) ?_
 try simp -implicitDefEqProofs (maxSteps := 999999) [-selQ_sel]
 refine Hid.selQ (fun h_1 => ?_) (fun h_1 => ?_)
 ·replace H := HS.cnd_t h_1 H
  try simp -implicitDefEqProofs (maxSteps := 999999) [-selQ_sel,h_1]
  have hr := (HS.some H).symm; subst hr
  refine Hid.mk ⟨_,Wk.refl _,?_⟩
  try simp -implicitDefEqProofs (maxSteps := 999999) [-selQ_sel,h_1]
 ·replace H := HS.cnd_f h_1 H
  try simp -implicitDefEqProofs (maxSteps := 999999) [-selQ_sel,h_1]
  have hr := (HS.some H).symm; subst hr
  refine Hid.mk ⟨_,Wk.refl _,?_⟩
  try simp -implicitDefEqProofs (maxSteps := 999999) [-selQ_sel,h_1]
theorem impl_Cache_keptAt_ok0 (hm : Try.prog.follows .mixedOrders = true) (k_slices_IndexFunc_Kept_Cache_keptAt_1 : Sound Try.prog 118 slices_IndexFunc_Kept_Cache_keptAt_1_x) : Sound Try.prog 81 impl_Cache_keptAt_x := by
 refine xOf_sound fun q r h => ?_
 obtain ⟨a0,a1⟩ := q
 refine fn_ok E0 hm Try.func81 rfl (by decide +kernel) (by rfl) fun Γ hn hk => ?_
 dsimp only [impl_Cache_keptAt_e,impl_Cache_keptAt_v]
 replace hn : Γ.n = 11 := hn
 replace hk : Γ.k = 0 := hk
 have H : HS (impl_Cache_keptAt a0 a1) r := h
 clear h; unfold impl_Cache_keptAt at H
 try simp -implicitDefEqProofs at H
 refine Tr.of_vc (cl := tabC [(118,slices_IndexFunc_Kept_Cache_keptAt_1_x)]) (E := E0) [] (tab_cons k_slices_IndexFunc_Kept_Cache_keptAt_1 tab_nil) hm (by rw [hn]; decide +kernel) ?_
 try simp -implicitDefEqProofs (maxSteps := 999999) [-selQ_sel]
 obtain ⟨v1,h_1,H⟩ := HS.bnd H
 try simp -implicitDefEqProofs (maxSteps := 999999) [-selQ_sel,h_1]
 have hr := (HS.some H).symm; subst hr
 refine Hid.mk ⟨_,Wk.refl _,?_⟩
 try simp -implicitDefEqProofs (maxSteps := 999999) [-selQ_sel,h_1]
theorem impl_Cache_keptAt_1R_ok0 (hm : Try.prog.follows .mixedOrders = true) : Sound Try.prog 126 impl_Cache_keptAt_1R_x := by
 refine xOf_sound fun q r h => ?_
 obtain ⟨a0,a1⟩ := q
 refine fn_ok E0 hm Try.func126 rfl (by decide +kernel) (by rfl) fun Γ hn hk => ?_
 dsimp only [impl_Cache_keptAt_1R_e,impl_Cache_keptAt_1R_v]
 replace hn : Γ.n = 8 := hn
 replace hk : Γ.k = 0 := hk
 have H : HS (impl_Cache_keptAt_1R a0 a1) r := h
 clear h; unfold impl_Cache_keptAt_1R at H
 try simp -implicitDefEqProofs at H
 refine Tr.of_vc (cl := tabC []) (E := E0) [] tab_nil hm (by rw [hn]; decide +kernel) ?_
 try simp -implicitDefEqProofs (maxSteps := 999999) [-selQ_sel]
 have hr := (HS.some H).symm; subst hr
 refine Hid.mk ⟨_,Wk.refl _,?_⟩
 try simp -implicitDefEqProofs (maxSteps := 999999) [-selQ_sel]
end Go.Proofs.Ytapchldnmkfkoaa.Am
