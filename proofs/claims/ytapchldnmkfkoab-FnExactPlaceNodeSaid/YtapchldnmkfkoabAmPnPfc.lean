import Derived.Test.YtapchldnmkfkoabAmPnNa
set_option linter.unusedVariables false
set_option linter.unusedSimpArgs false
set_option linter.unusedSectionVars false
namespace Go.Proofs.Ytapchldnmkfkoab.Am
open Go Go.Proofs
set_option maxRecDepth 100000
set_option linter.unusedSimpArgs false
set_option linter.unusedVariables false
set_option maxHeartbeats 4000000
theorem slices_Insert_NodeR_shift (mixed:Try.prog.follows .mixedOrders = true) (b n c i vb m vc:Nat) (cur:Array Value) (te:TypeId) (vs:List Value) (va:Array Value) (tv:TypeId) (w:World) (hi:i < n) (hm:0 < m) (hroom:n + m ≤ c) (hbig:(n + m) * 328 ≤ 17592186044416) (hvb:vb ≠ b)
  (hh:w.heap[b]? = some (.cells cur te (0,0))) (hsz:cur.size = c * 31) (hvl:vs.length = m * 31) (hvh:w.heap[vb]? = some (.cells va tv (0,0)))
  (hvs:∀ j v,vs[j]? = some v→w.cell? ⟨vb,0 + j,none⟩ = some v) (h1c:∀ v ∈ mid 31 cur.toList i n,v.oneCell' = true) (h1v:∀ v ∈ vs,v.oneCell' = true) :
  Calls Try.prog 40 #[.slice (some ⟨b,0,none⟩) n c,.int .i64 i,.slice (some ⟨vb,0,none⟩) m vc] w fun e w' =>
   e = .returned (.slice (some ⟨b,0,none⟩) (n + m) c)∧∃ w1,w1 = w.drew.setRow b (spl1 31 cur.toList i m n).toArray∧w' = w1.setRow b (spl2 31 cur.toList i m n vs).toArray:=by
 have uS:∀ w,(underlying 24).run Try.prog w = .ok (.slice 47) w:=fun w=>run_underlying (by kernel_rfl) w
 have zE:∀ w,(sizeOf 47).run Try.prog w = .ok 31 w:=fun w=>rfl
 have hz1:¬ ((m:Int) = 0):=by omega
 have hz2:¬ ((i:Int) = (n:Int)):=by omega
 have hw1:IntKind.i64.wrap ((i:Int) + (m:Int)) = (i:Int) + (m:Int):=by rw [IntKind.wrap_i64];omega
 have hw2:IntKind.i64.wrap ((n:Int) + (m:Int)) = (n:Int) + (m:Int):=by rw [IntKind.wrap_i64];omega
 have hb1:(0:Int) ≤ (i:Int) + (m:Int):=by omega
 have hin:i ≤ n:=by omega
 have htn:((i:Int) + (m:Int)).toNat = i + m:=by omega
 have htn2:((n:Int) + (m:Int)).toNat = n + m:=by omega
 have hb2:¬ (c = i + m):=by omega
 have hb3:(i:Int) ≤ (n:Int) + (m:Int):=by omega
 have hb4:¬ (c = i):=by omega
 have hov:∀ lb cb,(callFunc 85 #[.slice (some ⟨vb,0,none⟩) m vc,.slice (some ⟨b,(i + m) * 31,none⟩) lb cb]).run Try.prog w = .ok (.value (.bool false)) w:=fun lb cb=>by
  rw [run_callFunc_extern Try.func85 (by kernel_rfl) (by kernel_rfl) (by kernel_rfl) (e:=Extern.SlicesOverlaps.overlaps #[24,24] #[4]) (by kernel_rfl),
   Lib.run_overlaps_apart w 24 4 47 (by kernel_rfl) 31 zE ⟨vb,0,none⟩ ⟨b,(i + m) * 31,none⟩ m vc lb cb hvb tv te va.size cur.size (by simp [World.shape?,hvh]) (by simp [World.shape?,hh]) (by rw [hsz];omega) (by simp [World.frozen?,hvh]) (by simp [World.frozen?,hvh])]
  rfl
 have hcl:cur.toList.length = c * 31:=by simpa using hsz
 have hml:(mid 31 cur.toList i n).length = (n - i) * 31:=mid_len (c:=c) (by omega) hcl
 have hs1:(spl1 31 cur.toList i m n).length = c * 31:=by
  simp only [spl1,List.length_append,List.length_take,List.length_drop,hml,hcl];omega
 obtain ⟨i0,hi0,hs0⟩:∃ i0,Try.prog.info? 47 = some i0∧i0.size = 31:=⟨_,rfl,rfl⟩
 have hcp1:∀ (W:World),W.heap[b]? = some (.cells cur te (0,0))→∀ ty dc sc,(Builtin.copy_ #[24,24] ty #[.slice (some ⟨b,(i + m) * 31,none⟩) (n + m - (i + m)) dc,.slice (some ⟨b,i * 31,none⟩) (n + m - i) sc]).run Try.prog W = .ok (goInt (n - i:Nat)) (W.setRow b (spl1 31 cur.toList i m n).toArray):=fun W hW ty dc sc=>by
  refine run_copy_at (i:=i0) W (elem:=47) (by kernel_rfl) hi0 (by simp only [Nat.min_def];split <;> omega) ?_ hW (by rw [hml];omega) h1c
  rw [hs0]
  refine run_firstCells_some W 31 (n - i) ⟨b,i * 31,none⟩ _ _ _ hml (fun j v hj=>?_)
  rw [Addr.add_lit,cell_at hW]
  unfold mid at hj
  rw [List.getElem?_take] at hj
  split at hj
  ·rw [List.getElem?_drop] at hj;simpa using hj
  ·cases hj
 have hcp2:∀ (W:World),W.heap[b]? = some (.cells (spl1 31 cur.toList i m n).toArray te (0,0))→(∀ j v,vs[j]? = some v→W.cell? ⟨vb,0 + j,none⟩ = some v)→∀ ty dc,(Builtin.copy_ #[24,24] ty #[.slice (some ⟨b,i * 31,none⟩) (n + m - i) dc,.slice (some ⟨vb,0,none⟩) m vc]).run Try.prog W = .ok (goInt m) (W.setRow b (spl2 31 cur.toList i m n vs).toArray):=fun W hW hv ty dc=>by
  refine run_copy_at (i:=i0) W (elem:=47) (by kernel_rfl) hi0 (by simp only [Nat.min_def];split <;> omega) ?_ hW (by rw [List.size_toArray,hvl];have h9:=hs1;unfold spl1 at h9;rw [h9];have:(i + m) * 31 ≤ c * 31:=Nat.mul_le_mul_right _ (by omega);omega) h1v
  rw [hs0]
  exact run_firstCells_some W 31 m ⟨vb,0,none⟩ _ _ _ hvl (fun j v hj=>by rw [Addr.add_lit];exact hv j v hj)
 have hWh:(w.drew.setRow b (spl1 31 cur.toList i m n).toArray).heap[b]? = some (.cells (spl1 31 cur.toList i m n).toArray te (0,0)):=setRow_heap' (w:=w.drew) hh _
 have hcp1':=hcp1 w.drew hh
 have hvs':∀ j v,vs[j]? = some v→(w.drew.setRow b (spl1 31 cur.toList i m n).toArray).cell? ⟨vb,0 + j,none⟩ = some v:=fun j v hj=>by
  rw [← hvs j v hj]
  simp only [World.cell?]
  rw [show (w.drew.setRow b (spl1 31 cur.toList i m n).toArray).heap[vb]? = w.heap[vb]? from setRow_other w.drew b _ hvb]
 have e2:=hcp2 _ hWh hvs'
 clear hcp1 hcp2 hWh hvs'
 go_enter Try.func40,Try.ntmps40
 go_wp2_with (simp only [hov])
 go_region_law_o (refine step_copy_run rfl _ _ 24 24 rfl _ _ (by simp [Act.eval,Act.put]) (by simp [Act.eval,Act.put]) (hcp1' _ _ _) ?_)
 clear hcp1' hov
 go_wp2
 go_ret
 exact ⟨rfl,_,rfl,rfl⟩
theorem slices_Insert_NodeR_grow (mixed:Try.prog.follows .mixedOrders = true) (b n c i vb m vc:Nat) (cur:Array Value) (te:TypeId) (vs:List Value) (w:World) (hi:i < n) (hm:0 < m) (hnc:n ≤ c) (hroom:c < n + m) (hbig:(n + m) * 328 ≤ 17592186044416)
  (hh:w.heap[b]? = some (.cells cur te (0,0))) (hsz:cur.size = c * 31) (hvl:vs.length = m * 31)
  (hvs:∀ j v,vs[j]? = some v→w.cell? ⟨vb,0 + j,none⟩ = some v) (h1c:∀ v ∈ mid 31 cur.toList i n,v.oneCell' = true) (h1v:∀ v ∈ vs,v.oneCell' = true) :
  Calls Try.prog 40 #[.slice (some ⟨b,0,none⟩) n c,.int .i64 i,.slice (some ⟨vb,0,none⟩) m vc] w fun e w'=>∃ (te:TypeId) (G:Nat) (ROW:Array Value) (w1 w2:World),
   e = .returned (.slice (some ⟨w.heap.size,0,none⟩) (n + m) G)∧n + m ≤ G∧ROW.size = G * 31∧ROW.toList.take (i * 31) = cur.toList.take (i * 31) ∧
   w1 = (w.alloc (.cells ROW te)).drew∧w2 = (w1.setRow w.heap.size (gr1 31 ROW.toList i vs).toArray).drew∧w' = w2.setRow w.heap.size (gr2 31 ROW.toList cur.toList i m n vs).toArray:=by
 have uS:∀ w,(underlying 24).run Try.prog w = .ok (.slice 47) w:=fun w=>run_underlying (by kernel_rfl) w
 have zE:∀ w,(sizeOf 47).run Try.prog w = .ok 31 w:=fun w=>rfl
 obtain ⟨i0,hi0,hs0,hb0,z,hz,hzc⟩:∃ i0,Try.prog.info? 47 = some i0∧i0.size = 31∧i0.bytes = 328∧∃ z,i0.zero = some z∧z.cells.size = 31:=⟨_,rfl,rfl,rfl,_,rfl,rfl⟩
 have hz1:¬ ((m:Int) = 0):=by omega
 have hz2:¬ ((i:Int) = (n:Int)):=by omega
 have hz3:(c:Int) < (n:Int) + (m:Int):=by omega
 have hkk:(n:Int) + (m:Int) - (i:Int) = ((n + m - i:Nat):Int):=by omega
 have hik:i + (n + m - i) = n + m:=by omega
 have hw1:IntKind.i64.wrap ((i:Int) + (m:Int)) = (i:Int) + (m:Int):=by rw [IntKind.wrap_i64];omega
 have hw2:IntKind.i64.wrap ((n:Int) + (m:Int)) = (n:Int) + (m:Int):=by rw [IntKind.wrap_i64];omega
 have hw3:IntKind.i64.wrap ((n:Int) + (m:Int) - (i:Int)) = (n:Int) + (m:Int) - (i:Int):=by rw [IntKind.wrap_i64];omega
 have hb1:(0:Int) ≤ (i:Int) + (m:Int):=by omega
 have hin:i ≤ n:=by omega
 have htn:((i:Int) + (m:Int)).toNat = i + m:=by omega
 have hb3:(i:Int) ≤ (n:Int):=by omega
 have hcl:cur.toList.length = c * 31:=by simpa using hsz
 have hml:(mid 31 cur.toList i n).length = (n - i) * 31:=mid_len (c:=c) (by omega) hcl
 have hold:(Builtin.firstCells i0.size i (.slice (some ⟨b,0,none⟩) i c)).run Try.prog w.drew = .ok (cur.toList.take (i * 31)).toArray w.drew:=by
  rw [hs0]
  refine run_firstCells_some w.drew 31 i ⟨b,0,none⟩ i c (cur.toList.take (i * 31)) (by rw [List.length_take,hcl];have:i * 31 ≤ c * 31:=Nat.mul_le_mul_right _ (by omega);omega) fun j v hj=>?_
  rw [Addr.add_lit,cell_at (w:=w.drew) hh,Nat.zero_add]
  rw [List.getElem?_take] at hj
  split at hj
  ·simpa using hj
  ·cases hj
 obtain ⟨G,hG⟩:∃ G,G = grownCap w (n + m) c 47:=⟨_,rfl⟩
 obtain ⟨ROW,hROW⟩:∃ ROW:Array Value,ROW = (cur.toList.take (i * 31)).toArray ++ Builtin.zeroCells z.cells (n + m - i) ++ Builtin.zeroCells z.cells (G - (n + m)):=⟨_,rfl⟩
 have hrz:∀ ty,(Builtin.append_ #[24,3] ty #[.slice (some ⟨b,0,none⟩) i c,.int .i64 ((n:Int) + (m:Int) - (i:Int))]).run Try.prog w = .ok (.slice (some ⟨w.heap.size,0,none⟩) (n + m) G) (w.drew.alloc (.cells ROW 47)):=fun ty=>by
  have h:=Lib.run_append_grow_zeros w 24 3 ty 47 i0 z .i64 .i64 (by kernel_rfl) (by kernel_rfl) hi0 hz (some ⟨b,0,none⟩) i c (cur.toList.take (i * 31)) hold (n + m - i) (by omega) (by omega) (by omega) (by omega) (by rw [hb0];omega) (by rw [hb0,hik];exact fit_of (by unfold room;omega) hroom (by omega))
  rw [hik] at h
  rw [hkk,hROW,hG]
  exact h
 have hGn:n + m ≤ G:=by rw [hG];unfold grownCap;simp [Question.cut]
 have hG63:G ≤ 9223372036854775807:=by
  have:=grownCap_le_maxLen w (n + m) c 47 (by unfold maxLen;omega)
  rw [← hG] at this
  unfold maxLen at this
  omega
 have hRs:ROW.size = G * 31:=by
  have:i * 31 ≤ c * 31:=Nat.mul_le_mul_right _ (by omega)
  rw [hROW];simp only [Array.size_append,List.size_toArray,List.length_take,hcl,Builtin.zeroCells,Array.size_map,Array.size_range,hzc];omega
 have hRt:ROW.toList.take (i * 31) = cur.toList.take (i * 31):=by
  have:i * 31 ≤ c * 31:=Nat.mul_le_mul_right _ (by omega)
  have hl:(cur.toList.take (i * 31)).length = i * 31:=by rw [List.length_take,hcl];omega
  rw [hROW];simp only [Array.toList_append,List.append_assoc]
  rw [List.take_append_of_le_length (by omega)];exact List.take_of_length_le (by omega)
 have hGi:¬ (G = i):=by omega
 have hGim:¬ (G = i + m):=by omega
 have hci:¬ (c = i):=by omega
 clear hROW hG
 have hg1:(gr1 31 ROW.toList i vs).length = G * 31:=by
  simp only [gr1,List.length_append,List.length_take,List.length_drop,Array.length_toList,hRs,hvl];omega
 have hN:∀ W:World,(W.alloc (.cells ROW 47)).heap[W.heap.size]? = some (.cells ROW 47 (0,0)):=fun W=>by show (W.heap.push _)[W.heap.size]? = _;simp
 have hbw:b < w.heap.size:=(Array.getElem?_eq_some_iff.1 hh).1
 have hcpA:∀ (W:World),W.heap[w.heap.size]? = some (.cells ROW 47 (0,0))→(∀ j v,vs[j]? = some v→W.cell? ⟨vb,0 + j,none⟩ = some v)→∀ ty dc,(Builtin.copy_ #[24,24] ty #[.slice (some ⟨w.heap.size,i * 31,none⟩) (n + m - i) dc,.slice (some ⟨vb,0,none⟩) m vc]).run Try.prog W = .ok (goInt m) (W.setRow w.heap.size (gr1 31 ROW.toList i vs).toArray):=fun W hW hv ty dc=>by
  refine run_copy_at (i:=i0) W (elem:=47) (by kernel_rfl) hi0 (by simp only [Nat.min_def];split <;> omega) ?_ hW (by rw [hvl,hRs];omega) h1v
  rw [hs0]
  exact run_firstCells_some W 31 m ⟨vb,0,none⟩ _ _ _ hvl (fun j v hj=>by rw [Addr.add_lit];exact hv j v hj)
 have hcpB:∀ (W:World),W.heap[w.heap.size]? = some (.cells (gr1 31 ROW.toList i vs).toArray 47 (0,0))→W.heap[b]? = some (.cells cur te (0,0))→∀ ty dc sc,(Builtin.copy_ #[24,24] ty #[.slice (some ⟨w.heap.size,(i + m) * 31,none⟩) (n + m - (i + m)) dc,.slice (some ⟨b,i * 31,none⟩) (n - i) sc]).run Try.prog W = .ok (goInt (n - i:Nat)) (W.setRow w.heap.size (gr2 31 ROW.toList cur.toList i m n vs).toArray):=fun W hW hv ty dc sc=>by
  refine run_copy_at (i:=i0) W (elem:=47) (by kernel_rfl) hi0 (by simp only [Nat.min_def];split <;> omega) ?_ hW (by rw [List.size_toArray,hml];have h9:=hg1;unfold gr1 at h9;rw [h9];omega) h1c
  rw [hs0]
  refine run_firstCells_some W 31 (n - i) ⟨b,i * 31,none⟩ _ _ _ hml (fun j v hj=>?_)
  rw [Addr.add_lit,cell_at hv]
  unfold mid at hj
  rw [List.getElem?_take] at hj
  split at hj
  ·rw [List.getElem?_drop] at hj;simpa using hj
  ·cases hj
 have hvw:∀ j v,vs[j]? = some v→vb < w.heap.size:=fun j v hj=>by
  have:=hvs j v hj
  simp only [World.cell?] at this
  rcases Nat.lt_or_ge vb w.heap.size with h | h
  ·exact h
  ·rw [Array.getElem?_eq_none h] at this;cases this
 have eA:=hcpA ((w.alloc (.cells ROW 47)).drew) (hN w) (fun j v hj=>by
  rw [← hvs j v hj]
  have:=hvw j v hj
  show World.cell? (w.alloc _) _ = _
  simp only [World.cell?,World.alloc]
  rw [Array.getElem?_push,if_neg (by show ¬ vb = w.heap.size;omega)])
 have hWB:∀ W:World,W.heap = ((w.alloc (.cells ROW 47)).drew.setRow w.heap.size (gr1 31 ROW.toList i vs).toArray).heap→W.heap[w.heap.size]? = some (.cells (gr1 31 ROW.toList i vs).toArray 47 (0,0))∧W.heap[b]? = some (.cells cur te (0,0)):=fun W hW=>by
  constructor
  ·rw [hW];exact setRow_heap' (w:=(w.alloc (.cells ROW 47)).drew) (hN w) _
  ·rw [hW,setRow_other _ _ _ (by omega:b ≠ w.heap.size),← hh]
   show (w.heap.push _)[b]? = _
   rw [Array.getElem?_push,if_neg (by omega)]
 have eB:=hcpB (((w.alloc (.cells ROW 47)).drew.setRow w.heap.size (gr1 31 ROW.toList i vs).toArray).drew) (hWB _ rfl).1 (hWB _ rfl).2
 clear hcpA hcpB hWB hN hold hkk hik hvw
 go_enter Try.func40,Try.ntmps40
 go_wp2_with (at_builtin;refine Lib.wpList_append_run _ rfl _ _ _ _ rfl _ _ rfl rfl _ _ (hrz _) ?_)
 go_wp2
 go_region_law_o (refine step_copy_run rfl _ _ 24 24 rfl _ _ (by simp [Act.eval,Act.put]) (by simp [Act.eval,Act.put]) (eB _ _ _) ?_)
 go_wp2
 go_ret
 exact ⟨_,G,ROW,_,_,rfl,hGn,hRs,hRt,rfl,rfl,rfl⟩
theorem slices_Insert_NodeR_ok0 (hm:Try.prog.follows .mixedOrders = true):Sound Try.prog 40 slices_Insert_NodeR_x:=by
 refine xOf_sound fun q r h=>?_
 obtain ⟨a0,a1,a2,a3⟩:=q
 have H:HS (slices_Insert_NodeR a0 a1 a2 a3) r:=h
 clear h;unfold slices_Insert_NodeR at H
 cases hq:(ieq a1 (a0:Int)) with
 | false =>
  replace H:=HS.cnd_f hq H
  obtain ⟨⟨h1,h2,h3,h4,h5⟩,H⟩:=HS.chkP H
  have hr:=(HS.some H).symm;subst hr
  dsimp only [slices_Insert_NodeR_e,slices_Insert_NodeR_v]
  refine ⟨⟨Try.f40,_,Try.func40,rfl,by decide +kernel⟩,?_⟩
  have hh:=ins_ok (P:=Try.prog) (f:=40) (K:=31) (B:=328) (by decide) (slices_Insert_NodeR_shift hm) (slices_Insert_NodeR_grow hm) (es:=List.map eNodeR a2) (vs:=List.map eNodeR a3) (k:=a0) (i:=a1) (ro:=false) (by simpa using h3) h1 h2 (by simpa using h4) (by simpa using h5)
  have e1:=insR_len (c:=a2) (v:=a3) (k:=a0) (i:=a1) (by omega) h3
  have e2:=insL_len (c:=a2) (v:=a3) (k:=a0) (i:=a1) (by omega) h3
  simp only [List.length_map,← insR_map,← insL_map] at hh ⊢
  simp only [e1,e2] at hh ⊢
  first | exact hh | simpa using hh
 | true =>
 replace H:=HS.cnd_t hq H
 refine fn_ok E0 hm Try.func40 rfl (by decide +kernel) (by rfl) fun Γ hn hk=>?_
 dsimp only [slices_Insert_NodeR_e,slices_Insert_NodeR_v]
 replace hn:Γ.n = 95:=hn
 replace hk:Γ.k = 2:=hk
 try simp -implicitDefEqProofs at H
 refine Tr.of_vc (cl:=tabC []) (E:=E0) [] tab_nil hm (by rw [hn];decide +kernel) ?_
 try simp -implicitDefEqProofs +decide (maxSteps:=999999) [-selQ_sel,hokQ_of,-appO_some,appO_part,appO_whole,hq]
 obtain ⟨A1,H⟩:=HS.chkP H
 try simp -implicitDefEqProofs +decide (maxSteps:=999999) [-selQ_sel,hokQ_of,-appO_some,appO_part,appO_whole,hq,A1]
 obtain ⟨v1,A2,H⟩:=HS.bnd H
 have C3:=(slc_spec A2).1
 have C4:=slc_fit A2
 have C5:=slc_map (e:=eNodeR) A2
 have C6:=(slc_spec A2).2.1
 simp -implicitDefEqProofs at C3 C4 C5 C6
 try simp only [C6] at C4 C5
 try simp -implicitDefEqProofs +decide (maxSteps:=999999) [-selQ_sel,hokQ_of,-appO_some,appO_part,appO_whole,hq,A1,A2,C3,C4,C5,C6]
 refine Hid.brV (fun A7=>?_) (fun A7=>?_)
 ·replace H:=HS.cnd_t A7 H
  try simp -implicitDefEqProofs +decide (maxSteps:=999999) [-selQ_sel,hokQ_of,-appO_some,appO_part,appO_whole,hq,A1,A2,C3,C4,C5,C6,A7]
  have hr:=(HS.some H).symm;subst hr
  refine Hid.mk ⟨⟨[(6,AV.osl 0 0 a0 (List.length a2))],[(0,Ob.arr 31 (List.map eNodeR a2) false),(1,Ob.arr 31 (List.map eNodeR a3) false)],2⟩,Wk.ofk [0,1] hk (by rfl) (by simp -implicitDefEqProofs [hq,A1,A2,C3,C4,C5,C6,A7]) (by simp -implicitDefEqProofs [hq,A1,A2,C3,C4,C5,C6,A7]),?_⟩
  try simp -implicitDefEqProofs +decide (maxSteps:=999999) [-selQ_sel,hokQ_of,-appO_some,appO_part,appO_whole,hq,A1,A2,C3,C4,C5,C6,A7]
 ·replace H:=HS.cnd_f A7 H
  try simp -implicitDefEqProofs +decide (maxSteps:=999999) [-selQ_sel,hokQ_of,-appO_some,appO_part,appO_whole,hq,A1,A2,C3,C4,C5,C6,A7]
  cases A8:(ieq (a0:Int) (List.length a2:Int)) with
  | true =>
   replace H:=HS.cnd_t A8 H
   have A9:a0 = List.length a2:=by have:=A8;simp [ieq] at this;omega
   clear A8
   try simp -implicitDefEqProofs +decide (maxSteps:=999999) [-selQ_sel,hokQ_of,-appO_some,appO_part,appO_whole,hq,A1,A2,C3,C4,C5,C6,A7,A9]
   obtain ⟨A10,H⟩:=HS.chkP H
   try simp -implicitDefEqProofs +decide (maxSteps:=999999) [-selQ_sel,hokQ_of,-appO_some,appO_part,appO_whole,hq,A1,A2,C3,C4,C5,C6,A7,A9,A10]
   obtain ⟨l2,A11,H⟩:=HS.nam H
   have E12:=congrArg (List.map eNodeR) A11
   have D13:=congrArg List.length A11
   simp -implicitDefEqProofs at E12 D13
   try simp only [D13] at E12
   try simp only [D13] at A10
   try simp only [D13] at C3
   try simp only [D13] at C4
   try simp only [D13] at C5
   try simp only [D13] at C6
   try simp -implicitDefEqProofs +decide (maxSteps:=999999) [-selQ_sel,hokQ_of,-appO_some,appO_part,appO_whole,hq,A1,A2,C3,C4,C5,C6,A7,A9,A10,E12,D13]
   have hr:=(HS.some H).symm;subst hr
   refine Hid.mk ⟨⟨[(6,AV.osl 0 0 (List.length l2) (List.length l2))],[(0,Ob.arr 31 (List.map eNodeR l2) false),(1,Ob.arr 31 (List.map eNodeR a3) false)],2⟩,Wk.ofk [0,1] hk (by rfl) (by simp -implicitDefEqProofs [hq,A1,A2,C3,C4,C5,C6,A7,A9,A10,E12,D13]) (by simp -implicitDefEqProofs [hq,A1,A2,C3,C4,C5,C6,A7,A9,A10,E12,D13]),?_⟩
   try simp -implicitDefEqProofs +decide (maxSteps:=999999) [-selQ_sel,hokQ_of,-appO_some,appO_part,appO_whole,hq,A1,A2,C3,C4,C5,C6,A7,A9,A10,E12,D13]
  | false =>
   replace H:=HS.cnd_f A8 H
   try simp -implicitDefEqProofs +decide (maxSteps:=999999) [-selQ_sel,hokQ_of,-appO_some,appO_part,appO_whole,hq,A1,A2,C3,C4,C5,C6,A7,A8]
   obtain ⟨A14,H⟩:=HS.chkP H
   try simp -implicitDefEqProofs +decide (maxSteps:=999999) [-selQ_sel,hokQ_of,-appO_some,appO_part,appO_whole,hq,A1,A2,C3,C4,C5,C6,A7,A8,A14]
   obtain ⟨A15,H⟩:=HS.chkP H
   try simp -implicitDefEqProofs +decide (maxSteps:=999999) [-selQ_sel,hokQ_of,-appO_some,appO_part,appO_whole,hq,A1,A2,C3,C4,C5,C6,A7,A8,A14,A15]
   obtain ⟨l3,A16,H⟩:=HS.nam H
   have E17:=congrArg (List.map eNodeR) A16
   have D18:=congrArg List.length A16
   rw [ovr_len (by simp -implicitDefEqProofs [A1,A2,C3,C4,C5,C6,A7,A8,A14,A15])] at D18
   simp -implicitDefEqProofs at E17 D18
   try simp only [D18] at E17
   try simp only [D18] at A15
   try simp only [D18] at C3
   try simp only [D18] at C4
   try simp only [D18] at C5
   try simp only [D18] at C6
   try simp -implicitDefEqProofs +decide (maxSteps:=999999) [-selQ_sel,hokQ_of,-appO_some,appO_part,appO_whole,hq,A1,A2,C3,C4,C5,C6,A7,A8,A14,A15,E17,D18]
   obtain ⟨v4,A19,H⟩:=HS.bnd H
   have C20:=(slc_spec A19).1
   have C21:=slc_fit A19
   have C22:=slc_map (e:=eNodeR) A19
   have C23:=(slc_spec A19).2.1
   simp -implicitDefEqProofs at C20 C21 C22 C23
   try simp only [C23] at C21 C22
   have C24:=slc_hi A19
   try simp -implicitDefEqProofs +decide (maxSteps:=999999) [-selQ_sel,hokQ_of,-appO_some,appO_part,appO_whole,hq,A1,A2,C3,C4,C5,C6,A7,A8,A14,A15,E17,D18,A19,C20,C21,C22,C23,C24]
   have hr:=(HS.some H).symm;subst hr
   refine Hid.mk ⟨⟨[(6,AV.osl 0 0 (List.length v4) (List.length l3))],[(0,Ob.arr 31 (List.map eNodeR l3) false),(1,Ob.arr 31 (List.map eNodeR a3) false)],2⟩,Wk.ofk [0,1] hk (by rfl) (by simp -implicitDefEqProofs [hq,A1,A2,C3,C4,C5,C6,A7,A8,A14,A15,E17,D18,A19,C20,C21,C22,C23,C24]) (by simp -implicitDefEqProofs [hq,A1,A2,C3,C4,C5,C6,A7,A8,A14,A15,E17,D18,A19,C20,C21,C22,C23,C24]),?_⟩
   try simp -implicitDefEqProofs +decide (maxSteps:=999999) [-selQ_sel,hokQ_of,-appO_some,appO_part,appO_whole,hq,A1,A2,C3,C4,C5,C6,A7,A8,A14,A15,E17,D18,A19,C20,C21,C22,C23,C24]
theorem spec_NodeOk_ok0 (hm:Try.prog.follows .mixedOrders = true) (k_spec_l01In:Sound Try.prog 87 spec_l01In_x) (k_spec_MatOk:Sound Try.prog 98 spec_MatOk_x) (k_spec_PathOk:Sound Try.prog 99 spec_PathOk_x) (k_spec_DashOk:Sound Try.prog 100 spec_DashOk_x) (k_spec_l15NoPath:Sound Try.prog 101 spec_l15NoPath_x) (k_spec_l15NoPaint:Sound Try.prog 102 spec_l15NoPaint_x) (k_spec_PaintOk:Sound Try.prog 103 spec_PaintOk_x):Sound Try.prog 57 spec_NodeOk_x:=by
 refine xOf_sound fun q r h=>?_
 revert h;revert r;revert q;intro a0 r h
 refine fn_ok E0 hm Try.func57 rfl (by decide +kernel) (by rfl) fun Γ hn hk=>?_
 dsimp only [spec_NodeOk_e,spec_NodeOk_v]
 replace hn:Γ.n = 91:=hn
 replace hk:Γ.k = 0:=hk
 have H:HS (spec_NodeOk a0) r:=h
 clear h;unfold spec_NodeOk at H
 try simp -implicitDefEqProofs at H
 refine Tr.of_vc (cl:=tabC [(87,spec_l01In_x),(98,spec_MatOk_x),(99,spec_PathOk_x),(100,spec_DashOk_x),(101,spec_l15NoPath_x),(102,spec_l15NoPaint_x),(103,spec_PaintOk_x)]) (E:=E0) [] (tab_cons k_spec_l01In (tab_cons k_spec_MatOk (tab_cons k_spec_PathOk (tab_cons k_spec_DashOk (tab_cons k_spec_l15NoPath (tab_cons k_spec_l15NoPaint (tab_cons k_spec_PaintOk tab_nil))))))) hm (by rw [hn];decide +kernel) ?_
 try simp -implicitDefEqProofs (maxSteps:=999999) [-selQ_sel]
 obtain ⟨v1,A1,H⟩:=HS.bnd H
 try simp -implicitDefEqProofs (maxSteps:=999999) [-selQ_sel,A1]
 refine Hid.selQ (fun A2=>?_) (fun A2=>?_)
 ·replace H:=HS.cnd_t A2 H
  try simp -implicitDefEqProofs (maxSteps:=999999) [-selQ_sel,A1,A2]
  obtain ⟨v2,A3,H⟩:=HS.bnd H
  try simp -implicitDefEqProofs (maxSteps:=999999) [-selQ_sel,A1,A2,A3]
  refine Hid.selQ (fun A4=>?_) (fun A4=>?_)
  ·replace H:=HS.cnd_t A4 H
   try simp -implicitDefEqProofs (maxSteps:=999999) [-selQ_sel,A1,A2,A3,A4]
   refine Hid.selQ (fun A5=>?_) (fun A5=>?_)
   ·replace H:=HS.cnd_t A5 H
    try simp -implicitDefEqProofs (maxSteps:=999999) [-selQ_sel,A1,A2,A3,A4,A5]
    have hr:=(HS.some H).symm;subst hr
    refine Hid.mk ⟨_,Wk.refl _,?_⟩
    try simp -implicitDefEqProofs (maxSteps:=999999) [-selQ_sel,A1,A2,A3,A4,A5]
   ·replace H:=HS.cnd_f A5 H
    try simp -implicitDefEqProofs (maxSteps:=999999) [-selQ_sel,A1,A2,A3,A4,A5]
    obtain ⟨v3,A6,H⟩:=HS.bnd H
    try simp -implicitDefEqProofs (maxSteps:=999999) [-selQ_sel,A1,A2,A3,A4,A5,A6]
    refine Hid.selQ (fun A7=>?_) (fun A7=>?_)
    ·replace H:=HS.cnd_t A7 H
     try simp -implicitDefEqProofs (maxSteps:=999999) [-selQ_sel,A1,A2,A3,A4,A5,A6,A7]
     obtain ⟨v4,A8,H⟩:=HS.bnd H
     try simp -implicitDefEqProofs (maxSteps:=999999) [-selQ_sel,A1,A2,A3,A4,A5,A6,A7,A8]
     refine Hid.selQ (fun A9=>?_) (fun A9=>?_)
     ·replace H:=HS.cnd_t A9 H
      try simp -implicitDefEqProofs (maxSteps:=999999) [-selQ_sel,A1,A2,A3,A4,A5,A6,A7,A8,A9]
      obtain ⟨v5,A10,H⟩:=HS.bnd H
      try simp -implicitDefEqProofs (maxSteps:=999999) [-selQ_sel,A1,A2,A3,A4,A5,A6,A7,A8,A9,A10]
      refine Hid.selQ (fun A11=>?_) (fun A11=>?_)
      ·replace H:=HS.cnd_t A11 H
       try simp -implicitDefEqProofs (maxSteps:=999999) [-selQ_sel,A1,A2,A3,A4,A5,A6,A7,A8,A9,A10,A11]
       obtain ⟨v6,A12,H⟩:=HS.bnd H
       try simp -implicitDefEqProofs (maxSteps:=999999) [-selQ_sel,A1,A2,A3,A4,A5,A6,A7,A8,A9,A10,A11,A12]
       refine Hid.selQ (fun A13=>?_) (fun A13=>?_)
       ·replace H:=HS.cnd_t A13 H
        try simp -implicitDefEqProofs (maxSteps:=999999) [-selQ_sel,A1,A2,A3,A4,A5,A6,A7,A8,A9,A10,A11,A12,A13]
        obtain ⟨v7,A14,H⟩:=HS.bnd H
        try simp -implicitDefEqProofs (maxSteps:=999999) [-selQ_sel,A1,A2,A3,A4,A5,A6,A7,A8,A9,A10,A11,A12,A13,A14]
        refine Hid.selQ (fun A15=>?_) (fun A15=>?_)
        ·replace H:=HS.cnd_t A15 H
         try simp -implicitDefEqProofs (maxSteps:=999999) [-selQ_sel,A1,A2,A3,A4,A5,A6,A7,A8,A9,A10,A11,A12,A13,A14,A15]
         obtain ⟨v8,A16,H⟩:=HS.bnd H
         try simp -implicitDefEqProofs (maxSteps:=999999) [-selQ_sel,A1,A2,A3,A4,A5,A6,A7,A8,A9,A10,A11,A12,A13,A14,A15,A16]
         refine Hid.selQ (fun A17=>?_) (fun A17=>?_)
         ·replace H:=HS.cnd_t A17 H
          try simp -implicitDefEqProofs (maxSteps:=999999) [-selQ_sel,A1,A2,A3,A4,A5,A6,A7,A8,A9,A10,A11,A12,A13,A14,A15,A16,A17]
          obtain ⟨v9,A18,H⟩:=HS.bnd H
          try simp -implicitDefEqProofs (maxSteps:=999999) [-selQ_sel,A1,A2,A3,A4,A5,A6,A7,A8,A9,A10,A11,A12,A13,A14,A15,A16,A17,A18]
          refine Hid.brV (fun A19=>?_) (fun A19=>?_)
          ·replace H:=HS.cnd_t A19 H
           try simp -implicitDefEqProofs (maxSteps:=999999) [-selQ_sel,A1,A2,A3,A4,A5,A6,A7,A8,A9,A10,A11,A12,A13,A14,A15,A16,A17,A18,A19]
           refine Hid.brV (fun A20=>?_) (fun A20=>?_)
           ·replace H:=HS.cnd_t A20 H
            try simp -implicitDefEqProofs (maxSteps:=999999) [-selQ_sel,A1,A2,A3,A4,A5,A6,A7,A8,A9,A10,A11,A12,A13,A14,A15,A16,A17,A18,A19,A20]
            obtain ⟨v10,A21,H⟩:=HS.bnd H
            try simp -implicitDefEqProofs (maxSteps:=999999) [-selQ_sel,A1,A2,A3,A4,A5,A6,A7,A8,A9,A10,A11,A12,A13,A14,A15,A16,A17,A18,A19,A20,A21]
            refine Hid.selQ (fun A22=>?_) (fun A22=>?_)
            ·replace H:=HS.cnd_t A22 H
             try simp -implicitDefEqProofs (maxSteps:=999999) [-selQ_sel,A1,A2,A3,A4,A5,A6,A7,A8,A9,A10,A11,A12,A13,A14,A15,A16,A17,A18,A19,A20,A21,A22]
             obtain ⟨v11,A23,H⟩:=HS.bnd H
             try simp -implicitDefEqProofs (maxSteps:=999999) [-selQ_sel,A1,A2,A3,A4,A5,A6,A7,A8,A9,A10,A11,A12,A13,A14,A15,A16,A17,A18,A19,A20,A21,A22,A23]
             refine Hid.selQ (fun A24=>?_) (fun A24=>?_)
             ·replace H:=HS.cnd_t A24 H
              try simp -implicitDefEqProofs (maxSteps:=999999) [-selQ_sel,A1,A2,A3,A4,A5,A6,A7,A8,A9,A10,A11,A12,A13,A14,A15,A16,A17,A18,A19,A20,A21,A22,A23,A24]
              refine Hid.selQ (fun A25=>?_) (fun A25=>?_)
              ·replace H:=HS.cnd_t A25 H
               try simp -implicitDefEqProofs (maxSteps:=999999) [-selQ_sel,A1,A2,A3,A4,A5,A6,A7,A8,A9,A10,A11,A12,A13,A14,A15,A16,A17,A18,A19,A20,A21,A22,A23,A24,A25]
               refine Hid.selQ (fun A26=>?_) (fun A26=>?_)
               ·replace H:=HS.cnd_t A26 H
                try simp -implicitDefEqProofs (maxSteps:=999999) [-selQ_sel,A1,A2,A3,A4,A5,A6,A7,A8,A9,A10,A11,A12,A13,A14,A15,A16,A17,A18,A19,A20,A21,A22,A23,A24,A25,A26]
                have hr:=(HS.some H).symm;subst hr
                refine Hid.mk ⟨_,Wk.refl _,?_⟩
                try simp -implicitDefEqProofs (maxSteps:=999999) [-selQ_sel,A1,A2,A3,A4,A5,A6,A7,A8,A9,A10,A11,A12,A13,A14,A15,A16,A17,A18,A19,A20,A21,A22,A23,A24,A25,A26]
               ·replace H:=HS.cnd_f A26 H
                try simp -implicitDefEqProofs (maxSteps:=999999) [-selQ_sel,A1,A2,A3,A4,A5,A6,A7,A8,A9,A10,A11,A12,A13,A14,A15,A16,A17,A18,A19,A20,A21,A22,A23,A24,A25,A26]
                have hr:=(HS.some H).symm;subst hr
                refine Hid.mk ⟨_,Wk.refl _,?_⟩
                try simp -implicitDefEqProofs (maxSteps:=999999) [-selQ_sel,A1,A2,A3,A4,A5,A6,A7,A8,A9,A10,A11,A12,A13,A14,A15,A16,A17,A18,A19,A20,A21,A22,A23,A24,A25,A26]
              ·replace H:=HS.cnd_f A25 H
               try simp -implicitDefEqProofs (maxSteps:=999999) [-selQ_sel,A1,A2,A3,A4,A5,A6,A7,A8,A9,A10,A11,A12,A13,A14,A15,A16,A17,A18,A19,A20,A21,A22,A23,A24,A25]
               have hr:=(HS.some H).symm;subst hr
               refine Hid.mk ⟨_,Wk.refl _,?_⟩
               try simp -implicitDefEqProofs (maxSteps:=999999) [-selQ_sel,A1,A2,A3,A4,A5,A6,A7,A8,A9,A10,A11,A12,A13,A14,A15,A16,A17,A18,A19,A20,A21,A22,A23,A24,A25]
             ·replace H:=HS.cnd_f A24 H
              try simp -implicitDefEqProofs (maxSteps:=999999) [-selQ_sel,A1,A2,A3,A4,A5,A6,A7,A8,A9,A10,A11,A12,A13,A14,A15,A16,A17,A18,A19,A20,A21,A22,A23,A24]
              have hr:=(HS.some H).symm;subst hr
              refine Hid.mk ⟨_,Wk.refl _,?_⟩
              try simp -implicitDefEqProofs (maxSteps:=999999) [-selQ_sel,A1,A2,A3,A4,A5,A6,A7,A8,A9,A10,A11,A12,A13,A14,A15,A16,A17,A18,A19,A20,A21,A22,A23,A24]
            ·replace H:=HS.cnd_f A22 H
             try simp -implicitDefEqProofs (maxSteps:=999999) [-selQ_sel,A1,A2,A3,A4,A5,A6,A7,A8,A9,A10,A11,A12,A13,A14,A15,A16,A17,A18,A19,A20,A21,A22]
             have hr:=(HS.some H).symm;subst hr
             refine Hid.mk ⟨_,Wk.refl _,?_⟩
             try simp -implicitDefEqProofs (maxSteps:=999999) [-selQ_sel,A1,A2,A3,A4,A5,A6,A7,A8,A9,A10,A11,A12,A13,A14,A15,A16,A17,A18,A19,A20,A21,A22]
           ·replace H:=HS.cnd_f A20 H
            try simp -implicitDefEqProofs (maxSteps:=999999) [-selQ_sel,A1,A2,A3,A4,A5,A6,A7,A8,A9,A10,A11,A12,A13,A14,A15,A16,A17,A18,A19,A20]
            obtain ⟨v12,A27,H⟩:=HS.bnd H
            try simp -implicitDefEqProofs (maxSteps:=999999) [-selQ_sel,A1,A2,A3,A4,A5,A6,A7,A8,A9,A10,A11,A12,A13,A14,A15,A16,A17,A18,A19,A20,A27]
            have hr:=(HS.some H).symm;subst hr
            refine Hid.mk ⟨_,Wk.refl _,?_⟩
            try simp -implicitDefEqProofs (maxSteps:=999999) [-selQ_sel,A1,A2,A3,A4,A5,A6,A7,A8,A9,A10,A11,A12,A13,A14,A15,A16,A17,A18,A19,A20,A27]
          ·replace H:=HS.cnd_f A19 H
           try simp -implicitDefEqProofs (maxSteps:=999999) [-selQ_sel,A1,A2,A3,A4,A5,A6,A7,A8,A9,A10,A11,A12,A13,A14,A15,A16,A17,A18,A19]
           have hr:=(HS.some H).symm;subst hr
           refine Hid.mk ⟨_,Wk.refl _,?_⟩
           try simp -implicitDefEqProofs (maxSteps:=999999) [-selQ_sel,A1,A2,A3,A4,A5,A6,A7,A8,A9,A10,A11,A12,A13,A14,A15,A16,A17,A18,A19]
         ·replace H:=HS.cnd_f A17 H
          try simp -implicitDefEqProofs (maxSteps:=999999) [-selQ_sel,A1,A2,A3,A4,A5,A6,A7,A8,A9,A10,A11,A12,A13,A14,A15,A16,A17]
          have hr:=(HS.some H).symm;subst hr
          refine Hid.mk ⟨_,Wk.refl _,?_⟩
          try simp -implicitDefEqProofs (maxSteps:=999999) [-selQ_sel,A1,A2,A3,A4,A5,A6,A7,A8,A9,A10,A11,A12,A13,A14,A15,A16,A17]
        ·replace H:=HS.cnd_f A15 H
         try simp -implicitDefEqProofs (maxSteps:=999999) [-selQ_sel,A1,A2,A3,A4,A5,A6,A7,A8,A9,A10,A11,A12,A13,A14,A15]
         have hr:=(HS.some H).symm;subst hr
         refine Hid.mk ⟨_,Wk.refl _,?_⟩
         try simp -implicitDefEqProofs (maxSteps:=999999) [-selQ_sel,A1,A2,A3,A4,A5,A6,A7,A8,A9,A10,A11,A12,A13,A14,A15]
       ·replace H:=HS.cnd_f A13 H
        try simp -implicitDefEqProofs (maxSteps:=999999) [-selQ_sel,A1,A2,A3,A4,A5,A6,A7,A8,A9,A10,A11,A12,A13]
        have hr:=(HS.some H).symm;subst hr
        refine Hid.mk ⟨_,Wk.refl _,?_⟩
        try simp -implicitDefEqProofs (maxSteps:=999999) [-selQ_sel,A1,A2,A3,A4,A5,A6,A7,A8,A9,A10,A11,A12,A13]
      ·replace H:=HS.cnd_f A11 H
       try simp -implicitDefEqProofs (maxSteps:=999999) [-selQ_sel,A1,A2,A3,A4,A5,A6,A7,A8,A9,A10,A11]
       have hr:=(HS.some H).symm;subst hr
       refine Hid.mk ⟨_,Wk.refl _,?_⟩
       try simp -implicitDefEqProofs (maxSteps:=999999) [-selQ_sel,A1,A2,A3,A4,A5,A6,A7,A8,A9,A10,A11]
     ·replace H:=HS.cnd_f A9 H
      try simp -implicitDefEqProofs (maxSteps:=999999) [-selQ_sel,A1,A2,A3,A4,A5,A6,A7,A8,A9]
      have hr:=(HS.some H).symm;subst hr
      refine Hid.mk ⟨_,Wk.refl _,?_⟩
      try simp -implicitDefEqProofs (maxSteps:=999999) [-selQ_sel,A1,A2,A3,A4,A5,A6,A7,A8,A9]
    ·replace H:=HS.cnd_f A7 H
     try simp -implicitDefEqProofs (maxSteps:=999999) [-selQ_sel,A1,A2,A3,A4,A5,A6,A7]
     have hr:=(HS.some H).symm;subst hr
     refine Hid.mk ⟨_,Wk.refl _,?_⟩
     try simp -implicitDefEqProofs (maxSteps:=999999) [-selQ_sel,A1,A2,A3,A4,A5,A6,A7]
  ·replace H:=HS.cnd_f A4 H
   try simp -implicitDefEqProofs (maxSteps:=999999) [-selQ_sel,A1,A2,A3,A4]
   have hr:=(HS.some H).symm;subst hr
   refine Hid.mk ⟨_,Wk.refl _,?_⟩
   try simp -implicitDefEqProofs (maxSteps:=999999) [-selQ_sel,A1,A2,A3,A4]
 ·replace H:=HS.cnd_f A2 H
  try simp -implicitDefEqProofs (maxSteps:=999999) [-selQ_sel,A1,A2]
  have hr:=(HS.some H).symm;subst hr
  refine Hid.mk ⟨_,Wk.refl _,?_⟩
  try simp -implicitDefEqProofs (maxSteps:=999999) [-selQ_sel,A1,A2]
theorem impl_NodeOk_ok0 (hm:Try.prog.follows .mixedOrders = true) (k_impl_inRange:Sound Try.prog 41 impl_inRange_x) (k_impl_MatOk:Sound Try.prog 89 impl_MatOk_x) (k_impl_PathOk:Sound Try.prog 90 impl_PathOk_x) (k_impl_DashOk:Sound Try.prog 91 impl_DashOk_x) (k_impl_isMode:Sound Try.prog 92 impl_isMode_x) (k_impl_isByte:Sound Try.prog 93 impl_isByte_x) (k_impl_Path_isNone:Sound Try.prog 94 impl_Path_isNone_x) (k_impl_PaintOk:Sound Try.prog 95 impl_PaintOk_x):Sound Try.prog 50 impl_NodeOk_x:=by
 refine xOf_sound fun q r h=>?_
 revert h;revert r;revert q;intro a0 r h
 refine fn_ok E0 hm Try.func50 rfl (by decide +kernel) (by rfl) fun Γ hn hk=>?_
 dsimp only [impl_NodeOk_e,impl_NodeOk_v]
 replace hn:Γ.n = 90:=hn
 replace hk:Γ.k = 0:=hk
 have H:HS (impl_NodeOk a0) r:=h
 clear h;unfold impl_NodeOk at H
 try simp -implicitDefEqProofs at H
 refine Tr.of_vc (cl:=tabC [(41,impl_inRange_x),(89,impl_MatOk_x),(90,impl_PathOk_x),(91,impl_DashOk_x),(92,impl_isMode_x),(93,impl_isByte_x),(94,impl_Path_isNone_x),(95,impl_PaintOk_x)]) (E:=E0) [] (tab_cons k_impl_inRange (tab_cons k_impl_MatOk (tab_cons k_impl_PathOk (tab_cons k_impl_DashOk (tab_cons k_impl_isMode (tab_cons k_impl_isByte (tab_cons k_impl_Path_isNone (tab_cons k_impl_PaintOk tab_nil)))))))) hm (by rw [hn];decide +kernel) ?_
 try simp -implicitDefEqProofs (maxSteps:=999999) [-selQ_sel]
 obtain ⟨v1,A1,H⟩:=HS.bnd H
 try simp -implicitDefEqProofs (maxSteps:=999999) [-selQ_sel,A1]
 refine Hid.selQ (fun A2=>?_) (fun A2=>?_)
 ·replace H:=HS.cnd_t A2 H
  try simp -implicitDefEqProofs (maxSteps:=999999) [-selQ_sel,A1,A2]
  obtain ⟨v2,A3,H⟩:=HS.bnd H
  try simp -implicitDefEqProofs (maxSteps:=999999) [-selQ_sel,A1,A2,A3]
  refine Hid.selQ (fun A4=>?_) (fun A4=>?_)
  ·replace H:=HS.cnd_t A4 H
   try simp -implicitDefEqProofs (maxSteps:=999999) [-selQ_sel,A1,A2,A3,A4]
   refine Hid.selQ (fun A5=>?_) (fun A5=>?_)
   ·replace H:=HS.cnd_t A5 H
    try simp -implicitDefEqProofs (maxSteps:=999999) [-selQ_sel,A1,A2,A3,A4,A5]
    have hr:=(HS.some H).symm;subst hr
    refine Hid.mk ⟨_,Wk.refl _,?_⟩
    try simp -implicitDefEqProofs (maxSteps:=999999) [-selQ_sel,A1,A2,A3,A4,A5]
   ·replace H:=HS.cnd_f A5 H
    try simp -implicitDefEqProofs (maxSteps:=999999) [-selQ_sel,A1,A2,A3,A4,A5]
    obtain ⟨v3,A6,H⟩:=HS.bnd H
    try simp -implicitDefEqProofs (maxSteps:=999999) [-selQ_sel,A1,A2,A3,A4,A5,A6]
    refine Hid.selQ (fun A7=>?_) (fun A7=>?_)
    ·replace H:=HS.cnd_t A7 H
     try simp -implicitDefEqProofs (maxSteps:=999999) [-selQ_sel,A1,A2,A3,A4,A5,A6,A7]
     obtain ⟨v4,A8,H⟩:=HS.bnd H
     try simp -implicitDefEqProofs (maxSteps:=999999) [-selQ_sel,A1,A2,A3,A4,A5,A6,A7,A8]
     refine Hid.selQ (fun A9=>?_) (fun A9=>?_)
     ·replace H:=HS.cnd_t A9 H
      try simp -implicitDefEqProofs (maxSteps:=999999) [-selQ_sel,A1,A2,A3,A4,A5,A6,A7,A8,A9]
      obtain ⟨v5,A10,H⟩:=HS.bnd H
      try simp -implicitDefEqProofs (maxSteps:=999999) [-selQ_sel,A1,A2,A3,A4,A5,A6,A7,A8,A9,A10]
      refine Hid.brV (fun A11=>?_) (fun A11=>?_)
      ·replace H:=HS.cnd_t A11 H
       try simp -implicitDefEqProofs (maxSteps:=999999) [-selQ_sel,A1,A2,A3,A4,A5,A6,A7,A8,A9,A10,A11]
       obtain ⟨v6,A12,H⟩:=HS.bnd H
       try simp -implicitDefEqProofs (maxSteps:=999999) [-selQ_sel,A1,A2,A3,A4,A5,A6,A7,A8,A9,A10,A11,A12]
       refine Hid.selQ (fun A13=>?_) (fun A13=>?_)
       ·replace H:=HS.cnd_t A13 H
        try simp -implicitDefEqProofs (maxSteps:=999999) [-selQ_sel,A1,A2,A3,A4,A5,A6,A7,A8,A9,A10,A11,A12,A13]
        obtain ⟨v7,A14,H⟩:=HS.bnd H
        try simp -implicitDefEqProofs (maxSteps:=999999) [-selQ_sel,A1,A2,A3,A4,A5,A6,A7,A8,A9,A10,A11,A12,A13,A14]
        refine Hid.selQ (fun A15=>?_) (fun A15=>?_)
        ·replace H:=HS.cnd_t A15 H
         try simp -implicitDefEqProofs (maxSteps:=999999) [-selQ_sel,A1,A2,A3,A4,A5,A6,A7,A8,A9,A10,A11,A12,A13,A14,A15]
         obtain ⟨v8,A16,H⟩:=HS.bnd H
         try simp -implicitDefEqProofs (maxSteps:=999999) [-selQ_sel,A1,A2,A3,A4,A5,A6,A7,A8,A9,A10,A11,A12,A13,A14,A15,A16]
         refine Hid.selQ (fun A17=>?_) (fun A17=>?_)
         ·replace H:=HS.cnd_t A17 H
          try simp -implicitDefEqProofs (maxSteps:=999999) [-selQ_sel,A1,A2,A3,A4,A5,A6,A7,A8,A9,A10,A11,A12,A13,A14,A15,A16,A17]
          obtain ⟨v9,A18,H⟩:=HS.bnd H
          try simp -implicitDefEqProofs (maxSteps:=999999) [-selQ_sel,A1,A2,A3,A4,A5,A6,A7,A8,A9,A10,A11,A12,A13,A14,A15,A16,A17,A18]
          refine Hid.brV (fun A19=>?_) (fun A19=>?_)
          ·replace H:=HS.cnd_t A19 H
           try simp -implicitDefEqProofs (maxSteps:=999999) [-selQ_sel,A1,A2,A3,A4,A5,A6,A7,A8,A9,A10,A11,A12,A13,A14,A15,A16,A17,A18,A19]
           refine Hid.brV (fun A20=>?_) (fun A20=>?_)
           ·replace H:=HS.cnd_t A20 H
            try simp -implicitDefEqProofs (maxSteps:=999999) [-selQ_sel,A1,A2,A3,A4,A5,A6,A7,A8,A9,A10,A11,A12,A13,A14,A15,A16,A17,A18,A19,A20]
            refine Hid.selQ (fun A21=>?_) (fun A21=>?_)
            ·replace H:=HS.cnd_t A21 H
             try simp -implicitDefEqProofs (maxSteps:=999999) [-selQ_sel,A1,A2,A3,A4,A5,A6,A7,A8,A9,A10,A11,A12,A13,A14,A15,A16,A17,A18,A19,A20,A21]
             obtain ⟨v10,A22,H⟩:=HS.bnd H
             try simp -implicitDefEqProofs (maxSteps:=999999) [-selQ_sel,A1,A2,A3,A4,A5,A6,A7,A8,A9,A10,A11,A12,A13,A14,A15,A16,A17,A18,A19,A20,A21,A22]
             refine Hid.selQ (fun A23=>?_) (fun A23=>?_)
             ·replace H:=HS.cnd_t A23 H
              try simp -implicitDefEqProofs (maxSteps:=999999) [-selQ_sel,A1,A2,A3,A4,A5,A6,A7,A8,A9,A10,A11,A12,A13,A14,A15,A16,A17,A18,A19,A20,A21,A22,A23]
              refine Hid.selQ (fun A24=>?_) (fun A24=>?_)
              ·replace H:=HS.cnd_t A24 H
               try simp -implicitDefEqProofs (maxSteps:=999999) [-selQ_sel,A1,A2,A3,A4,A5,A6,A7,A8,A9,A10,A11,A12,A13,A14,A15,A16,A17,A18,A19,A20,A21,A22,A23,A24]
               refine Hid.selQ (fun A25=>?_) (fun A25=>?_)
               ·replace H:=HS.cnd_t A25 H
                try simp -implicitDefEqProofs (maxSteps:=999999) [-selQ_sel,A1,A2,A3,A4,A5,A6,A7,A8,A9,A10,A11,A12,A13,A14,A15,A16,A17,A18,A19,A20,A21,A22,A23,A24,A25]
                have hr:=(HS.some H).symm;subst hr
                refine Hid.mk ⟨_,Wk.refl _,?_⟩
                try simp -implicitDefEqProofs (maxSteps:=999999) [-selQ_sel,A1,A2,A3,A4,A5,A6,A7,A8,A9,A10,A11,A12,A13,A14,A15,A16,A17,A18,A19,A20,A21,A22,A23,A24,A25]
               ·replace H:=HS.cnd_f A25 H
                try simp -implicitDefEqProofs (maxSteps:=999999) [-selQ_sel,A1,A2,A3,A4,A5,A6,A7,A8,A9,A10,A11,A12,A13,A14,A15,A16,A17,A18,A19,A20,A21,A22,A23,A24,A25]
                have hr:=(HS.some H).symm;subst hr
                refine Hid.mk ⟨_,Wk.refl _,?_⟩
                try simp -implicitDefEqProofs (maxSteps:=999999) [-selQ_sel,A1,A2,A3,A4,A5,A6,A7,A8,A9,A10,A11,A12,A13,A14,A15,A16,A17,A18,A19,A20,A21,A22,A23,A24,A25]
              ·replace H:=HS.cnd_f A24 H
               try simp -implicitDefEqProofs (maxSteps:=999999) [-selQ_sel,A1,A2,A3,A4,A5,A6,A7,A8,A9,A10,A11,A12,A13,A14,A15,A16,A17,A18,A19,A20,A21,A22,A23,A24]
               have hr:=(HS.some H).symm;subst hr
               refine Hid.mk ⟨_,Wk.refl _,?_⟩
               try simp -implicitDefEqProofs (maxSteps:=999999) [-selQ_sel,A1,A2,A3,A4,A5,A6,A7,A8,A9,A10,A11,A12,A13,A14,A15,A16,A17,A18,A19,A20,A21,A22,A23,A24]
             ·replace H:=HS.cnd_f A23 H
              try simp -implicitDefEqProofs (maxSteps:=999999) [-selQ_sel,A1,A2,A3,A4,A5,A6,A7,A8,A9,A10,A11,A12,A13,A14,A15,A16,A17,A18,A19,A20,A21,A22,A23]
              have hr:=(HS.some H).symm;subst hr
              refine Hid.mk ⟨_,Wk.refl _,?_⟩
              try simp -implicitDefEqProofs (maxSteps:=999999) [-selQ_sel,A1,A2,A3,A4,A5,A6,A7,A8,A9,A10,A11,A12,A13,A14,A15,A16,A17,A18,A19,A20,A21,A22,A23]
            ·replace H:=HS.cnd_f A21 H
             try simp -implicitDefEqProofs (maxSteps:=999999) [-selQ_sel,A1,A2,A3,A4,A5,A6,A7,A8,A9,A10,A11,A12,A13,A14,A15,A16,A17,A18,A19,A20,A21]
             have hr:=(HS.some H).symm;subst hr
             refine Hid.mk ⟨_,Wk.refl _,?_⟩
             try simp -implicitDefEqProofs (maxSteps:=999999) [-selQ_sel,A1,A2,A3,A4,A5,A6,A7,A8,A9,A10,A11,A12,A13,A14,A15,A16,A17,A18,A19,A20,A21]
           ·replace H:=HS.cnd_f A20 H
            try simp -implicitDefEqProofs (maxSteps:=999999) [-selQ_sel,A1,A2,A3,A4,A5,A6,A7,A8,A9,A10,A11,A12,A13,A14,A15,A16,A17,A18,A19,A20]
            obtain ⟨v11,A26,H⟩:=HS.bnd H
            try simp -implicitDefEqProofs (maxSteps:=999999) [-selQ_sel,A1,A2,A3,A4,A5,A6,A7,A8,A9,A10,A11,A12,A13,A14,A15,A16,A17,A18,A19,A20,A26]
            have hr:=(HS.some H).symm;subst hr
            refine Hid.mk ⟨_,Wk.refl _,?_⟩
            try simp -implicitDefEqProofs (maxSteps:=999999) [-selQ_sel,A1,A2,A3,A4,A5,A6,A7,A8,A9,A10,A11,A12,A13,A14,A15,A16,A17,A18,A19,A20,A26]
          ·replace H:=HS.cnd_f A19 H
           try simp -implicitDefEqProofs (maxSteps:=999999) [-selQ_sel,A1,A2,A3,A4,A5,A6,A7,A8,A9,A10,A11,A12,A13,A14,A15,A16,A17,A18,A19]
           have hr:=(HS.some H).symm;subst hr
           refine Hid.mk ⟨_,Wk.refl _,?_⟩
           try simp -implicitDefEqProofs (maxSteps:=999999) [-selQ_sel,A1,A2,A3,A4,A5,A6,A7,A8,A9,A10,A11,A12,A13,A14,A15,A16,A17,A18,A19]
         ·replace H:=HS.cnd_f A17 H
          try simp -implicitDefEqProofs (maxSteps:=999999) [-selQ_sel,A1,A2,A3,A4,A5,A6,A7,A8,A9,A10,A11,A12,A13,A14,A15,A16,A17]
          have hr:=(HS.some H).symm;subst hr
          refine Hid.mk ⟨_,Wk.refl _,?_⟩
          try simp -implicitDefEqProofs (maxSteps:=999999) [-selQ_sel,A1,A2,A3,A4,A5,A6,A7,A8,A9,A10,A11,A12,A13,A14,A15,A16,A17]
        ·replace H:=HS.cnd_f A15 H
         try simp -implicitDefEqProofs (maxSteps:=999999) [-selQ_sel,A1,A2,A3,A4,A5,A6,A7,A8,A9,A10,A11,A12,A13,A14,A15]
         have hr:=(HS.some H).symm;subst hr
         refine Hid.mk ⟨_,Wk.refl _,?_⟩
         try simp -implicitDefEqProofs (maxSteps:=999999) [-selQ_sel,A1,A2,A3,A4,A5,A6,A7,A8,A9,A10,A11,A12,A13,A14,A15]
       ·replace H:=HS.cnd_f A13 H
        try simp -implicitDefEqProofs (maxSteps:=999999) [-selQ_sel,A1,A2,A3,A4,A5,A6,A7,A8,A9,A10,A11,A12,A13]
        have hr:=(HS.some H).symm;subst hr
        refine Hid.mk ⟨_,Wk.refl _,?_⟩
        try simp -implicitDefEqProofs (maxSteps:=999999) [-selQ_sel,A1,A2,A3,A4,A5,A6,A7,A8,A9,A10,A11,A12,A13]
      ·replace H:=HS.cnd_f A11 H
       try simp -implicitDefEqProofs (maxSteps:=999999) [-selQ_sel,A1,A2,A3,A4,A5,A6,A7,A8,A9,A10,A11]
       have hr:=(HS.some H).symm;subst hr
       refine Hid.mk ⟨_,Wk.refl _,?_⟩
       try simp -implicitDefEqProofs (maxSteps:=999999) [-selQ_sel,A1,A2,A3,A4,A5,A6,A7,A8,A9,A10,A11]
     ·replace H:=HS.cnd_f A9 H
      try simp -implicitDefEqProofs (maxSteps:=999999) [-selQ_sel,A1,A2,A3,A4,A5,A6,A7,A8,A9]
      have hr:=(HS.some H).symm;subst hr
      refine Hid.mk ⟨_,Wk.refl _,?_⟩
      try simp -implicitDefEqProofs (maxSteps:=999999) [-selQ_sel,A1,A2,A3,A4,A5,A6,A7,A8,A9]
    ·replace H:=HS.cnd_f A7 H
     try simp -implicitDefEqProofs (maxSteps:=999999) [-selQ_sel,A1,A2,A3,A4,A5,A6,A7]
     have hr:=(HS.some H).symm;subst hr
     refine Hid.mk ⟨_,Wk.refl _,?_⟩
     try simp -implicitDefEqProofs (maxSteps:=999999) [-selQ_sel,A1,A2,A3,A4,A5,A6,A7]
  ·replace H:=HS.cnd_f A4 H
   try simp -implicitDefEqProofs (maxSteps:=999999) [-selQ_sel,A1,A2,A3,A4]
   have hr:=(HS.some H).symm;subst hr
   refine Hid.mk ⟨_,Wk.refl _,?_⟩
   try simp -implicitDefEqProofs (maxSteps:=999999) [-selQ_sel,A1,A2,A3,A4]
 ·replace H:=HS.cnd_f A2 H
  try simp -implicitDefEqProofs (maxSteps:=999999) [-selQ_sel,A1,A2]
  have hr:=(HS.some H).symm;subst hr
  refine Hid.mk ⟨_,Wk.refl _,?_⟩
  try simp -implicitDefEqProofs (maxSteps:=999999) [-selQ_sel,A1,A2]
theorem spec_PathOk_ok0 (hm:Try.prog.follows .mixedOrders = true) (k_spec_NeedOf:Sound Try.prog 124 spec_NeedOf_x) (k_spec_PointOk:Sound Try.prog 125 spec_PointOk_x):Sound Try.prog 99 spec_PathOk_x:=by
 refine xOf_sound fun q r h=>?_
 revert h;revert r;revert q;intro a0 r h
 refine fn_ok E0 hm Try.func99 rfl (by decide +kernel) (by rfl) fun Γ hn hk=>?_
 dsimp only [spec_PathOk_e,spec_PathOk_v]
 replace hn:Γ.n = 75:=hn
 replace hk:Γ.k = 0:=hk
 have H:HS (spec_PathOk a0) r:=h
 clear h;unfold spec_PathOk at H
 try simp -implicitDefEqProofs at H
 refine Tr.of_vc (cl:=tabC [(124,spec_NeedOf_x),(125,spec_PointOk_x)]) (E:=E0) [] (tab_cons k_spec_NeedOf (tab_cons k_spec_PointOk tab_nil)) hm (by rw [hn];decide +kernel) ?_
 try simp -implicitDefEqProofs (maxSteps:=999999) [-selQ_sel]
 refine Hid.selQ (fun A1=>?_) (fun A1=>?_)
 ·replace H:=HS.cnd_t A1 H
  try simp -implicitDefEqProofs (maxSteps:=999999) [-selQ_sel,A1]
  refine Hid.brV (fun A2=>?_) (fun A2=>?_)
  ·replace H:=HS.cnd_t A2 H
   try simp -implicitDefEqProofs (maxSteps:=999999) [-selQ_sel,A1,A2]
   obtain ⟨q,A3,H⟩:=HS.bnd H
   refine Hid.mk (Tr.weak (s':=(spec_PathOk_l0_S a0) (0,0)) (Wk.ofk [0] hk (by rfl) (by simp -implicitDefEqProofs [spec_PathOk_l0_S,A1,A2]) (by simp -implicitDefEqProofs [spec_PathOk_l0_S,A1,A2])) ?_)
   refine wp_loop_of (S:=(spec_PathOk_l0_S a0)) (f:=(spec_PathOk_l0 a0)) (xt:=(spec_PathOk_l0_X a0)) ?_ ?_ A3 ?_
   ·intro q;rcases q with y8 | ⟨⟩ <;> simp [spec_PathOk_l0_X]
   ·clear H A3 q
    rintro ⟨x3,x4⟩ o R hf hR
    have H:HS (spec_PathOk_l0 a0 (x3,x4)) o:=hf
    clear hf;unfold spec_PathOk_l0 at H
    try simp -implicitDefEqProofs at H
    refine Tr.of_vc (cl:=tabC [(124,spec_NeedOf_x),(125,spec_PointOk_x)]) (E:=E0) [] (tab_cons k_spec_NeedOf (tab_cons k_spec_PointOk tab_nil)) hm (by rw [hn];decide +kernel) ?_
    try simp -implicitDefEqProofs (maxSteps:=999999) [-selQ_sel,spec_PathOk_l0_S]
    refine Hid.brV (fun A4=>?_) (fun A4=>?_)
    ·replace H:=HS.cnd_t A4 H
     try simp -implicitDefEqProofs (maxSteps:=999999) [-selQ_sel,A4]
     have hr:=(HS.some H).symm;subst hr
     exact Hid.mk ⟨(spec_PathOk_l0_X a0 (.inl x3)).2,Wk.ofk [0] hk (by rfl) (by simp -implicitDefEqProofs [spec_PathOk_l0_X,A4]) (by simp -implicitDefEqProofs [spec_PathOk_l0_X,A4]),hR⟩
    ·replace H:=HS.cnd_f A4 H
     try simp -implicitDefEqProofs (maxSteps:=999999) [-selQ_sel,A4]
     obtain ⟨v5,A5,H⟩:=HS.bnd H
     try simp -implicitDefEqProofs (maxSteps:=999999) [-selQ_sel,A4,A5]
     obtain ⟨v6,A6,H⟩:=HS.bnd H
     try simp -implicitDefEqProofs (maxSteps:=999999) [-selQ_sel,A4,A5,A6]
     refine Hid.selQ (fun A7=>?_) (fun A7=>?_)
     ·replace H:=HS.cnd_t A7 H
      try simp -implicitDefEqProofs (maxSteps:=999999) [-selQ_sel,A4,A5,A6,A7]
      refine Hid.selQ (fun A8=>?_) (fun A8=>?_)
      ·replace H:=HS.cnd_t A8 H
       try simp -implicitDefEqProofs (maxSteps:=999999) [-selQ_sel,A4,A5,A6,A7,A8]
       refine Hid.brV (fun A9=>?_) (fun A9=>?_)
       ·replace H:=HS.cnd_t A9 H
        try simp -implicitDefEqProofs (maxSteps:=999999) [-selQ_sel,A4,A5,A6,A7,A8,A9]
        have hr:=(HS.some H).symm;subst hr
        exact Hid.mk ⟨spec_PathOk_l0_S a0 ((IntKind.i64.wrap (x3 + v6)),(IntKind.i64.wrap (x4 + 1))),Wk.ofk [0] hk (by rfl) (by simp -implicitDefEqProofs [spec_PathOk_l0_S,A4,A5,A6,A7,A8,A9]) (by simp -implicitDefEqProofs [spec_PathOk_l0_S,A4,A5,A6,A7,A8,A9]),hR⟩
       ·replace H:=HS.cnd_f A9 H
        try simp -implicitDefEqProofs (maxSteps:=999999) [-selQ_sel,A4,A5,A6,A7,A8,A9]
        have hr:=(HS.some H).symm;subst hr
        exact Hid.mk ⟨(spec_PathOk_l0_X a0 (.inr ())).2,Wk.ofk [] hk (by rfl) (by simp -implicitDefEqProofs [spec_PathOk_l0_X,A4,A5,A6,A7,A8,A9]) (by simp -implicitDefEqProofs [spec_PathOk_l0_X,A4,A5,A6,A7,A8,A9]),hR⟩
      ·replace H:=HS.cnd_f A8 H
       try simp -implicitDefEqProofs (maxSteps:=999999) [-selQ_sel,A4,A5,A6,A7,A8]
       obtain ⟨v7,A10,H⟩:=HS.bnd H
       try simp -implicitDefEqProofs (maxSteps:=999999) [-selQ_sel,A4,A5,A6,A7,A8,A10]
       refine Hid.selQ (fun A11=>?_) (fun A11=>?_)
       ·replace H:=HS.cnd_t A11 H
        try simp -implicitDefEqProofs (maxSteps:=999999) [-selQ_sel,A4,A5,A6,A7,A8,A10,A11]
        refine Hid.brV (fun A12=>?_) (fun A12=>?_)
        ·replace H:=HS.cnd_t A12 H
         try simp -implicitDefEqProofs (maxSteps:=999999) [-selQ_sel,A4,A5,A6,A7,A8,A10,A11,A12]
         have hr:=(HS.some H).symm;subst hr
         exact Hid.mk ⟨spec_PathOk_l0_S a0 ((IntKind.i64.wrap (x3 + v6)),(IntKind.i64.wrap (x4 + 1))),Wk.ofk [0] hk (by rfl) (by simp -implicitDefEqProofs [spec_PathOk_l0_S,A4,A5,A6,A7,A8,A10,A11,A12]) (by simp -implicitDefEqProofs [spec_PathOk_l0_S,A4,A5,A6,A7,A8,A10,A11,A12]),hR⟩
        ·replace H:=HS.cnd_f A12 H
         try simp -implicitDefEqProofs (maxSteps:=999999) [-selQ_sel,A4,A5,A6,A7,A8,A10,A11,A12]
         have hr:=(HS.some H).symm;subst hr
         exact Hid.mk ⟨(spec_PathOk_l0_X a0 (.inr ())).2,Wk.ofk [] hk (by rfl) (by simp -implicitDefEqProofs [spec_PathOk_l0_X,A4,A5,A6,A7,A8,A10,A11,A12]) (by simp -implicitDefEqProofs [spec_PathOk_l0_X,A4,A5,A6,A7,A8,A10,A11,A12]),hR⟩
       ·replace H:=HS.cnd_f A11 H
        try simp -implicitDefEqProofs (maxSteps:=999999) [-selQ_sel,A4,A5,A6,A7,A8,A10,A11]
        have hr:=(HS.some H).symm;subst hr
        exact Hid.mk ⟨spec_PathOk_l0_S a0 ((IntKind.i64.wrap (x3 + v6)),(IntKind.i64.wrap (x4 + 1))),Wk.ofk [0] hk (by rfl) (by simp -implicitDefEqProofs [spec_PathOk_l0_S,A4,A5,A6,A7,A8,A10,A11]) (by simp -implicitDefEqProofs [spec_PathOk_l0_S,A4,A5,A6,A7,A8,A10,A11]),hR⟩
     ·replace H:=HS.cnd_f A7 H
      try simp -implicitDefEqProofs (maxSteps:=999999) [-selQ_sel,A4,A5,A6,A7]
      have hr:=(HS.some H).symm;subst hr
      exact Hid.mk ⟨(spec_PathOk_l0_X a0 (.inr ())).2,Wk.ofk [] hk (by rfl) (by simp -implicitDefEqProofs [spec_PathOk_l0_X,A4,A5,A6,A7]) (by simp -implicitDefEqProofs [spec_PathOk_l0_X,A4,A5,A6,A7]),hR⟩
   ·rcases q with y8 | ⟨⟩
    ·dsimp only at H
     try simp -implicitDefEqProofs (maxSteps:=999999) [-selQ_sel,A1,A2,spec_PathOk_l0_X]
     obtain ⟨q,A13,H⟩:=HS.bnd H
     refine Hid.mk (Tr.weak (s':=(spec_PathOk_l1_S a0 y8) 0) (Wk.ofk [0] hk (by rfl) (by simp -implicitDefEqProofs [spec_PathOk_l1_S,A1,A2]) (by simp -implicitDefEqProofs [spec_PathOk_l1_S,A1,A2])) ?_)
     refine wp_loop_of (S:=(spec_PathOk_l1_S a0 y8)) (f:=(spec_PathOk_l1 a0 y8)) (xt:=(spec_PathOk_l1_X a0 y8)) ?_ ?_ A13 ?_
     ·intro q;rcases q with ⟨⟩ | ⟨⟩ <;> simp [spec_PathOk_l1_X]
     ·clear H A13 q
      rintro x11 o R hf hR
      have H:HS (spec_PathOk_l1 a0 y8 x11) o:=hf
      clear hf;unfold spec_PathOk_l1 at H
      try simp -implicitDefEqProofs at H
      refine Tr.of_vc (cl:=tabC [(124,spec_NeedOf_x),(125,spec_PointOk_x)]) (E:=E0) [] (tab_cons k_spec_NeedOf (tab_cons k_spec_PointOk tab_nil)) hm (by rw [hn];decide +kernel) ?_
      try simp -implicitDefEqProofs (maxSteps:=999999) [-selQ_sel,spec_PathOk_l1_S]
      refine Hid.brV (fun A14=>?_) (fun A14=>?_)
      ·replace H:=HS.cnd_t A14 H
       try simp -implicitDefEqProofs (maxSteps:=999999) [-selQ_sel,A14]
       have hr:=(HS.some H).symm;subst hr
       exact Hid.mk ⟨(spec_PathOk_l1_X a0 y8 (.inl ())).2,Wk.ofk [0] hk (by rfl) (by simp -implicitDefEqProofs [spec_PathOk_l1_X,A14]) (by simp -implicitDefEqProofs [spec_PathOk_l1_X,A14]),hR⟩
      ·replace H:=HS.cnd_f A14 H
       try simp -implicitDefEqProofs (maxSteps:=999999) [-selQ_sel,A14]
       obtain ⟨v12,A15,H⟩:=HS.bnd H
       try simp -implicitDefEqProofs (maxSteps:=999999) [-selQ_sel,A14,A15]
       obtain ⟨v13,A16,H⟩:=HS.bnd H
       try simp -implicitDefEqProofs (maxSteps:=999999) [-selQ_sel,A14,A15,A16]
       refine Hid.brV (fun A17=>?_) (fun A17=>?_)
       ·replace H:=HS.cnd_t A17 H
        try simp -implicitDefEqProofs (maxSteps:=999999) [-selQ_sel,A14,A15,A16,A17]
        have hr:=(HS.some H).symm;subst hr
        exact Hid.mk ⟨spec_PathOk_l1_S a0 y8 (IntKind.i64.wrap (x11 + 1)),Wk.ofk [0] hk (by rfl) (by simp -implicitDefEqProofs [spec_PathOk_l1_S,A14,A15,A16,A17]) (by simp -implicitDefEqProofs [spec_PathOk_l1_S,A14,A15,A16,A17]),hR⟩
       ·replace H:=HS.cnd_f A17 H
        try simp -implicitDefEqProofs (maxSteps:=999999) [-selQ_sel,A14,A15,A16,A17]
        have hr:=(HS.some H).symm;subst hr
        exact Hid.mk ⟨(spec_PathOk_l1_X a0 y8 (.inr ())).2,Wk.ofk [] hk (by rfl) (by simp -implicitDefEqProofs [spec_PathOk_l1_X,A14,A15,A16,A17]) (by simp -implicitDefEqProofs [spec_PathOk_l1_X,A14,A15,A16,A17]),hR⟩
     ·rcases q with ⟨⟩ | ⟨⟩
      ·dsimp only at H
       try simp -implicitDefEqProofs (maxSteps:=999999) [-selQ_sel,A1,A2,spec_PathOk_l1_X]
       have hr:=(HS.some H).symm;subst hr
       refine Hid.mk ⟨_,Wk.refl _,?_⟩
       try simp -implicitDefEqProofs (maxSteps:=999999) [-selQ_sel,A1,A2]
      ·dsimp only at H
       try simp -implicitDefEqProofs (maxSteps:=999999) [-selQ_sel,A1,A2,spec_PathOk_l1_X]
       have hr:=(HS.some H).symm;subst hr
       refine Hid.mk ⟨_,Wk.refl _,?_⟩
       try simp -implicitDefEqProofs (maxSteps:=999999) [-selQ_sel,A1,A2]
    ·dsimp only at H
     try simp -implicitDefEqProofs (maxSteps:=999999) [-selQ_sel,A1,A2,spec_PathOk_l0_X]
     have hr:=(HS.some H).symm;subst hr
     refine Hid.mk ⟨_,Wk.refl _,?_⟩
     try simp -implicitDefEqProofs (maxSteps:=999999) [-selQ_sel,A1,A2]
  ·replace H:=HS.cnd_f A2 H
   try simp -implicitDefEqProofs (maxSteps:=999999) [-selQ_sel,A1,A2]
   have hr:=(HS.some H).symm;subst hr
   refine Hid.mk ⟨_,Wk.refl _,?_⟩
   try simp -implicitDefEqProofs (maxSteps:=999999) [-selQ_sel,A1,A2]
 ·replace H:=HS.cnd_f A1 H
  try simp -implicitDefEqProofs (maxSteps:=999999) [-selQ_sel,A1]
  have hr:=(HS.some H).symm;subst hr
  refine Hid.mk ⟨_,Wk.refl _,?_⟩
  try simp -implicitDefEqProofs (maxSteps:=999999) [-selQ_sel,A1]
theorem impl_PathOk_ok0 (hm:Try.prog.follows .mixedOrders = true) (k_impl_pointsOk:Sound Try.prog 120 impl_pointsOk_x) (k_impl_NeedOf:Sound Try.prog 121 impl_NeedOf_x):Sound Try.prog 90 impl_PathOk_x:=by
 refine xOf_sound fun q r h=>?_
 revert h;revert r;revert q;intro a0 r h
 refine fn_ok E0 hm Try.func90 rfl (by decide +kernel) (by rfl) fun Γ hn hk=>?_
 dsimp only [impl_PathOk_e,impl_PathOk_v]
 replace hn:Γ.n = 63:=hn
 replace hk:Γ.k = 0:=hk
 have H:HS (impl_PathOk a0) r:=h
 clear h;unfold impl_PathOk at H
 try simp -implicitDefEqProofs at H
 refine Tr.of_vc (cl:=tabC [(120,impl_pointsOk_x),(121,impl_NeedOf_x)]) (E:=E0) [] (tab_cons k_impl_pointsOk (tab_cons k_impl_NeedOf tab_nil)) hm (by rw [hn];decide +kernel) ?_
 try simp -implicitDefEqProofs (maxSteps:=999999) [-selQ_sel]
 refine Hid.selQ (fun A1=>?_) (fun A1=>?_)
 ·replace H:=HS.cnd_t A1 H
  try simp -implicitDefEqProofs (maxSteps:=999999) [-selQ_sel,A1]
  refine Hid.selQ (fun A2=>?_) (fun A2=>?_)
  ·replace H:=HS.cnd_t A2 H
   try simp -implicitDefEqProofs (maxSteps:=999999) [-selQ_sel,A1,A2]
   obtain ⟨v1,A3,H⟩:=HS.bnd H
   try simp -implicitDefEqProofs (maxSteps:=999999) [-selQ_sel,A1,A2,A3]
   refine Hid.brV (fun A4=>?_) (fun A4=>?_)
   ·replace H:=HS.cnd_t A4 H
    try simp -implicitDefEqProofs (maxSteps:=999999) [-selQ_sel,A1,A2,A3,A4]
    obtain ⟨q,A5,H⟩:=HS.bnd H
    refine Hid.mk (Tr.weak (s':=(impl_PathOk_l0_S a0) (0,0)) (Wk.ofk [0] hk (by rfl) (by simp -implicitDefEqProofs [impl_PathOk_l0_S,A1,A2,A3,A4]) (by simp -implicitDefEqProofs [impl_PathOk_l0_S,A1,A2,A3,A4])) ?_)
    refine wp_loop_of (S:=(impl_PathOk_l0_S a0)) (f:=(impl_PathOk_l0 a0)) (xt:=(impl_PathOk_l0_X a0)) ?_ ?_ A5 ?_
    ·intro q;rcases q with y9 | ⟨⟩ <;> simp [impl_PathOk_l0_X]
    ·clear H A5 q
     rintro ⟨x4,x5⟩ o R hf hR
     have H:HS (impl_PathOk_l0 a0 (x4,x5)) o:=hf
     clear hf;unfold impl_PathOk_l0 at H
     try simp -implicitDefEqProofs at H
     refine Tr.of_vc (cl:=tabC [(120,impl_pointsOk_x),(121,impl_NeedOf_x)]) (E:=E0) [] (tab_cons k_impl_pointsOk (tab_cons k_impl_NeedOf tab_nil)) hm (by rw [hn];decide +kernel) ?_
     try simp -implicitDefEqProofs (maxSteps:=999999) [-selQ_sel,impl_PathOk_l0_S]
     refine Hid.brV (fun A6=>?_) (fun A6=>?_)
     ·replace H:=HS.cnd_t A6 H
      try simp -implicitDefEqProofs (maxSteps:=999999) [-selQ_sel,A6]
      have hr:=(HS.some H).symm;subst hr
      exact Hid.mk ⟨(impl_PathOk_l0_X a0 (.inl x4)).2,Wk.ofk [0] hk (by rfl) (by simp -implicitDefEqProofs [impl_PathOk_l0_X,A6]) (by simp -implicitDefEqProofs [impl_PathOk_l0_X,A6]),hR⟩
     ·replace H:=HS.cnd_f A6 H
      try simp -implicitDefEqProofs (maxSteps:=999999) [-selQ_sel,A6]
      obtain ⟨v6,A7,H⟩:=HS.bnd H
      try simp -implicitDefEqProofs (maxSteps:=999999) [-selQ_sel,A6,A7]
      obtain ⟨v7,A8,H⟩:=HS.bnd H
      try simp -implicitDefEqProofs (maxSteps:=999999) [-selQ_sel,A6,A7,A8]
      refine Hid.selQ (fun A9=>?_) (fun A9=>?_)
      ·replace H:=HS.cnd_t A9 H
       try simp -implicitDefEqProofs (maxSteps:=999999) [-selQ_sel,A6,A7,A8,A9]
       refine Hid.selQ (fun A10=>?_) (fun A10=>?_)
       ·replace H:=HS.cnd_t A10 H
        try simp -implicitDefEqProofs (maxSteps:=999999) [-selQ_sel,A6,A7,A8,A9,A10]
        refine Hid.brV (fun A11=>?_) (fun A11=>?_)
        ·replace H:=HS.cnd_t A11 H
         try simp -implicitDefEqProofs (maxSteps:=999999) [-selQ_sel,A6,A7,A8,A9,A10,A11]
         have hr:=(HS.some H).symm;subst hr
         exact Hid.mk ⟨impl_PathOk_l0_S a0 ((IntKind.i64.wrap (x4 + v7)),(IntKind.i64.wrap (x5 + 1))),Wk.ofk [0] hk (by rfl) (by simp -implicitDefEqProofs [impl_PathOk_l0_S,A6,A7,A8,A9,A10,A11]) (by simp -implicitDefEqProofs [impl_PathOk_l0_S,A6,A7,A8,A9,A10,A11]),hR⟩
        ·replace H:=HS.cnd_f A11 H
         try simp -implicitDefEqProofs (maxSteps:=999999) [-selQ_sel,A6,A7,A8,A9,A10,A11]
         have hr:=(HS.some H).symm;subst hr
         exact Hid.mk ⟨(impl_PathOk_l0_X a0 (.inr ())).2,Wk.ofk [] hk (by rfl) (by simp -implicitDefEqProofs [impl_PathOk_l0_X,A6,A7,A8,A9,A10,A11]) (by simp -implicitDefEqProofs [impl_PathOk_l0_X,A6,A7,A8,A9,A10,A11]),hR⟩
       ·replace H:=HS.cnd_f A10 H
        try simp -implicitDefEqProofs (maxSteps:=999999) [-selQ_sel,A6,A7,A8,A9,A10]
        have hr:=(HS.some H).symm;subst hr
        exact Hid.mk ⟨(impl_PathOk_l0_X a0 (.inr ())).2,Wk.ofk [] hk (by rfl) (by simp -implicitDefEqProofs [impl_PathOk_l0_X,A6,A7,A8,A9,A10]) (by simp -implicitDefEqProofs [impl_PathOk_l0_X,A6,A7,A8,A9,A10]),hR⟩
      ·replace H:=HS.cnd_f A9 H
       try simp -implicitDefEqProofs (maxSteps:=999999) [-selQ_sel,A6,A7,A8,A9]
       obtain ⟨v8,A12,H⟩:=HS.bnd H
       try simp -implicitDefEqProofs (maxSteps:=999999) [-selQ_sel,A6,A7,A8,A9,A12]
       refine Hid.selQ (fun A13=>?_) (fun A13=>?_)
       ·replace H:=HS.cnd_t A13 H
        try simp -implicitDefEqProofs (maxSteps:=999999) [-selQ_sel,A6,A7,A8,A9,A12,A13]
        refine Hid.selQ (fun A14=>?_) (fun A14=>?_)
        ·replace H:=HS.cnd_t A14 H
         try simp -implicitDefEqProofs (maxSteps:=999999) [-selQ_sel,A6,A7,A8,A9,A12,A13,A14]
         refine Hid.brV (fun A15=>?_) (fun A15=>?_)
         ·replace H:=HS.cnd_t A15 H
          try simp -implicitDefEqProofs (maxSteps:=999999) [-selQ_sel,A6,A7,A8,A9,A12,A13,A14,A15]
          have hr:=(HS.some H).symm;subst hr
          exact Hid.mk ⟨impl_PathOk_l0_S a0 ((IntKind.i64.wrap (x4 + v7)),(IntKind.i64.wrap (x5 + 1))),Wk.ofk [0] hk (by rfl) (by simp -implicitDefEqProofs [impl_PathOk_l0_S,A6,A7,A8,A9,A12,A13,A14,A15]) (by simp -implicitDefEqProofs [impl_PathOk_l0_S,A6,A7,A8,A9,A12,A13,A14,A15]),hR⟩
         ·replace H:=HS.cnd_f A15 H
          try simp -implicitDefEqProofs (maxSteps:=999999) [-selQ_sel,A6,A7,A8,A9,A12,A13,A14,A15]
          have hr:=(HS.some H).symm;subst hr
          exact Hid.mk ⟨(impl_PathOk_l0_X a0 (.inr ())).2,Wk.ofk [] hk (by rfl) (by simp -implicitDefEqProofs [impl_PathOk_l0_X,A6,A7,A8,A9,A12,A13,A14,A15]) (by simp -implicitDefEqProofs [impl_PathOk_l0_X,A6,A7,A8,A9,A12,A13,A14,A15]),hR⟩
        ·replace H:=HS.cnd_f A14 H
         try simp -implicitDefEqProofs (maxSteps:=999999) [-selQ_sel,A6,A7,A8,A9,A12,A13,A14]
         have hr:=(HS.some H).symm;subst hr
         exact Hid.mk ⟨impl_PathOk_l0_S a0 ((IntKind.i64.wrap (x4 + v7)),(IntKind.i64.wrap (x5 + 1))),Wk.ofk [0] hk (by rfl) (by simp -implicitDefEqProofs [impl_PathOk_l0_S,A6,A7,A8,A9,A12,A13,A14]) (by simp -implicitDefEqProofs [impl_PathOk_l0_S,A6,A7,A8,A9,A12,A13,A14]),hR⟩
       ·replace H:=HS.cnd_f A13 H
        try simp -implicitDefEqProofs (maxSteps:=999999) [-selQ_sel,A6,A7,A8,A9,A12,A13]
        have hr:=(HS.some H).symm;subst hr
        exact Hid.mk ⟨(impl_PathOk_l0_X a0 (.inr ())).2,Wk.ofk [] hk (by rfl) (by simp -implicitDefEqProofs [impl_PathOk_l0_X,A6,A7,A8,A9,A12,A13]) (by simp -implicitDefEqProofs [impl_PathOk_l0_X,A6,A7,A8,A9,A12,A13]),hR⟩
    ·rcases q with y9 | ⟨⟩
     ·dsimp only at H
      try simp -implicitDefEqProofs (maxSteps:=999999) [-selQ_sel,A1,A2,A3,A4,impl_PathOk_l0_X]
      have hr:=(HS.some H).symm;subst hr
      refine Hid.mk ⟨_,Wk.refl _,?_⟩
      try simp -implicitDefEqProofs (maxSteps:=999999) [-selQ_sel,A1,A2,A3,A4]
     ·dsimp only at H
      try simp -implicitDefEqProofs (maxSteps:=999999) [-selQ_sel,A1,A2,A3,A4,impl_PathOk_l0_X]
      have hr:=(HS.some H).symm;subst hr
      refine Hid.mk ⟨_,Wk.refl _,?_⟩
      try simp -implicitDefEqProofs (maxSteps:=999999) [-selQ_sel,A1,A2,A3,A4]
   ·replace H:=HS.cnd_f A4 H
    try simp -implicitDefEqProofs (maxSteps:=999999) [-selQ_sel,A1,A2,A3,A4]
    have hr:=(HS.some H).symm;subst hr
    refine Hid.mk ⟨_,Wk.refl _,?_⟩
    try simp -implicitDefEqProofs (maxSteps:=999999) [-selQ_sel,A1,A2,A3,A4]
  ·replace H:=HS.cnd_f A2 H
   try simp -implicitDefEqProofs (maxSteps:=999999) [-selQ_sel,A1,A2]
   have hr:=(HS.some H).symm;subst hr
   refine Hid.mk ⟨_,Wk.refl _,?_⟩
   try simp -implicitDefEqProofs (maxSteps:=999999) [-selQ_sel,A1,A2]
 ·replace H:=HS.cnd_f A1 H
  try simp -implicitDefEqProofs (maxSteps:=999999) [-selQ_sel,A1]
  have hr:=(HS.some H).symm;subst hr
  refine Hid.mk ⟨_,Wk.refl _,?_⟩
  try simp -implicitDefEqProofs (maxSteps:=999999) [-selQ_sel,A1]
theorem impl_SceneOk_ok0 (hm:Try.prog.follows .mixedOrders = true) (k_impl_NodeOk:Sound Try.prog 50 impl_NodeOk_x) (k_impl_NodeAt:Sound Try.prog 13 impl_NodeAt_x) (k_impl_Scene_isParent:Sound Try.prog 51 impl_Scene_isParent_x) (k_impl_DepthOf:Sound Try.prog 42 impl_DepthOf_x) (k_impl_inRange:Sound Try.prog 41 impl_inRange_x):Sound Try.prog 14 impl_SceneOk_x:=by
 refine xOf_sound fun q r h=>?_
 revert h;revert r;revert q;intro a0 r h
 refine fn_ok E0 hm Try.func14 rfl (by decide +kernel) (by rfl) fun Γ hn hk=>?_
 dsimp only [impl_SceneOk_e,impl_SceneOk_v]
 replace hn:Γ.n = 43:=hn
 replace hk:Γ.k = 0:=hk
 have H:HS (impl_SceneOk a0) r:=h
 clear h;unfold impl_SceneOk at H
 try simp -implicitDefEqProofs at H
 refine Tr.of_vc (cl:=tabC [(50,impl_NodeOk_x),(13,impl_NodeAt_x),(51,impl_Scene_isParent_x),(42,impl_DepthOf_x),(41,impl_inRange_x)]) (E:=E0) [] (tab_cons k_impl_NodeOk (tab_cons k_impl_NodeAt (tab_cons k_impl_Scene_isParent (tab_cons k_impl_DepthOf (tab_cons k_impl_inRange tab_nil))))) hm (by rw [hn];decide +kernel) ?_
 try simp -implicitDefEqProofs (maxSteps:=999999) [-selQ_sel]
 refine Hid.brV (fun A1=>?_) (fun A1=>?_)
 ·replace H:=HS.cnd_t A1 H
  try simp -implicitDefEqProofs (maxSteps:=999999) [-selQ_sel,A1]
  obtain ⟨q,A2,H⟩:=HS.bnd H
  refine Hid.mk (Tr.weak (s':=(impl_SceneOk_l0_S a0) 0) (Wk.ofk [0] hk (by rfl) (by simp -implicitDefEqProofs [impl_SceneOk_l0_S,A1]) (by simp -implicitDefEqProofs [impl_SceneOk_l0_S,A1])) ?_)
  refine wp_loop_of (S:=(impl_SceneOk_l0_S a0)) (f:=(impl_SceneOk_l0 a0)) (xt:=(impl_SceneOk_l0_X a0)) ?_ ?_ A2 ?_
  ·intro q;rcases q with ⟨⟩ | ⟨⟩ <;> simp [impl_SceneOk_l0_X]
  ·clear H A2 q
   rintro x7 o R hf hR
   have H:HS (impl_SceneOk_l0 a0 x7) o:=hf
   clear hf;unfold impl_SceneOk_l0 at H
   try simp -implicitDefEqProofs at H
   refine Tr.of_vc (cl:=tabC [(50,impl_NodeOk_x),(13,impl_NodeAt_x),(51,impl_Scene_isParent_x),(42,impl_DepthOf_x),(41,impl_inRange_x)]) (E:=E0) [] (tab_cons k_impl_NodeOk (tab_cons k_impl_NodeAt (tab_cons k_impl_Scene_isParent (tab_cons k_impl_DepthOf (tab_cons k_impl_inRange tab_nil))))) hm (by rw [hn];decide +kernel) ?_
   try simp -implicitDefEqProofs (maxSteps:=999999) [-selQ_sel,impl_SceneOk_l0_S]
   refine Hid.brV (fun A3=>?_) (fun A3=>?_)
   ·replace H:=HS.cnd_t A3 H
    try simp -implicitDefEqProofs (maxSteps:=999999) [-selQ_sel,A3]
    have hr:=(HS.some H).symm;subst hr
    exact Hid.mk ⟨(impl_SceneOk_l0_X a0 (.inl ())).2,Wk.ofk [] hk (by rfl) (by simp -implicitDefEqProofs [impl_SceneOk_l0_X,A3]) (by simp -implicitDefEqProofs [impl_SceneOk_l0_X,A3]),hR⟩
   ·replace H:=HS.cnd_f A3 H
    try simp -implicitDefEqProofs (maxSteps:=999999) [-selQ_sel,A3]
    obtain ⟨v8,A4,H⟩:=HS.bnd H
    try simp -implicitDefEqProofs (maxSteps:=999999) [-selQ_sel,A3,A4]
    obtain ⟨v9,A5,H⟩:=HS.bnd H
    try simp -implicitDefEqProofs (maxSteps:=999999) [-selQ_sel,A3,A4,A5]
    refine Hid.selQ (fun A6=>?_) (fun A6=>?_)
    ·replace H:=HS.cnd_t A6 H
     try simp -implicitDefEqProofs (maxSteps:=999999) [-selQ_sel,A3,A4,A5,A6]
     obtain ⟨v10,A7,H⟩:=HS.bnd H
     try simp -implicitDefEqProofs (maxSteps:=999999) [-selQ_sel,A3,A4,A5,A6,A7]
     refine Hid.selQ (fun A8=>?_) (fun A8=>?_)
     ·replace H:=HS.cnd_t A8 H
      try simp -implicitDefEqProofs (maxSteps:=999999) [-selQ_sel,A3,A4,A5,A6,A7,A8]
      obtain ⟨v11,A9,H⟩:=HS.bnd H
      try simp -implicitDefEqProofs (maxSteps:=999999) [-selQ_sel,A3,A4,A5,A6,A7,A8,A9]
      refine Hid.selQ (fun A10=>?_) (fun A10=>?_)
      ·replace H:=HS.cnd_t A10 H
       try simp -implicitDefEqProofs (maxSteps:=999999) [-selQ_sel,A3,A4,A5,A6,A7,A8,A9,A10]
       obtain ⟨v12,A11,H⟩:=HS.bnd H
       try simp -implicitDefEqProofs (maxSteps:=999999) [-selQ_sel,A3,A4,A5,A6,A7,A8,A9,A10,A11]
       obtain ⟨v13,A12,H⟩:=HS.bnd H
       try simp -implicitDefEqProofs (maxSteps:=999999) [-selQ_sel,A3,A4,A5,A6,A7,A8,A9,A10,A11,A12]
       refine Hid.brV (fun A13=>?_) (fun A13=>?_)
       ·replace H:=HS.cnd_t A13 H
        try simp -implicitDefEqProofs (maxSteps:=999999) [-selQ_sel,A3,A4,A5,A6,A7,A8,A9,A10,A11,A12,A13]
        have hr:=(HS.some H).symm;subst hr
        exact Hid.mk ⟨impl_SceneOk_l0_S a0 (IntKind.i64.wrap (x7 + 1)),Wk.ofk [0] hk (by rfl) (by simp -implicitDefEqProofs [impl_SceneOk_l0_S,A3,A4,A5,A6,A7,A8,A9,A10,A11,A12,A13]) (by simp -implicitDefEqProofs [impl_SceneOk_l0_S,A3,A4,A5,A6,A7,A8,A9,A10,A11,A12,A13]),hR⟩
       ·replace H:=HS.cnd_f A13 H
        try simp -implicitDefEqProofs (maxSteps:=999999) [-selQ_sel,A3,A4,A5,A6,A7,A8,A9,A10,A11,A12,A13]
        have hr:=(HS.some H).symm;subst hr
        exact Hid.mk ⟨(impl_SceneOk_l0_X a0 (.inr ())).2,Wk.ofk [] hk (by rfl) (by simp -implicitDefEqProofs [impl_SceneOk_l0_X,A3,A4,A5,A6,A7,A8,A9,A10,A11,A12,A13]) (by simp -implicitDefEqProofs [impl_SceneOk_l0_X,A3,A4,A5,A6,A7,A8,A9,A10,A11,A12,A13]),hR⟩
      ·replace H:=HS.cnd_f A10 H
       try simp -implicitDefEqProofs (maxSteps:=999999) [-selQ_sel,A3,A4,A5,A6,A7,A8,A9,A10]
       have hr:=(HS.some H).symm;subst hr
       exact Hid.mk ⟨(impl_SceneOk_l0_X a0 (.inr ())).2,Wk.ofk [] hk (by rfl) (by simp -implicitDefEqProofs [impl_SceneOk_l0_X,A3,A4,A5,A6,A7,A8,A9,A10]) (by simp -implicitDefEqProofs [impl_SceneOk_l0_X,A3,A4,A5,A6,A7,A8,A9,A10]),hR⟩
     ·replace H:=HS.cnd_f A8 H
      try simp -implicitDefEqProofs (maxSteps:=999999) [-selQ_sel,A3,A4,A5,A6,A7,A8]
      have hr:=(HS.some H).symm;subst hr
      exact Hid.mk ⟨(impl_SceneOk_l0_X a0 (.inr ())).2,Wk.ofk [] hk (by rfl) (by simp -implicitDefEqProofs [impl_SceneOk_l0_X,A3,A4,A5,A6,A7,A8]) (by simp -implicitDefEqProofs [impl_SceneOk_l0_X,A3,A4,A5,A6,A7,A8]),hR⟩
    ·replace H:=HS.cnd_f A6 H
     try simp -implicitDefEqProofs (maxSteps:=999999) [-selQ_sel,A3,A4,A5,A6]
     have hr:=(HS.some H).symm;subst hr
     exact Hid.mk ⟨(impl_SceneOk_l0_X a0 (.inr ())).2,Wk.ofk [] hk (by rfl) (by simp -implicitDefEqProofs [impl_SceneOk_l0_X,A3,A4,A5,A6]) (by simp -implicitDefEqProofs [impl_SceneOk_l0_X,A3,A4,A5,A6]),hR⟩
  ·rcases q with ⟨⟩ | ⟨⟩
   ·dsimp only at H
    try simp -implicitDefEqProofs (maxSteps:=999999) [-selQ_sel,A1,impl_SceneOk_l0_X]
    have hr:=(HS.some H).symm;subst hr
    refine Hid.mk ⟨_,Wk.refl _,?_⟩
    try simp -implicitDefEqProofs (maxSteps:=999999) [-selQ_sel,A1]
   ·dsimp only at H
    try simp -implicitDefEqProofs (maxSteps:=999999) [-selQ_sel,A1,impl_SceneOk_l0_X]
    have hr:=(HS.some H).symm;subst hr
    refine Hid.mk ⟨_,Wk.refl _,?_⟩
    try simp -implicitDefEqProofs (maxSteps:=999999) [-selQ_sel,A1]
 ·replace H:=HS.cnd_f A1 H
  try simp -implicitDefEqProofs (maxSteps:=999999) [-selQ_sel,A1]
  have hr:=(HS.some H).symm;subst hr
  refine Hid.mk ⟨_,Wk.refl _,?_⟩
  try simp -implicitDefEqProofs (maxSteps:=999999) [-selQ_sel,A1]
def ld_Node (p:TNode×(Nat→Value)):TNodeR:=(TNodeR.mk p.1.id p.1.parent p.1.group p.1.mat (TPathR.mk (some (p.2 9)) (some (p.2 10))) p.1.even p.1.width (some (p.2 13)) p.1.paint p.1.mode p.1.fade (TPathR.mk (some (p.2 29)) (some (p.2 30))))
theorem ld_Node1:∀ x:TNode,(eNode x).cells.length = 31∧(eNode x).cells.all AV.one = true:=fun x=>by simp
theorem ld_Node2:∀ (b:Bool) (x:TNode) (h:Nat→Value),rwE b (eNode x) h 0 = eNodeR (ld_Node (x,h)):=fun _ _ _=>rfl
theorem ld_Node3:∀ (x:TNode) (h:Nat→Value),plainL (eNodeR (ld_Node (x,h))).cells = true:=fun x h=>by simp [ld_Node,plainL,plain,eO]
theorem ld_Node4:∀ (ct:Value→List AV) (x:TNode) (h:Nat→Value),(∀ c r,(eNode x).cells[c]? = some (.fsl r)→ct (h c) = r)→unE ct (eNodeR (ld_Node (x,h))) = eNode x:=fun ct x h H=>by
 have h9:=H 9 _ rfl
 have h10:=H 10 _ rfl
 have h13:=H 13 _ rfl
 have h29:=H 29 _ rfl
 have h30:=H 30 _ rfl
 simp [unE,unC,ld_Node,eO,h9,h10,h13,h29,h30]
theorem ld_Node5:∀ x:TNode,∀ c ∈ (eNode x).cells,∀ u,c ≠ .raw u:=fun x=>by simp
theorem slices_Delete_Node_n_ok0 (hm:Try.prog.follows .mixedOrders = true) (k_slices_Delete_NodeR:Sound Try.prog 39 slices_Delete_NodeR_x):Sound Try.prog 39 slices_Delete_Node_n_x:=by
 refine xOf_sound fun q r h=>?_
 obtain ⟨a0,a1,a2,a3,a4,a5,a6,a7,a8,a9,a10,a11,a12,a13,a14,a15,a16,a17⟩:=q
 have H:HS (slices_Delete_Node_n a0 a1 a2 a3 a4 a5 a6 a7 a8 a9 a10 a11 a12 a13 a14 a15 a16 a17) r:=h
 clear h;unfold slices_Delete_Node_n at H
 obtain ⟨h1,H⟩:=HS.chkP H
 have hr:=(HS.some H).symm;subst hr
 dsimp only [slices_Delete_Node_n_e,slices_Delete_Node_n_v]
 obtain ⟨rfl,rfl,h3⟩:=h1
 let x:TNode:=(TNode.mk a7 a8 a9 (TMat.mk a10.a a10.b a10.c a10.d a10.e a10.f) (TPath.mk a2 a3) a11 a12 a4 (TPaint.mk a13.kind (TColor.mk a13.first.r a13.first.g a13.first.b a13.first.a) (TColor.mk a13.last.r a13.last.g a13.last.b a13.last.a) (TPoint.mk a13.from_.x a13.from_.y) (TPoint.mk a13.to.x a13.to.y)) a14 a15 (TPath.mk a5 a6))
 let op:AV:=AV.agg [AV.int .i64 a7,AV.int .i64 a8,AV.bool a9,AV.int .i64 a10.a,AV.int .i64 a10.b,AV.int .i64 a10.c,AV.int .i64 a10.d,AV.int .i64 a10.e,AV.int .i64 a10.f,AV.osl 1 0 (List.length a2) (List.length a2),AV.osl 2 0 (List.length a3) (List.length a3),AV.bool a11,AV.int .i64 a12,AV.osl 3 0 (List.length a4) (List.length a4),AV.int .i64 a13.kind,AV.int .i64 a13.first.r,AV.int .i64 a13.first.g,AV.int .i64 a13.first.b,AV.int .i64 a13.first.a,AV.int .i64 a13.last.r,AV.int .i64 a13.last.g,AV.int .i64 a13.last.b,AV.int .i64 a13.last.a,AV.int .i64 a13.from_.x,AV.int .i64 a13.from_.y,AV.int .i64 a13.to.x,AV.int .i64 a13.to.y,AV.int .i64 a14,AV.int .i64 a15,AV.osl 4 0 (List.length a5) (List.length a5),AV.osl 5 0 (List.length a6) (List.length a6)]
 have hset:((a16 ++ x :: a17).map eNode).set a16.length op = a16.map eNode ++ op :: a17.map eNode:=by
  rw [List.map_append,List.map_cons,List.set_append_right _ _ (by simp)]
  simp
 refine lift_op0 (e:=eNode) (e':=fun p=>eNodeR (ld_Node p)) (w:=31) ld_Node1 ld_Node2 ld_Node3 ld_Node4 ld_Node5 (of_eq_true nid_eNode) (a:=0) (l:=a16 ++ x :: a17) (zs:=[0,0,0,0,0,0,0,0,0,1,2,0,0,1,0,0,0,0,0,0,0,0,0,0,0,0,0,0,0,1,2]) (t:=a16.length) (op:=op) (x:=x) (by simp) rfl (fun _=>rfl) (fun _=>rfl) (by simp [op]) (by simp [op]) (by rw [hset];rfl) [] (by simp) (by simp) (fun _=>_) (fun φ m vs hv=>⟨fun _=>default,by simp,hv⟩) (fun er=>.arr 31 er false :: [Ob.arr 1 (List.map (AV.int .i64) a2) false,Ob.arr 2 (List.map ePoint a3) false,Ob.arr 1 (List.map (AV.int .i64) a4) false,Ob.arr 1 (List.map (AV.int .i64) a5) false,Ob.arr 2 (List.map ePoint a6) false]) (fun er i=>?_) (fun _=>rfl) (fun _=>[]) (by simp) (fun _=>rfl) fun lz gj hz=>?_
 ·match i with
  | 0=>rfl
  | 1=>rfl
  | 2=>rfl
  | 3=>rfl
  | 4=>rfl
  | 5=>rfl
  | n + 6=>simp
 ·obtain ⟨z1,z',rfl,rfl,hz2⟩:=List.map_eq_append_iff.1 hz
  obtain ⟨z,z2,rfl,hz3,rfl⟩:=List.map_eq_cons_iff.1 hz2
  simp only [List.length_map] at h3
  obtain ⟨l',d1,d2,d3⟩:=Na.del_Node (k:=(z1 ++ z :: z2).length) (i:=z1.length) (j:=z1.length + 1) (l:=(z1 ++ z :: z2).map ld_Node) (by simp) (by omega) (by simp) (by simp only [List.length_map,List.length_append,List.length_cons];omega)
  have hL:((z1 ++ z :: z2).map ld_Node).take z1.length ++ (((z1 ++ z :: z2).map ld_Node).take (z1 ++ z :: z2).length).drop (z1.length + 1) = (z1 ++ z2).map ld_Node:=by
   rw [← List.map_take,← List.map_take,← List.map_drop,← List.map_append,List.take_length,List.take_left,List.drop_append,List.drop_eq_nil_of_le (by omega),show z1.length + 1 - z1.length = 1 from by omega];rfl
  rw [hL] at d1 d2
  have k:=slices_Delete_NodeR_k (z1 ++ z :: z2).length ((z1.length:Nat):Int) ((z1.length + 1:Nat):Int) ((z1 ++ z :: z2).map ld_Node)
  rw [d1] at k
  obtain ⟨c1,c2⟩:=k_slices_Delete_NodeR _ _ _ _ k
  have hei:(z1 ++ z :: z2).eraseIdx (List.length (z1.map (·.1))) = z1 ++ z2:=by
   rw [List.length_map,List.eraseIdx_append_of_length_le (Nat.le_refl _),Nat.sub_self];rfl
  have hlen:(z1 ++ z2).length ≤ l'.length:=by rw [d3];simp
  have hl2:List.length (z1.map (·.1)) + List.length (z2.map (·.1)) + 1 = l'.length:=by rw [d3];simp;omega
  refine ⟨AV.osl 0 0 (z1 ++ z2).length l'.length,.arr 31 (l'.map eNodeR) false :: [Ob.arr 1 (List.map (AV.int .i64) a2) false,Ob.arr 2 (List.map ePoint a3) false,Ob.arr 1 (List.map (AV.int .i64) a4) false,Ob.arr 1 (List.map (AV.int .i64) a5) false,Ob.arr 2 (List.map ePoint a6) false],l'.map eNodeR,(z1 ++ z2).length,z1 ++ z2,⟨c1,?_⟩,rfl,by rw [List.length_map];exact hlen,?_,⟨z1 ++ z2,.refl _,by rw [hei,List.append_nil];exact List.Sublist.refl _⟩,?_,rfl,?_,?_,fun i hi1 hi2=>?_⟩
  ·have c3:=c2.frame rfl (by simp [Ob.ids]) (by simp) (fun f hf=>by simp [hf 0 (by simp)]) (by simp) (fun f hf=>by simp [hf 0 (by simp)]) [Ob.arr 1 (List.map (AV.int .i64) a2) false,Ob.arr 2 (List.map ePoint a3) false,Ob.arr 1 (List.map (AV.int .i64) a4) false,Ob.arr 1 (List.map (AV.int .i64) a5) false,Ob.arr 2 (List.map ePoint a6) false]
   simp only [List.length_map,List.map_map,Function.comp_def,List.length_append,List.length_cons,Int.natCast_add,Int.natCast_one] at c3 ⊢
   exact c3
  ·rw [← List.map_take]
   simp only [List.length_map] at d2
   rw [d2,List.map_map];rfl
  ·simp [shC]
  ·simp
  ·simp only [List.length_map] at hl2 ⊢;simp [hl2]
  ·match i with
   | 0=>exact (hi1 rfl).elim
   | 1=>exact .inl rfl
   | 2=>exact .inl rfl
   | 3=>exact .inl rfl
   | 4=>exact .inl rfl
   | 5=>exact .inl rfl
   | 6=>exact (hi2 rfl).elim
   | n + 7=>exact .inl rfl
theorem impl_PaintOk_ok0 (hm:Try.prog.follows .mixedOrders = true) (k_impl_ColorOk:Sound Try.prog 122 impl_ColorOk_x) (k_impl_PointOk:Sound Try.prog 123 impl_PointOk_x):Sound Try.prog 95 impl_PaintOk_x:=by
 refine xOf_sound fun q r h=>?_
 revert h;revert r;revert q;intro a0 r h
 refine fn_ok E0 hm Try.func95 rfl (by decide +kernel) (by rfl) fun Γ hn hk=>?_
 dsimp only [impl_PaintOk_e,impl_PaintOk_v]
 replace hn:Γ.n = 44:=hn
 replace hk:Γ.k = 0:=hk
 have H:HS (impl_PaintOk a0) r:=h
 clear h;unfold impl_PaintOk at H
 try simp -implicitDefEqProofs at H
 refine Tr.of_vc (cl:=tabC [(122,impl_ColorOk_x),(123,impl_PointOk_x)]) (E:=E0) [] (tab_cons k_impl_ColorOk (tab_cons k_impl_PointOk tab_nil)) hm (by rw [hn];decide +kernel) ?_
 try simp -implicitDefEqProofs (maxSteps:=999999) [-selQ_sel]
 refine Hid.brV (fun A1=>?_) (fun A1=>?_)
 ·replace H:=HS.cnd_t A1 H
  try simp -implicitDefEqProofs (maxSteps:=999999) [-selQ_sel,A1]
  obtain ⟨v1,A2,H⟩:=HS.bnd H
  try simp -implicitDefEqProofs (maxSteps:=999999) [-selQ_sel,A1,A2]
  refine Hid.selQ (fun A3=>?_) (fun A3=>?_)
  ·replace H:=HS.cnd_t A3 H
   try simp -implicitDefEqProofs (maxSteps:=999999) [-selQ_sel,A1,A2,A3]
   have hr:=(HS.some H).symm;subst hr
   refine Hid.mk ⟨_,Wk.refl _,?_⟩
   try simp -implicitDefEqProofs (maxSteps:=999999) [-selQ_sel,A1,A2,A3]
  ·replace H:=HS.cnd_f A3 H
   try simp -implicitDefEqProofs (maxSteps:=999999) [-selQ_sel,A1,A2,A3]
   have hr:=(HS.some H).symm;subst hr
   refine Hid.mk ⟨_,Wk.refl _,?_⟩
   try simp -implicitDefEqProofs (maxSteps:=999999) [-selQ_sel,A1,A2,A3]
 ·replace H:=HS.cnd_f A1 H
  try simp -implicitDefEqProofs (maxSteps:=999999) [-selQ_sel,A1]
  refine Hid.brV (fun A4=>?_) (fun A4=>?_)
  ·replace H:=HS.cnd_t A4 H
   try simp -implicitDefEqProofs (maxSteps:=999999) [-selQ_sel,A1,A4]
   obtain ⟨v2,A5,H⟩:=HS.bnd H
   try simp -implicitDefEqProofs (maxSteps:=999999) [-selQ_sel,A1,A4,A5]
   refine Hid.selQ (fun A6=>?_) (fun A6=>?_)
   ·replace H:=HS.cnd_t A6 H
    try simp -implicitDefEqProofs (maxSteps:=999999) [-selQ_sel,A1,A4,A5,A6]
    obtain ⟨v3,A7,H⟩:=HS.bnd H
    try simp -implicitDefEqProofs (maxSteps:=999999) [-selQ_sel,A1,A4,A5,A6,A7]
    refine Hid.selQ (fun A8=>?_) (fun A8=>?_)
    ·replace H:=HS.cnd_t A8 H
     try simp -implicitDefEqProofs (maxSteps:=999999) [-selQ_sel,A1,A4,A5,A6,A7,A8]
     obtain ⟨v4,A9,H⟩:=HS.bnd H
     try simp -implicitDefEqProofs (maxSteps:=999999) [-selQ_sel,A1,A4,A5,A6,A7,A8,A9]
     refine Hid.selQ (fun A10=>?_) (fun A10=>?_)
     ·replace H:=HS.cnd_t A10 H
      try simp -implicitDefEqProofs (maxSteps:=999999) [-selQ_sel,A1,A4,A5,A6,A7,A8,A9,A10]
      obtain ⟨v5,A11,H⟩:=HS.bnd H
      try simp -implicitDefEqProofs (maxSteps:=999999) [-selQ_sel,A1,A4,A5,A6,A7,A8,A9,A10,A11]
      refine Hid.selQ (fun A12=>?_) (fun A12=>?_)
      ·replace H:=HS.cnd_t A12 H
       try simp -implicitDefEqProofs (maxSteps:=999999) [-selQ_sel,A1,A4,A5,A6,A7,A8,A9,A10,A11,A12]
       have hr:=(HS.some H).symm;subst hr
       refine Hid.mk ⟨_,Wk.refl _,?_⟩
       try simp -implicitDefEqProofs (maxSteps:=999999) [-selQ_sel,A1,A4,A5,A6,A7,A8,A9,A10,A11,A12]
      ·replace H:=HS.cnd_f A12 H
       try simp -implicitDefEqProofs (maxSteps:=999999) [-selQ_sel,A1,A4,A5,A6,A7,A8,A9,A10,A11,A12]
       have hr:=(HS.some H).symm;subst hr
       refine Hid.mk ⟨_,Wk.refl _,?_⟩
       try simp -implicitDefEqProofs (maxSteps:=999999) [-selQ_sel,A1,A4,A5,A6,A7,A8,A9,A10,A11,A12]
     ·replace H:=HS.cnd_f A10 H
      try simp -implicitDefEqProofs (maxSteps:=999999) [-selQ_sel,A1,A4,A5,A6,A7,A8,A9,A10]
      have hr:=(HS.some H).symm;subst hr
      refine Hid.mk ⟨_,Wk.refl _,?_⟩
      try simp -implicitDefEqProofs (maxSteps:=999999) [-selQ_sel,A1,A4,A5,A6,A7,A8,A9,A10]
    ·replace H:=HS.cnd_f A8 H
     try simp -implicitDefEqProofs (maxSteps:=999999) [-selQ_sel,A1,A4,A5,A6,A7,A8]
     have hr:=(HS.some H).symm;subst hr
     refine Hid.mk ⟨_,Wk.refl _,?_⟩
     try simp -implicitDefEqProofs (maxSteps:=999999) [-selQ_sel,A1,A4,A5,A6,A7,A8]
   ·replace H:=HS.cnd_f A6 H
    try simp -implicitDefEqProofs (maxSteps:=999999) [-selQ_sel,A1,A4,A5,A6]
    have hr:=(HS.some H).symm;subst hr
    refine Hid.mk ⟨_,Wk.refl _,?_⟩
    try simp -implicitDefEqProofs (maxSteps:=999999) [-selQ_sel,A1,A4,A5,A6]
  ·replace H:=HS.cnd_f A4 H
   try simp -implicitDefEqProofs (maxSteps:=999999) [-selQ_sel,A1,A4]
   have hr:=(HS.some H).symm;subst hr
   refine Hid.mk ⟨_,Wk.refl _,?_⟩
   try simp -implicitDefEqProofs (maxSteps:=999999) [-selQ_sel,A1,A4]
theorem impl_DepthOf_ok0 (hm:Try.prog.follows .mixedOrders = true) (k_impl_NodeAt:Sound Try.prog 13 impl_NodeAt_x):Sound Try.prog 42 impl_DepthOf_x:=by
 refine xOf_sound fun q r h=>?_
 obtain ⟨a0,a1⟩:=q
 refine fn_ok E0 hm Try.func42 rfl (by decide +kernel) (by rfl) fun Γ hn hk=>?_
 dsimp only [impl_DepthOf_e,impl_DepthOf_v]
 replace hn:Γ.n = 27:=hn
 replace hk:Γ.k = 0:=hk
 have H:HS (impl_DepthOf a0 a1) r:=h
 clear h;unfold impl_DepthOf at H
 try simp -implicitDefEqProofs at H
 refine Tr.of_vc (cl:=tabC [(13,impl_NodeAt_x)]) (E:=E0) [] (tab_cons k_impl_NodeAt tab_nil) hm (by rw [hn];decide +kernel) ?_
 try simp -implicitDefEqProofs (maxSteps:=999999) [-selQ_sel]
 refine Hid.brV (fun A1=>?_) (fun A1=>?_)
 ·replace H:=HS.cnd_t A1 H
  try simp -implicitDefEqProofs (maxSteps:=999999) [-selQ_sel,A1]
  have hr:=(HS.some H).symm;subst hr
  refine Hid.mk ⟨_,Wk.refl _,?_⟩
  try simp -implicitDefEqProofs (maxSteps:=999999) [-selQ_sel,A1]
 ·replace H:=HS.cnd_f A1 H
  try simp -implicitDefEqProofs (maxSteps:=999999) [-selQ_sel,A1]
  obtain ⟨q,A2,H⟩:=HS.bnd H
  refine Hid.mk (Tr.weak (s':=(impl_DepthOf_l0_S a0) (a1,1)) (Wk.ofk [0] hk (by rfl) (by simp -implicitDefEqProofs [impl_DepthOf_l0_S,A1]) (by simp -implicitDefEqProofs [impl_DepthOf_l0_S,A1])) ?_)
  refine wp_loop_of (S:=(impl_DepthOf_l0_S a0)) (f:=(impl_DepthOf_l0 a0)) (xt:=(impl_DepthOf_l0_X a0)) ?_ ?_ A2 ?_
  ·intro q;rcases q with y7 | ⟨⟩ <;> simp [impl_DepthOf_l0_X]
  ·clear H A2 q
   rintro ⟨x3,x4⟩ o R hf hR
   have H:HS (impl_DepthOf_l0 a0 (x3,x4)) o:=hf
   clear hf;unfold impl_DepthOf_l0 at H
   try simp -implicitDefEqProofs at H
   refine Tr.of_vc (cl:=tabC [(13,impl_NodeAt_x)]) (E:=E0) [] (tab_cons k_impl_NodeAt tab_nil) hm (by rw [hn];decide +kernel) ?_
   try simp -implicitDefEqProofs (maxSteps:=999999) [-selQ_sel,impl_DepthOf_l0_S]
   refine Hid.brV (fun A3=>?_) (fun A3=>?_)
   ·replace H:=HS.cnd_t A3 H
    try simp -implicitDefEqProofs (maxSteps:=999999) [-selQ_sel,A3]
    obtain ⟨v5,A4,H⟩:=HS.bnd H
    try simp -implicitDefEqProofs (maxSteps:=999999) [-selQ_sel,A3,A4]
    refine Hid.brV (fun A5=>?_) (fun A5=>?_)
    ·replace H:=HS.cnd_t A5 H
     try simp -implicitDefEqProofs (maxSteps:=999999) [-selQ_sel,A3,A4,A5]
     obtain ⟨v6,A6,H⟩:=HS.bnd H
     try simp -implicitDefEqProofs (maxSteps:=999999) [-selQ_sel,A3,A4,A5,A6]
     refine Hid.brV (fun A7=>?_) (fun A7=>?_)
     ·replace H:=HS.cnd_t A7 H
      try simp -implicitDefEqProofs (maxSteps:=999999) [-selQ_sel,A3,A4,A5,A6,A7]
      have hr:=(HS.some H).symm;subst hr
      exact Hid.mk ⟨(impl_DepthOf_l0_X a0 (.inl x4)).2,Wk.ofk [] hk (by rfl) (by simp -implicitDefEqProofs [impl_DepthOf_l0_X,A3,A4,A5,A6,A7]) (by simp -implicitDefEqProofs [impl_DepthOf_l0_X,A3,A4,A5,A6,A7]),hR⟩
     ·replace H:=HS.cnd_f A7 H
      try simp -implicitDefEqProofs (maxSteps:=999999) [-selQ_sel,A3,A4,A5,A6,A7]
      have hr:=(HS.some H).symm;subst hr
      exact Hid.mk ⟨impl_DepthOf_l0_S a0 (v6.parent,(IntKind.i64.wrap (x4 + 1))),Wk.ofk [0] hk (by rfl) (by simp -implicitDefEqProofs [impl_DepthOf_l0_S,A3,A4,A5,A6,A7]) (by simp -implicitDefEqProofs [impl_DepthOf_l0_S,A3,A4,A5,A6,A7]),hR⟩
    ·replace H:=HS.cnd_f A5 H
     try simp -implicitDefEqProofs (maxSteps:=999999) [-selQ_sel,A3,A4,A5]
     have hr:=(HS.some H).symm;subst hr
     exact Hid.mk ⟨(impl_DepthOf_l0_X a0 (.inl 0)).2,Wk.ofk [] hk (by rfl) (by simp -implicitDefEqProofs [impl_DepthOf_l0_X,A3,A4,A5]) (by simp -implicitDefEqProofs [impl_DepthOf_l0_X,A3,A4,A5]),hR⟩
   ·replace H:=HS.cnd_f A3 H
    try simp -implicitDefEqProofs (maxSteps:=999999) [-selQ_sel,A3]
    have hr:=(HS.some H).symm;subst hr
    exact Hid.mk ⟨(impl_DepthOf_l0_X a0 (.inr ())).2,Wk.ofk [] hk (by rfl) (by simp -implicitDefEqProofs [impl_DepthOf_l0_X,A3]) (by simp -implicitDefEqProofs [impl_DepthOf_l0_X,A3]),hR⟩
  ·rcases q with y7 | ⟨⟩
   ·dsimp only at H
    try simp -implicitDefEqProofs (maxSteps:=999999) [-selQ_sel,A1,impl_DepthOf_l0_X]
    have hr:=(HS.some H).symm;subst hr
    refine Hid.mk ⟨_,Wk.refl _,?_⟩
    try simp -implicitDefEqProofs (maxSteps:=999999) [-selQ_sel,A1]
   ·dsimp only at H
    try simp -implicitDefEqProofs (maxSteps:=999999) [-selQ_sel,A1,impl_DepthOf_l0_X]
    have hr:=(HS.some H).symm;subst hr
    refine Hid.mk ⟨_,Wk.refl _,?_⟩
    try simp -implicitDefEqProofs (maxSteps:=999999) [-selQ_sel,A1]
theorem laws_eqNodeS_ok0 (hm:Try.prog.follows .mixedOrders = true) (k_laws_eqNode:Sound Try.prog 23 laws_eqNode_x):Sound Try.prog 65 laws_eqNodeS_x:=by
 refine xOf_sound fun q r h=>?_
 obtain ⟨a0,a1⟩:=q
 refine fn_ok E0 hm Try.func65 rfl (by decide +kernel) (by rfl) fun Γ hn hk=>?_
 dsimp only [laws_eqNodeS_e,laws_eqNodeS_v]
 replace hn:Γ.n = 27:=hn
 replace hk:Γ.k = 0:=hk
 have H:HS (laws_eqNodeS a0 a1) r:=h
 clear h;unfold laws_eqNodeS at H
 try simp -implicitDefEqProofs at H
 refine Tr.of_vc (cl:=tabC [(23,laws_eqNode_x)]) (E:=E0) [] (tab_cons k_laws_eqNode tab_nil) hm (by rw [hn];decide +kernel) ?_
 try simp -implicitDefEqProofs +decide (maxSteps:=999999) [-selQ_sel,hokQ_of]
 refine Hid.brV (fun A1=>?_) (fun A1=>?_)
 ·replace H:=HS.cnd_t A1 H
  try simp -implicitDefEqProofs +decide (maxSteps:=999999) [-selQ_sel,hokQ_of,A1]
  obtain ⟨q,A2,H⟩:=HS.bnd H
  refine Hid.mk (Tr.weak (s':=(laws_eqNodeS_l0_S a0 a1) 0) (Wk.ofk [] hk (by rfl) (by simp -implicitDefEqProofs [laws_eqNodeS_l0_S,A1]) (by simp -implicitDefEqProofs [laws_eqNodeS_l0_S,A1])) ?_)
  refine wp_loop_of (S:=(laws_eqNodeS_l0_S a0 a1)) (f:=(laws_eqNodeS_l0 a0 a1)) (xt:=(laws_eqNodeS_l0_X a0 a1)) ?_ ?_ A2 ?_
  ·intro q;rcases q with ⟨⟩ | ⟨⟩ <;> simp [laws_eqNodeS_l0_X]
  ·clear H A2 q
   rintro x4 o R hf hR
   have H:HS (laws_eqNodeS_l0 a0 a1 x4) o:=hf
   clear hf;unfold laws_eqNodeS_l0 at H
   try simp -implicitDefEqProofs at H
   refine Tr.of_vc (cl:=tabC [(23,laws_eqNode_x)]) (E:=E0) [] (tab_cons k_laws_eqNode tab_nil) hm (by rw [hn];decide +kernel) ?_
   try simp -implicitDefEqProofs +decide (maxSteps:=999999) [-selQ_sel,hokQ_of,laws_eqNodeS_l0_S]
   refine Hid.brV (fun A3=>?_) (fun A3=>?_)
   ·replace H:=HS.cnd_t A3 H
    try simp -implicitDefEqProofs +decide (maxSteps:=999999) [-selQ_sel,hokQ_of,A3]
    have hr:=(HS.some H).symm;subst hr
    exact Hid.mk ⟨(laws_eqNodeS_l0_X a0 a1 (.inl ())).2,Wk.ofk [] hk (by rfl) (by simp -implicitDefEqProofs [laws_eqNodeS_l0_X,A3]) (by simp -implicitDefEqProofs [laws_eqNodeS_l0_X,A3]),hR⟩
   ·replace H:=HS.cnd_f A3 H
    try simp -implicitDefEqProofs +decide (maxSteps:=999999) [-selQ_sel,hokQ_of,A3]
    obtain ⟨v5,A4,H⟩:=HS.bnd H
    try simp -implicitDefEqProofs +decide (maxSteps:=999999) [-selQ_sel,hokQ_of,A3,A4]
    obtain ⟨v6,A5,H⟩:=HS.bnd H
    try simp -implicitDefEqProofs +decide (maxSteps:=999999) [-selQ_sel,hokQ_of,A3,A4,A5]
    obtain ⟨v7,A6,H⟩:=HS.bnd H
    try simp -implicitDefEqProofs +decide (maxSteps:=999999) [-selQ_sel,hokQ_of,A3,A4,A5,A6]
    refine Hid.brV (fun A7=>?_) (fun A7=>?_)
    ·replace H:=HS.cnd_t A7 H
     try simp -implicitDefEqProofs +decide (maxSteps:=999999) [-selQ_sel,hokQ_of,A3,A4,A5,A6,A7]
     have hr:=(HS.some H).symm;subst hr
     exact Hid.mk ⟨laws_eqNodeS_l0_S a0 a1 (IntKind.i64.wrap (x4 + 1)),Wk.ofk [] hk (by rfl) (by simp -implicitDefEqProofs [laws_eqNodeS_l0_S,A3,A4,A5,A6,A7]) (by simp -implicitDefEqProofs [laws_eqNodeS_l0_S,A3,A4,A5,A6,A7]),hR⟩
    ·replace H:=HS.cnd_f A7 H
     try simp -implicitDefEqProofs +decide (maxSteps:=999999) [-selQ_sel,hokQ_of,A3,A4,A5,A6,A7]
     have hr:=(HS.some H).symm;subst hr
     exact Hid.mk ⟨(laws_eqNodeS_l0_X a0 a1 (.inr ())).2,Wk.ofk [] hk (by rfl) (by simp -implicitDefEqProofs [laws_eqNodeS_l0_X,A3,A4,A5,A6,A7]) (by simp -implicitDefEqProofs [laws_eqNodeS_l0_X,A3,A4,A5,A6,A7]),hR⟩
  ·rcases q with ⟨⟩ | ⟨⟩
   ·dsimp only at H
    try simp -implicitDefEqProofs +decide (maxSteps:=999999) [-selQ_sel,hokQ_of,A1,laws_eqNodeS_l0_X]
    have hr:=(HS.some H).symm;subst hr
    refine Hid.mk ⟨_,Wk.refl _,?_⟩
    try simp -implicitDefEqProofs +decide (maxSteps:=999999) [-selQ_sel,hokQ_of,A1]
   ·dsimp only at H
    try simp -implicitDefEqProofs +decide (maxSteps:=999999) [-selQ_sel,hokQ_of,A1,laws_eqNodeS_l0_X]
    have hr:=(HS.some H).symm;subst hr
    refine Hid.mk ⟨_,Wk.refl _,?_⟩
    try simp -implicitDefEqProofs +decide (maxSteps:=999999) [-selQ_sel,hokQ_of,A1]
 ·replace H:=HS.cnd_f A1 H
  try simp -implicitDefEqProofs +decide (maxSteps:=999999) [-selQ_sel,hokQ_of,A1]
  have hr:=(HS.some H).symm;subst hr
  refine Hid.mk ⟨_,Wk.refl _,?_⟩
  try simp -implicitDefEqProofs +decide (maxSteps:=999999) [-selQ_sel,hokQ_of,A1]
theorem spec_MatOk_ok0 (hm:Try.prog.follows .mixedOrders = true) (k_spec_l01In:Sound Try.prog 87 spec_l01In_x):Sound Try.prog 98 spec_MatOk_x:=by
 refine xOf_sound fun q r h=>?_
 revert h;revert r;revert q;intro a0 r h
 refine fn_ok E0 hm Try.func98 rfl (by decide +kernel) (by rfl) fun Γ hn hk=>?_
 dsimp only [spec_MatOk_e,spec_MatOk_v]
 replace hn:Γ.n = 44:=hn
 replace hk:Γ.k = 0:=hk
 have H:HS (spec_MatOk a0) r:=h
 clear h;unfold spec_MatOk at H
 try simp -implicitDefEqProofs at H
 refine Tr.of_vc (cl:=tabC [(87,spec_l01In_x)]) (E:=E0) [] (tab_cons k_spec_l01In tab_nil) hm (by rw [hn];decide +kernel) ?_
 try simp -implicitDefEqProofs (maxSteps:=999999) [-selQ_sel]
 obtain ⟨v1,A1,H⟩:=HS.bnd H
 try simp -implicitDefEqProofs (maxSteps:=999999) [-selQ_sel,A1]
 refine Hid.selQ (fun A2=>?_) (fun A2=>?_)
 ·replace H:=HS.cnd_t A2 H
  try simp -implicitDefEqProofs (maxSteps:=999999) [-selQ_sel,A1,A2]
  obtain ⟨v2,A3,H⟩:=HS.bnd H
  try simp -implicitDefEqProofs (maxSteps:=999999) [-selQ_sel,A1,A2,A3]
  refine Hid.selQ (fun A4=>?_) (fun A4=>?_)
  ·replace H:=HS.cnd_t A4 H
   try simp -implicitDefEqProofs (maxSteps:=999999) [-selQ_sel,A1,A2,A3,A4]
   obtain ⟨v3,A5,H⟩:=HS.bnd H
   try simp -implicitDefEqProofs (maxSteps:=999999) [-selQ_sel,A1,A2,A3,A4,A5]
   refine Hid.selQ (fun A6=>?_) (fun A6=>?_)
   ·replace H:=HS.cnd_t A6 H
    try simp -implicitDefEqProofs (maxSteps:=999999) [-selQ_sel,A1,A2,A3,A4,A5,A6]
    obtain ⟨v4,A7,H⟩:=HS.bnd H
    try simp -implicitDefEqProofs (maxSteps:=999999) [-selQ_sel,A1,A2,A3,A4,A5,A6,A7]
    refine Hid.selQ (fun A8=>?_) (fun A8=>?_)
    ·replace H:=HS.cnd_t A8 H
     try simp -implicitDefEqProofs (maxSteps:=999999) [-selQ_sel,A1,A2,A3,A4,A5,A6,A7,A8]
     obtain ⟨v5,A9,H⟩:=HS.bnd H
     try simp -implicitDefEqProofs (maxSteps:=999999) [-selQ_sel,A1,A2,A3,A4,A5,A6,A7,A8,A9]
     refine Hid.selQ (fun A10=>?_) (fun A10=>?_)
     ·replace H:=HS.cnd_t A10 H
      try simp -implicitDefEqProofs (maxSteps:=999999) [-selQ_sel,A1,A2,A3,A4,A5,A6,A7,A8,A9,A10]
      obtain ⟨v6,A11,H⟩:=HS.bnd H
      try simp -implicitDefEqProofs (maxSteps:=999999) [-selQ_sel,A1,A2,A3,A4,A5,A6,A7,A8,A9,A10,A11]
      have hr:=(HS.some H).symm;subst hr
      refine Hid.mk ⟨_,Wk.refl _,?_⟩
      try simp -implicitDefEqProofs (maxSteps:=999999) [-selQ_sel,A1,A2,A3,A4,A5,A6,A7,A8,A9,A10,A11]
     ·replace H:=HS.cnd_f A10 H
      try simp -implicitDefEqProofs (maxSteps:=999999) [-selQ_sel,A1,A2,A3,A4,A5,A6,A7,A8,A9,A10]
      have hr:=(HS.some H).symm;subst hr
      refine Hid.mk ⟨_,Wk.refl _,?_⟩
      try simp -implicitDefEqProofs (maxSteps:=999999) [-selQ_sel,A1,A2,A3,A4,A5,A6,A7,A8,A9,A10]
    ·replace H:=HS.cnd_f A8 H
     try simp -implicitDefEqProofs (maxSteps:=999999) [-selQ_sel,A1,A2,A3,A4,A5,A6,A7,A8]
     have hr:=(HS.some H).symm;subst hr
     refine Hid.mk ⟨_,Wk.refl _,?_⟩
     try simp -implicitDefEqProofs (maxSteps:=999999) [-selQ_sel,A1,A2,A3,A4,A5,A6,A7,A8]
   ·replace H:=HS.cnd_f A6 H
    try simp -implicitDefEqProofs (maxSteps:=999999) [-selQ_sel,A1,A2,A3,A4,A5,A6]
    have hr:=(HS.some H).symm;subst hr
    refine Hid.mk ⟨_,Wk.refl _,?_⟩
    try simp -implicitDefEqProofs (maxSteps:=999999) [-selQ_sel,A1,A2,A3,A4,A5,A6]
  ·replace H:=HS.cnd_f A4 H
   try simp -implicitDefEqProofs (maxSteps:=999999) [-selQ_sel,A1,A2,A3,A4]
   have hr:=(HS.some H).symm;subst hr
   refine Hid.mk ⟨_,Wk.refl _,?_⟩
   try simp -implicitDefEqProofs (maxSteps:=999999) [-selQ_sel,A1,A2,A3,A4]
 ·replace H:=HS.cnd_f A2 H
  try simp -implicitDefEqProofs (maxSteps:=999999) [-selQ_sel,A1,A2]
  have hr:=(HS.some H).symm;subst hr
  refine Hid.mk ⟨_,Wk.refl _,?_⟩
  try simp -implicitDefEqProofs (maxSteps:=999999) [-selQ_sel,A1,A2]
theorem laws_szNodeS_ok0 (hm:Try.prog.follows .mixedOrders = true) (k_laws_szNode:Sound Try.prog 17 laws_szNode_x):Sound Try.prog 54 laws_szNodeS_x:=by
 refine xOf_sound fun q r h=>?_
 obtain ⟨a0,a1⟩:=q
 refine fn_ok E0 hm Try.func54 rfl (by decide +kernel) (by rfl) fun Γ hn hk=>?_
 dsimp only [laws_szNodeS_e,laws_szNodeS_v]
 replace hn:Γ.n = 27:=hn
 replace hk:Γ.k = 0:=hk
 have H:HS (laws_szNodeS a0 a1) r:=h
 clear h;unfold laws_szNodeS at H
 try simp -implicitDefEqProofs at H
 refine Tr.of_vc (cl:=tabC [(17,laws_szNode_x)]) (E:=E0) [] (tab_cons k_laws_szNode tab_nil) hm (by rw [hn];decide +kernel) ?_
 try simp -implicitDefEqProofs (maxSteps:=999999) [-selQ_sel]
 refine Hid.brV (fun A1=>?_) (fun A1=>?_)
 ·replace H:=HS.cnd_t A1 H
  try simp -implicitDefEqProofs (maxSteps:=999999) [-selQ_sel,A1]
  obtain ⟨q,A2,H⟩:=HS.bnd H
  refine Hid.mk (Tr.weak (s':=(laws_szNodeS_l0_S a0) ((IntKind.i64.wrap (a1 - (List.length a0:Int))),0)) (Wk.ofk [] hk (by rfl) (by simp -implicitDefEqProofs [laws_szNodeS_l0_S,A1]) (by simp -implicitDefEqProofs [laws_szNodeS_l0_S,A1])) ?_)
  refine wp_loop_of (S:=(laws_szNodeS_l0_S a0)) (f:=(laws_szNodeS_l0 a0)) (xt:=(laws_szNodeS_l0_X a0)) ?_ ?_ A2 ?_
  ·intro q;rcases q with y7 | ⟨⟩ <;> simp [laws_szNodeS_l0_X]
  ·clear H A2 q
   rintro ⟨x3,x4⟩ o R hf hR
   have H:HS (laws_szNodeS_l0 a0 (x3,x4)) o:=hf
   clear hf;unfold laws_szNodeS_l0 at H
   try simp -implicitDefEqProofs at H
   refine Tr.of_vc (cl:=tabC [(17,laws_szNode_x)]) (E:=E0) [] (tab_cons k_laws_szNode tab_nil) hm (by rw [hn];decide +kernel) ?_
   try simp -implicitDefEqProofs (maxSteps:=999999) [-selQ_sel,laws_szNodeS_l0_S]
   refine Hid.brV (fun A3=>?_) (fun A3=>?_)
   ·replace H:=HS.cnd_t A3 H
    try simp -implicitDefEqProofs (maxSteps:=999999) [-selQ_sel,A3]
    have hr:=(HS.some H).symm;subst hr
    exact Hid.mk ⟨(laws_szNodeS_l0_X a0 (.inl x3)).2,Wk.ofk [] hk (by rfl) (by simp -implicitDefEqProofs [laws_szNodeS_l0_X,A3]) (by simp -implicitDefEqProofs [laws_szNodeS_l0_X,A3]),hR⟩
   ·replace H:=HS.cnd_f A3 H
    try simp -implicitDefEqProofs (maxSteps:=999999) [-selQ_sel,A3]
    obtain ⟨v5,A4,H⟩:=HS.bnd H
    try simp -implicitDefEqProofs (maxSteps:=999999) [-selQ_sel,A3,A4]
    obtain ⟨v6,A5,H⟩:=HS.bnd H
    try simp -implicitDefEqProofs (maxSteps:=999999) [-selQ_sel,A3,A4,A5]
    refine Hid.brV (fun A6=>?_) (fun A6=>?_)
    ·replace H:=HS.cnd_t A6 H
     try simp -implicitDefEqProofs (maxSteps:=999999) [-selQ_sel,A3,A4,A5,A6]
     have hr:=(HS.some H).symm;subst hr
     exact Hid.mk ⟨laws_szNodeS_l0_S a0 (v6,(IntKind.i64.wrap (x4 + 1))),Wk.ofk [] hk (by rfl) (by simp -implicitDefEqProofs [laws_szNodeS_l0_S,A3,A4,A5,A6]) (by simp -implicitDefEqProofs [laws_szNodeS_l0_S,A3,A4,A5,A6]),hR⟩
    ·replace H:=HS.cnd_f A6 H
     try simp -implicitDefEqProofs (maxSteps:=999999) [-selQ_sel,A3,A4,A5,A6]
     have hr:=(HS.some H).symm;subst hr
     exact Hid.mk ⟨(laws_szNodeS_l0_X a0 (.inr ())).2,Wk.ofk [] hk (by rfl) (by simp -implicitDefEqProofs [laws_szNodeS_l0_X,A3,A4,A5,A6]) (by simp -implicitDefEqProofs [laws_szNodeS_l0_X,A3,A4,A5,A6]),hR⟩
  ·rcases q with y7 | ⟨⟩
   ·dsimp only at H
    try simp -implicitDefEqProofs (maxSteps:=999999) [-selQ_sel,A1,laws_szNodeS_l0_X]
    have hr:=(HS.some H).symm;subst hr
    refine Hid.mk ⟨_,Wk.refl _,?_⟩
    try simp -implicitDefEqProofs (maxSteps:=999999) [-selQ_sel,A1]
   ·dsimp only at H
    try simp -implicitDefEqProofs (maxSteps:=999999) [-selQ_sel,A1,laws_szNodeS_l0_X]
    have hr:=(HS.some H).symm;subst hr
    refine Hid.mk ⟨_,Wk.refl _,?_⟩
    try simp -implicitDefEqProofs (maxSteps:=999999) [-selQ_sel,A1]
 ·replace H:=HS.cnd_f A1 H
  try simp -implicitDefEqProofs (maxSteps:=999999) [-selQ_sel,A1]
  have hr:=(HS.some H).symm;subst hr
  refine Hid.mk ⟨_,Wk.refl _,?_⟩
  try simp -implicitDefEqProofs (maxSteps:=999999) [-selQ_sel,A1]
theorem laws_heldPointS_ok0 (hm:Try.prog.follows .mixedOrders = true):Sound Try.prog 114 laws_heldPointS_x:=by
 refine xOf_sound fun q r h=>?_
 obtain ⟨a0,a1⟩:=q
 refine fn_ok E0 hm Try.func114 rfl (by decide +kernel) (by rfl) fun Γ hn hk=>?_
 dsimp only [laws_heldPointS_e,laws_heldPointS_v]
 replace hn:Γ.n = 31:=hn
 replace hk:Γ.k = 0:=hk
 have H:HS (laws_heldPointS a0 a1) r:=h
 clear h;unfold laws_heldPointS at H
 try simp -implicitDefEqProofs at H
 refine Tr.of_vc (cl:=tabC []) (E:=E0) [] tab_nil hm (by rw [hn];decide +kernel) ?_
 try simp -implicitDefEqProofs (maxSteps:=999999) [-selQ_sel]
 obtain ⟨q,A1,H⟩:=HS.bnd H
 refine Hid.mk (Tr.weak (s':=(laws_heldPointS_l0_S a0) (a1,0)) (Wk.ofk [] hk (by rfl) (by simp -implicitDefEqProofs [laws_heldPointS_l0_S]) (by simp -implicitDefEqProofs [laws_heldPointS_l0_S])) ?_)
 refine wp_loop_of (S:=(laws_heldPointS_l0_S a0)) (f:=(laws_heldPointS_l0 a0)) (xt:=(laws_heldPointS_l0_X a0)) ?_ ?_ A1 ?_
 ·intro q;rcases q with y5 | ⟨⟩ <;> simp [laws_heldPointS_l0_X]
 ·clear H A1 q
  rintro ⟨x2,x3⟩ o R hf hR
  have H:HS (laws_heldPointS_l0 a0 (x2,x3)) o:=hf
  clear hf;unfold laws_heldPointS_l0 at H
  try simp -implicitDefEqProofs at H
  refine Tr.of_vc (cl:=tabC []) (E:=E0) [] tab_nil hm (by rw [hn];decide +kernel) ?_
  try simp -implicitDefEqProofs (maxSteps:=999999) [-selQ_sel,laws_heldPointS_l0_S]
  refine Hid.brV (fun A2=>?_) (fun A2=>?_)
  ·replace H:=HS.cnd_t A2 H
   try simp -implicitDefEqProofs (maxSteps:=999999) [-selQ_sel,A2]
   have hr:=(HS.some H).symm;subst hr
   exact Hid.mk ⟨(laws_heldPointS_l0_X a0 (.inl x2)).2,Wk.ofk [] hk (by rfl) (by simp -implicitDefEqProofs [laws_heldPointS_l0_X,A2]) (by simp -implicitDefEqProofs [laws_heldPointS_l0_X,A2]),hR⟩
  ·replace H:=HS.cnd_f A2 H
   try simp -implicitDefEqProofs (maxSteps:=999999) [-selQ_sel,A2]
   obtain ⟨v4,A3,H⟩:=HS.bnd H
   try simp -implicitDefEqProofs (maxSteps:=999999) [-selQ_sel,A2,A3]
   refine Hid.brV (fun A4=>?_) (fun A4=>?_)
   ·replace H:=HS.cnd_t A4 H
    try simp -implicitDefEqProofs (maxSteps:=999999) [-selQ_sel,A2,A3,A4]
    refine Hid.brV (fun A5=>?_) (fun A5=>?_)
    ·replace H:=HS.cnd_t A5 H
     try simp -implicitDefEqProofs (maxSteps:=999999) [-selQ_sel,A2,A3,A4,A5]
     have hr:=(HS.some H).symm;subst hr
     exact Hid.mk ⟨laws_heldPointS_l0_S a0 ((IntKind.i64.wrap ((IntKind.i64.wrap (x2 + 1)) + 1)),(IntKind.i64.wrap (x3 + 1))),Wk.ofk [] hk (by rfl) (by simp -implicitDefEqProofs [laws_heldPointS_l0_S,A2,A3,A4,A5]) (by simp -implicitDefEqProofs [laws_heldPointS_l0_S,A2,A3,A4,A5]),hR⟩
    ·replace H:=HS.cnd_f A5 H
     try simp -implicitDefEqProofs (maxSteps:=999999) [-selQ_sel,A2,A3,A4,A5]
     have hr:=(HS.some H).symm;subst hr
     exact Hid.mk ⟨(laws_heldPointS_l0_X a0 (.inr ())).2,Wk.ofk [] hk (by rfl) (by simp -implicitDefEqProofs [laws_heldPointS_l0_X,A2,A3,A4,A5]) (by simp -implicitDefEqProofs [laws_heldPointS_l0_X,A2,A3,A4,A5]),hR⟩
   ·replace H:=HS.cnd_f A4 H
    try simp -implicitDefEqProofs (maxSteps:=999999) [-selQ_sel,A2,A3,A4]
    have hr:=(HS.some H).symm;subst hr
    exact Hid.mk ⟨(laws_heldPointS_l0_X a0 (.inr ())).2,Wk.ofk [] hk (by rfl) (by simp -implicitDefEqProofs [laws_heldPointS_l0_X,A2,A3,A4]) (by simp -implicitDefEqProofs [laws_heldPointS_l0_X,A2,A3,A4]),hR⟩
 ·rcases q with y5 | ⟨⟩
  ·dsimp only at H
   try simp -implicitDefEqProofs (maxSteps:=999999) [-selQ_sel,laws_heldPointS_l0_X]
   have hr:=(HS.some H).symm;subst hr
   refine Hid.mk ⟨_,Wk.refl _,?_⟩
   try simp -implicitDefEqProofs (maxSteps:=999999) [-selQ_sel]
  ·dsimp only at H
   try simp -implicitDefEqProofs (maxSteps:=999999) [-selQ_sel,laws_heldPointS_l0_X]
   have hr:=(HS.some H).symm;subst hr
   refine Hid.mk ⟨_,Wk.refl _,?_⟩
   try simp -implicitDefEqProofs (maxSteps:=999999) [-selQ_sel]
theorem laws_toPointS_ok0 (hm:Try.prog.follows .mixedOrders = true) (k_laws_toPoint:Sound Try.prog 106 laws_toPoint_x):Sound Try.prog 104 laws_toPointS_x:=by
 refine xOf_sound fun q r h=>?_
 revert h;revert r;revert q;intro a0 r h
 refine fn_ok E0 hm Try.func104 rfl (by decide +kernel) (by rfl) fun Γ hn hk=>?_
 dsimp only [laws_toPointS_e,laws_toPointS_v]
 replace hn:Γ.n = 23:=hn
 replace hk:Γ.k = 0:=hk
 have H:HS (laws_toPointS a0) r:=h
 clear h;unfold laws_toPointS at H
 try simp -implicitDefEqProofs at H
 refine Tr.of_vc (cl:=tabC [(106,laws_toPoint_x)]) (E:=E0) [] (tab_cons k_laws_toPoint tab_nil) hm (by rw [hn];decide +kernel) ?_
 try simp -implicitDefEqProofs (maxSteps:=999999) [-selQ_sel]
 obtain ⟨A1,H⟩:=HS.chkP H
 try simp -implicitDefEqProofs (maxSteps:=999999) [-selQ_sel,A1]
 obtain ⟨l1,A2,H⟩:=HS.nam H
 have E3:=congrArg (List.map ePoint) A2
 have D4:=congrArg List.length A2
 simp -implicitDefEqProofs at E3 D4
 try simp only [D4] at E3
 try simp only [D4] at A1
 try simp -implicitDefEqProofs (maxSteps:=999999) [-selQ_sel,A1,E3,D4]
 obtain ⟨q,A5,H⟩:=HS.bnd H
 refine Hid.mk (Tr.weak (s':=(laws_toPointS_l0_S a0) (0,l1)) (Wk.ofk [0] hk (by rfl) (by simp -implicitDefEqProofs [laws_toPointS_l0_S,A1,E3,D4]) (by simp -implicitDefEqProofs [laws_toPointS_l0_S,A1,E3,D4])) ?_)
 refine wp_loop_of (S:=(laws_toPointS_l0_S a0)) (f:=(laws_toPointS_l0 a0)) (xt:=(laws_toPointS_l0_X a0)) ?_ ?_ A5 ?_
 ·intro q;simp [laws_toPointS_l0_X]
 ·clear H A5 q
  rintro ⟨x6,x7⟩ o R hf hR
  have H:HS (laws_toPointS_l0 a0 (x6,x7)) o:=hf
  clear hf;unfold laws_toPointS_l0 at H
  try simp -implicitDefEqProofs at H
  refine Tr.of_vc (cl:=tabC [(106,laws_toPoint_x)]) (E:=E0) [] (tab_cons k_laws_toPoint tab_nil) hm (by rw [hn];decide +kernel) ?_
  try simp -implicitDefEqProofs (maxSteps:=999999) [-selQ_sel,laws_toPointS_l0_S]
  refine Hid.brV (fun A6=>?_) (fun A6=>?_)
  ·replace H:=HS.cnd_t A6 H
   try simp -implicitDefEqProofs (maxSteps:=999999) [-selQ_sel,A6]
   have hr:=(HS.some H).symm;subst hr
   exact Hid.mk ⟨(laws_toPointS_l0_X a0 x7).2,Wk.ofk [0] hk (by rfl) (by simp -implicitDefEqProofs [laws_toPointS_l0_X,A6]) (by simp -implicitDefEqProofs [laws_toPointS_l0_X,A6]),hR⟩
  ·replace H:=HS.cnd_f A6 H
   try simp -implicitDefEqProofs (maxSteps:=999999) [-selQ_sel,A6]
   obtain ⟨v8,A7,H⟩:=HS.bnd H
   try simp -implicitDefEqProofs (maxSteps:=999999) [-selQ_sel,A6,A7]
   obtain ⟨v9,A8,H⟩:=HS.bnd H
   try simp -implicitDefEqProofs (maxSteps:=999999) [-selQ_sel,A6,A7,A8]
   obtain ⟨v10,A9,H⟩:=HS.bnd H
   have B10:=idx_get A9
   try simp -implicitDefEqProofs (maxSteps:=999999) [-selQ_sel,A6,A7,A8,A9,B10]
   obtain ⟨l11,A11,H⟩:=HS.nam H
   have E12:=congrArg (List.map ePoint) A11
   have D13:=congrArg List.length A11
   simp -implicitDefEqProofs at E12 D13
   try simp only [D13] at E12
   try simp only [D13] at B10
   try simp -implicitDefEqProofs (maxSteps:=999999) [-selQ_sel,A6,A7,A8,A9,B10,E12,D13]
   have hr:=(HS.some H).symm;subst hr
   exact Hid.mk ⟨laws_toPointS_l0_S a0 ((IntKind.i64.wrap (x6 + 1)),l11),Wk.ofk [0] hk (by rfl) (by simp -implicitDefEqProofs [laws_toPointS_l0_S,A6,A7,A8,A9,B10,E12,D13]) (by simp -implicitDefEqProofs [laws_toPointS_l0_S,A6,A7,A8,A9,B10,E12,D13]),hR⟩
 ·revert H A5;revert q;intro y12 A5 H
  try dsimp only at H
  try simp -implicitDefEqProofs (maxSteps:=999999) [-selQ_sel,A1,E3,D4,laws_toPointS_l0_X]
  have hr:=(HS.some H).symm;subst hr
  refine Hid.mk ⟨⟨[(2,AV.osl 0 0 (List.length y12) (List.length y12))],[(0,Ob.arr 2 (List.map ePoint y12) false)],1⟩,Wk.ofk [0] hk (by rfl) (by simp -implicitDefEqProofs [A1,E3,D4]) (by simp -implicitDefEqProofs [A1,E3,D4]),?_⟩
  try simp -implicitDefEqProofs (maxSteps:=999999) [-selQ_sel,A1,E3,D4]
theorem impl_pointsOk_ok0 (hm:Try.prog.follows .mixedOrders = true) (k_impl_PointOk:Sound Try.prog 123 impl_PointOk_x):Sound Try.prog 120 impl_pointsOk_x:=by
 refine xOf_sound fun q r h=>?_
 revert h;revert r;revert q;intro a0 r h
 refine fn_ok E0 hm Try.func120 rfl (by decide +kernel) (by rfl) fun Γ hn hk=>?_
 dsimp only [impl_pointsOk_e,impl_pointsOk_v]
 replace hn:Γ.n = 15:=hn
 replace hk:Γ.k = 0:=hk
 have H:HS (impl_pointsOk a0) r:=h
 clear h;unfold impl_pointsOk at H
 try simp -implicitDefEqProofs at H
 refine Tr.of_vc (cl:=tabC [(123,impl_PointOk_x)]) (E:=E0) [] (tab_cons k_impl_PointOk tab_nil) hm (by rw [hn];decide +kernel) ?_
 try simp -implicitDefEqProofs (maxSteps:=999999) [-selQ_sel]
 obtain ⟨q,A1,H⟩:=HS.bnd H
 refine Hid.mk (Tr.weak (s':=(impl_pointsOk_l0_S a0) 0) (Wk.ofk [] hk (by rfl) (by simp -implicitDefEqProofs [impl_pointsOk_l0_S]) (by simp -implicitDefEqProofs [impl_pointsOk_l0_S])) ?_)
 refine wp_loop_of (S:=(impl_pointsOk_l0_S a0)) (f:=(impl_pointsOk_l0 a0)) (xt:=(impl_pointsOk_l0_X a0)) ?_ ?_ A1 ?_
 ·intro q;rcases q with ⟨⟩ | ⟨⟩ <;> simp [impl_pointsOk_l0_X]
 ·clear H A1 q
  rintro x3 o R hf hR
  have H:HS (impl_pointsOk_l0 a0 x3) o:=hf
  clear hf;unfold impl_pointsOk_l0 at H
  try simp -implicitDefEqProofs at H
  refine Tr.of_vc (cl:=tabC [(123,impl_PointOk_x)]) (E:=E0) [] (tab_cons k_impl_PointOk tab_nil) hm (by rw [hn];decide +kernel) ?_
  try simp -implicitDefEqProofs (maxSteps:=999999) [-selQ_sel,impl_pointsOk_l0_S]
  refine Hid.brV (fun A2=>?_) (fun A2=>?_)
  ·replace H:=HS.cnd_t A2 H
   try simp -implicitDefEqProofs (maxSteps:=999999) [-selQ_sel,A2]
   have hr:=(HS.some H).symm;subst hr
   exact Hid.mk ⟨(impl_pointsOk_l0_X a0 (.inl ())).2,Wk.ofk [] hk (by rfl) (by simp -implicitDefEqProofs [impl_pointsOk_l0_X,A2]) (by simp -implicitDefEqProofs [impl_pointsOk_l0_X,A2]),hR⟩
  ·replace H:=HS.cnd_f A2 H
   try simp -implicitDefEqProofs (maxSteps:=999999) [-selQ_sel,A2]
   obtain ⟨v4,A3,H⟩:=HS.bnd H
   try simp -implicitDefEqProofs (maxSteps:=999999) [-selQ_sel,A2,A3]
   obtain ⟨v5,A4,H⟩:=HS.bnd H
   try simp -implicitDefEqProofs (maxSteps:=999999) [-selQ_sel,A2,A3,A4]
   refine Hid.brV (fun A5=>?_) (fun A5=>?_)
   ·replace H:=HS.cnd_t A5 H
    try simp -implicitDefEqProofs (maxSteps:=999999) [-selQ_sel,A2,A3,A4,A5]
    have hr:=(HS.some H).symm;subst hr
    exact Hid.mk ⟨impl_pointsOk_l0_S a0 (IntKind.i64.wrap (x3 + 1)),Wk.ofk [] hk (by rfl) (by simp -implicitDefEqProofs [impl_pointsOk_l0_S,A2,A3,A4,A5]) (by simp -implicitDefEqProofs [impl_pointsOk_l0_S,A2,A3,A4,A5]),hR⟩
   ·replace H:=HS.cnd_f A5 H
    try simp -implicitDefEqProofs (maxSteps:=999999) [-selQ_sel,A2,A3,A4,A5]
    have hr:=(HS.some H).symm;subst hr
    exact Hid.mk ⟨(impl_pointsOk_l0_X a0 (.inr ())).2,Wk.ofk [] hk (by rfl) (by simp -implicitDefEqProofs [impl_pointsOk_l0_X,A2,A3,A4,A5]) (by simp -implicitDefEqProofs [impl_pointsOk_l0_X,A2,A3,A4,A5]),hR⟩
 ·rcases q with ⟨⟩ | ⟨⟩
  ·dsimp only at H
   try simp -implicitDefEqProofs (maxSteps:=999999) [-selQ_sel,impl_pointsOk_l0_X]
   have hr:=(HS.some H).symm;subst hr
   refine Hid.mk ⟨_,Wk.refl _,?_⟩
   try simp -implicitDefEqProofs (maxSteps:=999999) [-selQ_sel]
  ·dsimp only at H
   try simp -implicitDefEqProofs (maxSteps:=999999) [-selQ_sel,impl_pointsOk_l0_X]
   have hr:=(HS.some H).symm;subst hr
   refine Hid.mk ⟨_,Wk.refl _,?_⟩
   try simp -implicitDefEqProofs (maxSteps:=999999) [-selQ_sel]
theorem spec_l15Copy_ok0 (hm:Try.prog.follows .mixedOrders = true) (k_spec_l15CopyNode:Sound Try.prog 47 spec_l15CopyNode_x):Sound Try.prog 43 spec_l15Copy_x:=by
 refine xOf_sound fun q r h=>?_
 revert h;revert r;revert q;intro a0 r h
 refine fn_ok E0 hm Try.func43 rfl (by decide +kernel) (by rfl) fun Γ hn hk=>?_
 dsimp only [spec_l15Copy_e,spec_l15Copy_v]
 replace hn:Γ.n = 25:=hn
 replace hk:Γ.k = 0:=hk
 have H:HS (spec_l15Copy a0) r:=h
 clear h;unfold spec_l15Copy at H
 try simp -implicitDefEqProofs at H
 refine Tr.of_vc (cl:=tabC [(47,spec_l15CopyNode_x)]) (E:=E0) [] (tab_cons k_spec_l15CopyNode tab_nil) hm (by rw [hn];decide +kernel) ?_
 try simp -implicitDefEqProofs +decide (maxSteps:=999999) [-selQ_sel,hokQ_of]
 obtain ⟨q,A1,H⟩:=HS.bnd H
 refine Hid.mk (Tr.weak (s':=(spec_l15Copy_l0_S a0) (0,[])) (Wk.ofk [0,1,2,3] hk (by rfl) (by simp -implicitDefEqProofs [spec_l15Copy_l0_S]) (by simp -implicitDefEqProofs [spec_l15Copy_l0_S])) ?_)
 refine wp_loop_of (S:=(spec_l15Copy_l0_S a0)) (f:=(spec_l15Copy_l0 a0)) (xt:=(spec_l15Copy_l0_X a0)) ?_ ?_ A1 ?_
 ·intro q;simp [spec_l15Copy_l0_X]
 ·clear H A1 q
  rintro ⟨x3,x4⟩ o R hf hR
  have H:HS (spec_l15Copy_l0 a0 (x3,x4)) o:=hf
  clear hf;unfold spec_l15Copy_l0 at H
  try simp -implicitDefEqProofs at H
  refine Tr.of_vc (cl:=tabC [(47,spec_l15CopyNode_x)]) (E:=E0) [] (tab_cons k_spec_l15CopyNode tab_nil) hm (by rw [hn];decide +kernel) ?_
  try simp -implicitDefEqProofs +decide (maxSteps:=999999) [-selQ_sel,hokQ_of,spec_l15Copy_l0_S]
  refine Hid.brV (fun A2=>?_) (fun A2=>?_)
  ·replace H:=HS.cnd_t A2 H
   try simp -implicitDefEqProofs +decide (maxSteps:=999999) [-selQ_sel,hokQ_of,A2]
   have hr:=(HS.some H).symm;subst hr
   exact Hid.mk ⟨(spec_l15Copy_l0_X a0 x4).2,Wk.ofk [1,2,3] hk (by rfl) (by simp -implicitDefEqProofs [spec_l15Copy_l0_X,A2]) (by simp -implicitDefEqProofs [spec_l15Copy_l0_X,A2]),hR⟩
  ·replace H:=HS.cnd_f A2 H
   try simp -implicitDefEqProofs +decide (maxSteps:=999999) [-selQ_sel,hokQ_of,A2]
   obtain ⟨v5,A3,H⟩:=HS.bnd H
   try simp -implicitDefEqProofs +decide (maxSteps:=999999) [-selQ_sel,hokQ_of,A2,A3]
   obtain ⟨v6,A4,H⟩:=HS.bnd H
   try simp -implicitDefEqProofs +decide (maxSteps:=999999) [-selQ_sel,hokQ_of,A2,A3,A4]
   obtain ⟨A5,H⟩:=HS.chkP H
   try simp -implicitDefEqProofs +decide (maxSteps:=999999) [-selQ_sel,hokQ_of,A2,A3,A4,A5]
   obtain ⟨l7,A6,H⟩:=HS.nam H
   have E7:=congrArg (List.map eNode) A6
   have D8:=congrArg List.length A6
   simp -implicitDefEqProofs at E7 D8
   try simp only [D8] at E7
   try simp only [D8] at A5
   try simp -implicitDefEqProofs +decide (maxSteps:=999999) [-selQ_sel,hokQ_of,A2,A3,A4,A5,E7,D8]
   have hr:=(HS.some H).symm;subst hr
   exact Hid.mk ⟨spec_l15Copy_l0_S a0 ((IntKind.i64.wrap (x3 + 1)),l7),Wk.ofk [0,1,2,3] hk (by rfl) (by simp -implicitDefEqProofs [spec_l15Copy_l0_S,A2,A3,A4,A5,E7,D8]) (by simp -implicitDefEqProofs [spec_l15Copy_l0_S,A2,A3,A4,A5,E7,D8]),hR⟩
 ·revert H A1;revert q;intro y8 A1 H
  try dsimp only at H
  try simp -implicitDefEqProofs +decide (maxSteps:=999999) [-selQ_sel,hokQ_of,spec_l15Copy_l0_X]
  have hr:=(HS.some H).symm;subst hr
  refine Hid.mk ⟨_,Wk.refl _,?_⟩
  try simp -implicitDefEqProofs +decide (maxSteps:=999999) [-selQ_sel,hokQ_of]
theorem impl_Scene_isPlace_ok0 (hm:Try.prog.follows .mixedOrders = true) (k_impl_NodeAt:Sound Try.prog 13 impl_NodeAt_x) (k_impl_Scene_isParent:Sound Try.prog 51 impl_Scene_isParent_x):Sound Try.prog 36 impl_Scene_isPlace_x:=by
 refine xOf_sound fun q r h=>?_
 obtain ⟨a0,a1,a2,a3⟩:=q
 refine fn_ok E0 hm Try.func36 rfl (by decide +kernel) (by rfl) fun Γ hn hk=>?_
 dsimp only [impl_Scene_isPlace_e,impl_Scene_isPlace_v]
 replace hn:Γ.n = 36:=hn
 replace hk:Γ.k = 0:=hk
 have H:HS (impl_Scene_isPlace a0 a1 a2 a3) r:=h
 clear h;unfold impl_Scene_isPlace at H
 try simp -implicitDefEqProofs at H
 refine Tr.of_vc (cl:=tabC [(13,impl_NodeAt_x),(51,impl_Scene_isParent_x)]) (E:=E0) [] (tab_cons k_impl_NodeAt (tab_cons k_impl_Scene_isParent tab_nil)) hm (by rw [hn];decide +kernel) ?_
 try simp -implicitDefEqProofs (maxSteps:=999999) [-selQ_sel]
 obtain ⟨v1,A1,H⟩:=HS.bnd H
 try simp -implicitDefEqProofs (maxSteps:=999999) [-selQ_sel,A1]
 refine Hid.selQ (fun A2=>?_) (fun A2=>?_)
 ·replace H:=HS.cnd_t A2 H
  try simp -implicitDefEqProofs (maxSteps:=999999) [-selQ_sel,A1,A2]
  obtain ⟨v2,A3,H⟩:=HS.bnd H
  try simp -implicitDefEqProofs (maxSteps:=999999) [-selQ_sel,A1,A2,A3]
  refine Hid.brV (fun A4=>?_) (fun A4=>?_)
  ·replace H:=HS.cnd_t A4 H
   try simp -implicitDefEqProofs (maxSteps:=999999) [-selQ_sel,A1,A2,A3,A4]
   refine Hid.selQ (fun A5=>?_) (fun A5=>?_)
   ·replace H:=HS.cnd_t A5 H
    try simp -implicitDefEqProofs (maxSteps:=999999) [-selQ_sel,A1,A2,A3,A4,A5]
    have hr:=(HS.some H).symm;subst hr
    refine Hid.mk ⟨_,Wk.refl _,?_⟩
    try simp -implicitDefEqProofs (maxSteps:=999999) [-selQ_sel,A1,A2,A3,A4,A5]
   ·replace H:=HS.cnd_f A5 H
    try simp -implicitDefEqProofs (maxSteps:=999999) [-selQ_sel,A1,A2,A3,A4,A5]
    refine Hid.selQ (fun A6=>?_) (fun A6=>?_)
    ·replace H:=HS.cnd_t A6 H
     try simp -implicitDefEqProofs (maxSteps:=999999) [-selQ_sel,A1,A2,A3,A4,A5,A6]
     have hr:=(HS.some H).symm;subst hr
     refine Hid.mk ⟨_,Wk.refl _,?_⟩
     try simp -implicitDefEqProofs (maxSteps:=999999) [-selQ_sel,A1,A2,A3,A4,A5,A6]
    ·replace H:=HS.cnd_f A6 H
     try simp -implicitDefEqProofs (maxSteps:=999999) [-selQ_sel,A1,A2,A3,A4,A5,A6]
     obtain ⟨v3,A7,H⟩:=HS.bnd H
     try simp -implicitDefEqProofs (maxSteps:=999999) [-selQ_sel,A1,A2,A3,A4,A5,A6,A7]
     have hr:=(HS.some H).symm;subst hr
     refine Hid.mk ⟨_,Wk.refl _,?_⟩
     try simp -implicitDefEqProofs (maxSteps:=999999) [-selQ_sel,A1,A2,A3,A4,A5,A6,A7]
  ·replace H:=HS.cnd_f A4 H
   try simp -implicitDefEqProofs (maxSteps:=999999) [-selQ_sel,A1,A2,A3,A4]
   have hr:=(HS.some H).symm;subst hr
   refine Hid.mk ⟨_,Wk.refl _,?_⟩
   try simp -implicitDefEqProofs (maxSteps:=999999) [-selQ_sel,A1,A2,A3,A4]
 ·replace H:=HS.cnd_f A2 H
  try simp -implicitDefEqProofs (maxSteps:=999999) [-selQ_sel,A1,A2]
  have hr:=(HS.some H).symm;subst hr
  refine Hid.mk ⟨_,Wk.refl _,?_⟩
  try simp -implicitDefEqProofs (maxSteps:=999999) [-selQ_sel,A1,A2]
theorem laws_toNode_ok0 (hm:Try.prog.follows .mixedOrders = true) (k_laws_toMat:Sound Try.prog 60 laws_toMat_x) (k_laws_toPath:Sound Try.prog 61 laws_toPath_x) (k_laws_toIntS:Sound Try.prog 62 laws_toIntS_x) (k_laws_toPaint:Sound Try.prog 63 laws_toPaint_x):Sound Try.prog 20 laws_toNode_x:=by
 refine xOf_sound fun q r h=>?_
 revert h;revert r;revert q;intro a0 r h
 refine fn_ok E0 hm Try.func20 rfl (by decide +kernel) (by rfl) fun Γ hn hk=>?_
 dsimp only [laws_toNode_e,laws_toNode_v]
 replace hn:Γ.n = 46:=hn
 replace hk:Γ.k = 0:=hk
 have H:HS (laws_toNode a0) r:=h
 clear h;unfold laws_toNode at H
 try simp -implicitDefEqProofs at H
 refine Tr.of_vc (cl:=tabC [(60,laws_toMat_x),(61,laws_toPath_x),(62,laws_toIntS_x),(63,laws_toPaint_x)]) (E:=E0) [] (tab_cons k_laws_toMat (tab_cons k_laws_toPath (tab_cons k_laws_toIntS (tab_cons k_laws_toPaint tab_nil)))) hm (by rw [hn];decide +kernel) ?_
 try simp -implicitDefEqProofs (maxSteps:=999999) [-selQ_sel]
 obtain ⟨v1,A1,H⟩:=HS.bnd H
 try simp -implicitDefEqProofs (maxSteps:=999999) [-selQ_sel,A1]
 obtain ⟨⟨w3,w4⟩,A2,H⟩:=HS.bnd H
 dsimp only at H
 try simp -implicitDefEqProofs (maxSteps:=999999) [-selQ_sel,A1,A2]
 obtain ⟨v5,A3,H⟩:=HS.bnd H
 try simp -implicitDefEqProofs (maxSteps:=999999) [-selQ_sel,A1,A2,A3]
 obtain ⟨v6,A4,H⟩:=HS.bnd H
 try simp -implicitDefEqProofs (maxSteps:=999999) [-selQ_sel,A1,A2,A3,A4]
 obtain ⟨⟨w8,w9⟩,A5,H⟩:=HS.bnd H
 dsimp only at H
 try simp -implicitDefEqProofs (maxSteps:=999999) [-selQ_sel,A1,A2,A3,A4,A5]
 have hr:=(HS.some H).symm;subst hr
 refine Hid.mk ⟨⟨[(2,AV.optr 0 0 31)],[(0,Ob.box [AV.int .i64 a0.id,AV.int .i64 a0.parent,AV.bool a0.group,AV.int .i64 v1.a,AV.int .i64 v1.b,AV.int .i64 v1.c,AV.int .i64 v1.d,AV.int .i64 v1.e,AV.int .i64 v1.f,AV.osl 1 0 (List.length w3) (List.length w3),AV.osl 2 0 (List.length w4) (List.length w4),AV.bool a0.even,AV.int .i64 a0.width,AV.osl 3 0 (List.length v5) (List.length v5),AV.int .i64 v6.kind,AV.int .i64 v6.first.r,AV.int .i64 v6.first.g,AV.int .i64 v6.first.b,AV.int .i64 v6.first.a,AV.int .i64 v6.last.r,AV.int .i64 v6.last.g,AV.int .i64 v6.last.b,AV.int .i64 v6.last.a,AV.int .i64 v6.from_.x,AV.int .i64 v6.from_.y,AV.int .i64 v6.to.x,AV.int .i64 v6.to.y,AV.int .i64 a0.mode,AV.int .i64 a0.fade,AV.osl 4 0 (List.length w8) (List.length w8),AV.osl 5 0 (List.length w9) (List.length w9)]),(1,Ob.arr 1 (List.map (AV.int .i64) w3) false),(2,Ob.arr 2 (List.map ePoint w4) false),(3,Ob.arr 1 (List.map (AV.int .i64) v5) false),(4,Ob.arr 1 (List.map (AV.int .i64) w8) false),(5,Ob.arr 2 (List.map ePoint w9) false)],6⟩,Wk.ofk [1,3,4,5,6,7] hk (by rfl) (by simp -implicitDefEqProofs [A1,A2,A3,A4,A5]) (by simp -implicitDefEqProofs [A1,A2,A3,A4,A5]),?_⟩
 try simp -implicitDefEqProofs (maxSteps:=999999) [-selQ_sel,A1,A2,A3,A4,A5]
theorem spec_ColorOk_ok0 (hm:Try.prog.follows .mixedOrders = true) (k_spec_l01In:Sound Try.prog 87 spec_l01In_x):Sound Try.prog 126 spec_ColorOk_x:=by
 refine xOf_sound fun q r h=>?_
 revert h;revert r;revert q;intro a0 r h
 refine fn_ok E0 hm Try.func126 rfl (by decide +kernel) (by rfl) fun Γ hn hk=>?_
 dsimp only [spec_ColorOk_e,spec_ColorOk_v]
 replace hn:Γ.n = 21:=hn
 replace hk:Γ.k = 0:=hk
 have H:HS (spec_ColorOk a0) r:=h
 clear h;unfold spec_ColorOk at H
 try simp -implicitDefEqProofs at H
 refine Tr.of_vc (cl:=tabC [(87,spec_l01In_x)]) (E:=E0) [] (tab_cons k_spec_l01In tab_nil) hm (by rw [hn];decide +kernel) ?_
 try simp -implicitDefEqProofs (maxSteps:=999999) [-selQ_sel]
 obtain ⟨v1,A1,H⟩:=HS.bnd H
 try simp -implicitDefEqProofs (maxSteps:=999999) [-selQ_sel,A1]
 refine Hid.selQ (fun A2=>?_) (fun A2=>?_)
 ·replace H:=HS.cnd_t A2 H
  try simp -implicitDefEqProofs (maxSteps:=999999) [-selQ_sel,A1,A2]
  obtain ⟨v2,A3,H⟩:=HS.bnd H
  try simp -implicitDefEqProofs (maxSteps:=999999) [-selQ_sel,A1,A2,A3]
  refine Hid.selQ (fun A4=>?_) (fun A4=>?_)
  ·replace H:=HS.cnd_t A4 H
   try simp -implicitDefEqProofs (maxSteps:=999999) [-selQ_sel,A1,A2,A3,A4]
   obtain ⟨v3,A5,H⟩:=HS.bnd H
   try simp -implicitDefEqProofs (maxSteps:=999999) [-selQ_sel,A1,A2,A3,A4,A5]
   refine Hid.selQ (fun A6=>?_) (fun A6=>?_)
   ·replace H:=HS.cnd_t A6 H
    try simp -implicitDefEqProofs (maxSteps:=999999) [-selQ_sel,A1,A2,A3,A4,A5,A6]
    obtain ⟨v4,A7,H⟩:=HS.bnd H
    try simp -implicitDefEqProofs (maxSteps:=999999) [-selQ_sel,A1,A2,A3,A4,A5,A6,A7]
    have hr:=(HS.some H).symm;subst hr
    refine Hid.mk ⟨_,Wk.refl _,?_⟩
    try simp -implicitDefEqProofs (maxSteps:=999999) [-selQ_sel,A1,A2,A3,A4,A5,A6,A7]
   ·replace H:=HS.cnd_f A6 H
    try simp -implicitDefEqProofs (maxSteps:=999999) [-selQ_sel,A1,A2,A3,A4,A5,A6]
    have hr:=(HS.some H).symm;subst hr
    refine Hid.mk ⟨_,Wk.refl _,?_⟩
    try simp -implicitDefEqProofs (maxSteps:=999999) [-selQ_sel,A1,A2,A3,A4,A5,A6]
  ·replace H:=HS.cnd_f A4 H
   try simp -implicitDefEqProofs (maxSteps:=999999) [-selQ_sel,A1,A2,A3,A4]
   have hr:=(HS.some H).symm;subst hr
   refine Hid.mk ⟨_,Wk.refl _,?_⟩
   try simp -implicitDefEqProofs (maxSteps:=999999) [-selQ_sel,A1,A2,A3,A4]
 ·replace H:=HS.cnd_f A2 H
  try simp -implicitDefEqProofs (maxSteps:=999999) [-selQ_sel,A1,A2]
  have hr:=(HS.some H).symm;subst hr
  refine Hid.mk ⟨_,Wk.refl _,?_⟩
  try simp -implicitDefEqProofs (maxSteps:=999999) [-selQ_sel,A1,A2]
theorem laws_eqColor_ok0 (hm:Try.prog.follows .mixedOrders = true):Sound Try.prog 110 laws_eqColor_x:=by
 refine xOf_sound fun q r h=>?_
 obtain ⟨a0,a1⟩:=q
 refine fn_ok E0 hm Try.func110 rfl (by decide +kernel) (by rfl) fun Γ hn hk=>?_
 dsimp only [laws_eqColor_e,laws_eqColor_v]
 replace hn:Γ.n = 25:=hn
 replace hk:Γ.k = 0:=hk
 have H:HS (laws_eqColor a0 a1) r:=h
 clear h;unfold laws_eqColor at H
 try simp -implicitDefEqProofs at H
 refine Tr.of_vc (cl:=tabC []) (E:=E0) [] tab_nil hm (by rw [hn];decide +kernel) ?_
 try simp -implicitDefEqProofs (maxSteps:=999999) [-selQ_sel]
 refine Hid.brV (fun A1=>?_) (fun A1=>?_)
 ·replace H:=HS.cnd_t A1 H
  try simp -implicitDefEqProofs (maxSteps:=999999) [-selQ_sel,A1]
  refine Hid.brV (fun A2=>?_) (fun A2=>?_)
  ·replace H:=HS.cnd_t A2 H
   try simp -implicitDefEqProofs (maxSteps:=999999) [-selQ_sel,A1,A2]
   refine Hid.brV (fun A3=>?_) (fun A3=>?_)
   ·replace H:=HS.cnd_t A3 H
    try simp -implicitDefEqProofs (maxSteps:=999999) [-selQ_sel,A1,A2,A3]
    refine Hid.brV (fun A4=>?_) (fun A4=>?_)
    ·replace H:=HS.cnd_t A4 H
     try simp -implicitDefEqProofs (maxSteps:=999999) [-selQ_sel,A1,A2,A3,A4]
     have hr:=(HS.some H).symm;subst hr
     refine Hid.mk ⟨_,Wk.refl _,?_⟩
     try simp -implicitDefEqProofs (maxSteps:=999999) [-selQ_sel,A1,A2,A3,A4]
    ·replace H:=HS.cnd_f A4 H
     try simp -implicitDefEqProofs (maxSteps:=999999) [-selQ_sel,A1,A2,A3,A4]
     have hr:=(HS.some H).symm;subst hr
     refine Hid.mk ⟨_,Wk.refl _,?_⟩
     try simp -implicitDefEqProofs (maxSteps:=999999) [-selQ_sel,A1,A2,A3,A4]
   ·replace H:=HS.cnd_f A3 H
    try simp -implicitDefEqProofs (maxSteps:=999999) [-selQ_sel,A1,A2,A3]
    have hr:=(HS.some H).symm;subst hr
    refine Hid.mk ⟨_,Wk.refl _,?_⟩
    try simp -implicitDefEqProofs (maxSteps:=999999) [-selQ_sel,A1,A2,A3]
  ·replace H:=HS.cnd_f A2 H
   try simp -implicitDefEqProofs (maxSteps:=999999) [-selQ_sel,A1,A2]
   have hr:=(HS.some H).symm;subst hr
   refine Hid.mk ⟨_,Wk.refl _,?_⟩
   try simp -implicitDefEqProofs (maxSteps:=999999) [-selQ_sel,A1,A2]
 ·replace H:=HS.cnd_f A1 H
  try simp -implicitDefEqProofs (maxSteps:=999999) [-selQ_sel,A1]
  have hr:=(HS.some H).symm;subst hr
  refine Hid.mk ⟨_,Wk.refl _,?_⟩
  try simp -implicitDefEqProofs (maxSteps:=999999) [-selQ_sel,A1]
theorem slices_Clone_int_ok0 (hm:Try.prog.follows .mixedOrders = true):Sound Try.prog 108 slices_Clone_int_x:=by
 refine xOf_sound fun q r h=>?_
 revert h;revert r;revert q;intro a0 r h
 refine fn_ok E0 hm Try.func108 rfl (by decide +kernel) (by rfl) fun Γ hn hk=>?_
 dsimp only [slices_Clone_int_e,slices_Clone_int_v]
 replace hn:Γ.n = 8:=hn
 replace hk:Γ.k = 0:=hk
 have H:HS (slices_Clone_int a0) r:=h
 clear h;unfold slices_Clone_int at H
 obtain ⟨A1,H⟩:=HS.chkP H
 have hr:=(HS.some H).symm;subst hr
 refine Tr.of_vc (cl:=tabC []) (E:=E0) [1] tab_nil hm (by rw [hn];decide +kernel) ?_
 simp -implicitDefEqProofs [-selQ_sel]
 refine Hid.mk (Tr_nil (E:=E0) tab_nil (h1:=rfl) (hd1:=fun d h=>by cases h;rw [hn];decide) (ho:=rfl) (hg:=rfl) (hd:=rfl) (hdn:=by rw [hn];decide) (hu:=elt_36) (hx:=rfl) fun b hb=>?_)
 refine Tr.of_vc (cl:=tabC []) (E:=E0) [] tab_nil hm (by rw [hn];decide +kernel) ?_
 simp -implicitDefEqProofs [-selQ_sel,aft,putT]
 refine Hid.brV (fun A2=>?_) (fun A2=>?_)
 ·simp -implicitDefEqProofs [-selQ_sel]
  have A3:=hb A2;simp at A3;subst A3
  refine Hid.mk ⟨_,Wk.refl _,?_⟩
  simp -implicitDefEqProofs [-selQ_sel,A1]
  refine ⟨⟨[(2,AV.osl 0 0 0 0)],[(0,Ob.arr 1 (List.map (AV.int .i64) []) false)],1⟩,Wk.ofk [0] hk (by rfl) (by simp -implicitDefEqProofs) (by simp -implicitDefEqProofs),?_⟩
  simp -implicitDefEqProofs [-selQ_sel,A1]
 ·simp -implicitDefEqProofs [-selQ_sel]
  refine Hid.mk ⟨_,Wk.refl _,?_⟩
  simp -implicitDefEqProofs [-selQ_sel,A1]
  refine ⟨⟨[(2,AV.osl 0 0 (List.length a0) (List.length a0))],[(0,Ob.arr 1 (List.map (AV.int .i64) a0) false)],1⟩,Wk.ofk [0] hk (by rfl) (by simp -implicitDefEqProofs) (by simp -implicitDefEqProofs),?_⟩
  simp -implicitDefEqProofs [-selQ_sel,A1]
theorem spec_NeedOf_ok0 (hm:Try.prog.follows .mixedOrders = true) (k_spec_l01In:Sound Try.prog 87 spec_l01In_x):Sound Try.prog 124 spec_NeedOf_x:=by
 refine xOf_sound fun q r h=>?_
 revert h;revert r;revert q;intro a0 r h
 refine fn_ok E0 hm Try.func124 rfl (by decide +kernel) (by rfl) fun Γ hn hk=>?_
 dsimp only [spec_NeedOf_e,spec_NeedOf_v]
 replace hn:Γ.n = 13:=hn
 replace hk:Γ.k = 0:=hk
 have H:HS (spec_NeedOf a0) r:=h
 clear h;unfold spec_NeedOf at H
 try simp -implicitDefEqProofs at H
 refine Tr.of_vc (cl:=tabC [(87,spec_l01In_x)]) (E:=E0) [] (tab_cons k_spec_l01In tab_nil) hm (by rw [hn];decide +kernel) ?_
 try simp -implicitDefEqProofs (maxSteps:=999999) [-selQ_sel]
 obtain ⟨v1,A1,H⟩:=HS.bnd H
 try simp -implicitDefEqProofs (maxSteps:=999999) [-selQ_sel,A1]
 refine Hid.brV (fun A2=>?_) (fun A2=>?_)
 ·replace H:=HS.cnd_t A2 H
  try simp -implicitDefEqProofs (maxSteps:=999999) [-selQ_sel,A1,A2]
  obtain ⟨v2,A3,H⟩:=HS.bnd H
  have B4:=idx_get A3
  have B5:=idx_map (e:=(AV.int .i64)) A3
  have B6:=idx_get B5
  simp -implicitDefEqProofs at B5 B6
  try simp -implicitDefEqProofs (maxSteps:=999999) [-selQ_sel,A1,A2,A3,B4,B5,B6]
  have hr:=(HS.some H).symm;subst hr
  refine Hid.mk ⟨_,Wk.refl _,?_⟩
  try simp -implicitDefEqProofs (maxSteps:=999999) [-selQ_sel,A1,A2,A3,B4,B5,B6]
 ·replace H:=HS.cnd_f A2 H
  try simp -implicitDefEqProofs (maxSteps:=999999) [-selQ_sel,A1,A2]
  have hr:=(HS.some H).symm;subst hr
  refine Hid.mk ⟨_,Wk.refl _,?_⟩
  try simp -implicitDefEqProofs (maxSteps:=999999) [-selQ_sel,A1,A2]
theorem spec_l15CopyNode_ok0 (hm:Try.prog.follows .mixedOrders = true) (k_spec_l15CopyPath:Sound Try.prog 88 spec_l15CopyPath_x):Sound Try.prog 47 spec_l15CopyNode_x:=by
 refine xOf_sound fun q r h=>?_
 revert h;revert r;revert q;intro a0 r h
 refine fn_ok E0 hm Try.func47 rfl (by decide +kernel) (by rfl) fun Γ hn hk=>?_
 dsimp only [spec_l15CopyNode_e,spec_l15CopyNode_v]
 replace hn:Γ.n = 17:=hn
 replace hk:Γ.k = 0:=hk
 have H:HS (spec_l15CopyNode a0) r:=h
 clear h;unfold spec_l15CopyNode at H
 try simp -implicitDefEqProofs at H
 refine Tr.of_vc (cl:=tabC [(88,spec_l15CopyPath_x)]) (E:=E0) [] (tab_cons k_spec_l15CopyPath tab_nil) hm (by rw [hn];decide +kernel) ?_
 try simp -implicitDefEqProofs (maxSteps:=999999) [-selQ_sel]
 obtain ⟨v1,A1,H⟩:=HS.bnd H
 try simp -implicitDefEqProofs (maxSteps:=999999) [-selQ_sel,A1]
 obtain ⟨v2,A2,H⟩:=HS.bnd H
 try simp -implicitDefEqProofs (maxSteps:=999999) [-selQ_sel,A1,A2]
 obtain ⟨A3,H⟩:=HS.chkP H
 try simp -implicitDefEqProofs (maxSteps:=999999) [-selQ_sel,A1,A2,A3]
 obtain ⟨l3,A4,H⟩:=HS.nam H
 have E5:=congrArg (List.map (AV.int .i64)) A4
 have D6:=congrArg List.length A4
 simp -implicitDefEqProofs at E5 D6
 try simp only [D6] at E5
 try simp only [D6] at A3
 try simp -implicitDefEqProofs (maxSteps:=999999) [-selQ_sel,A1,A2,A3,E5,D6]
 have hr:=(HS.some H).symm;subst hr
 refine Hid.mk ⟨_,Wk.refl _,?_⟩
 try simp -implicitDefEqProofs (maxSteps:=999999) [-selQ_sel,A1,A2,A3,E5,D6]
theorem laws_toPath_ok0 (hm:Try.prog.follows .mixedOrders = true) (k_laws_toIntS:Sound Try.prog 62 laws_toIntS_x) (k_laws_toPointS:Sound Try.prog 104 laws_toPointS_x):Sound Try.prog 61 laws_toPath_x:=by
 refine xOf_sound fun q r h=>?_
 revert h;revert r;revert q;intro a0 r h
 refine fn_ok E0 hm Try.func61 rfl (by decide +kernel) (by rfl) fun Γ hn hk=>?_
 dsimp only [laws_toPath_e,laws_toPath_v]
 replace hn:Γ.n = 13:=hn
 replace hk:Γ.k = 0:=hk
 have H:HS (laws_toPath a0) r:=h
 clear h;unfold laws_toPath at H
 try simp -implicitDefEqProofs at H
 refine Tr.of_vc (cl:=tabC [(62,laws_toIntS_x),(104,laws_toPointS_x)]) (E:=E0) [] (tab_cons k_laws_toIntS (tab_cons k_laws_toPointS tab_nil)) hm (by rw [hn];decide +kernel) ?_
 try simp -implicitDefEqProofs (maxSteps:=999999) [-selQ_sel]
 obtain ⟨v1,A1,H⟩:=HS.bnd H
 try simp -implicitDefEqProofs (maxSteps:=999999) [-selQ_sel,A1]
 obtain ⟨v2,A2,H⟩:=HS.bnd H
 try simp -implicitDefEqProofs (maxSteps:=999999) [-selQ_sel,A1,A2]
 have hr:=(HS.some H).symm;subst hr
 refine Hid.mk ⟨⟨[(2,AV.optr 0 0 2)],[(0,Ob.box [AV.osl 1 0 (List.length v1) (List.length v1),AV.osl 2 0 (List.length v2) (List.length v2)]),(1,Ob.arr 1 (List.map (AV.int .i64) v1) false),(2,Ob.arr 2 (List.map ePoint v2) false)],3⟩,Wk.ofk [1,3,4] hk (by rfl) (by simp -implicitDefEqProofs [A1,A2]) (by simp -implicitDefEqProofs [A1,A2]),?_⟩
 try simp -implicitDefEqProofs (maxSteps:=999999) [-selQ_sel,A1,A2]
theorem laws_szScene_ok0 (hm:Try.prog.follows .mixedOrders = true) (k_laws_szNodeS:Sound Try.prog 54 laws_szNodeS_x):Sound Try.prog 16 laws_szScene_x:=by
 refine xOf_sound fun q r h=>?_
 obtain ⟨a0,a1⟩:=q
 refine fn_ok E0 hm Try.func16 rfl (by decide +kernel) (by rfl) fun Γ hn hk=>?_
 dsimp only [laws_szScene_e,laws_szScene_v]
 replace hn:Γ.n = 12:=hn
 replace hk:Γ.k = 0:=hk
 have H:HS (laws_szScene a0 a1) r:=h
 clear h;unfold laws_szScene at H
 try simp -implicitDefEqProofs at H
 refine Tr.of_vc (cl:=tabC [(54,laws_szNodeS_x)]) (E:=E0) [] (tab_cons k_laws_szNodeS tab_nil) hm (by rw [hn];decide +kernel) ?_
 try simp -implicitDefEqProofs (maxSteps:=999999) [-selQ_sel]
 obtain ⟨v1,A1,H⟩:=HS.bnd H
 try simp -implicitDefEqProofs (maxSteps:=999999) [-selQ_sel,A1]
 refine Hid.brV (fun A2=>?_) (fun A2=>?_)
 ·replace H:=HS.cnd_t A2 H
  try simp -implicitDefEqProofs (maxSteps:=999999) [-selQ_sel,A1,A2]
  have hr:=(HS.some H).symm;subst hr
  refine Hid.mk ⟨_,Wk.refl _,?_⟩
  try simp -implicitDefEqProofs (maxSteps:=999999) [-selQ_sel,A1,A2]
 ·replace H:=HS.cnd_f A2 H
  try simp -implicitDefEqProofs (maxSteps:=999999) [-selQ_sel,A1,A2]
  have hr:=(HS.some H).symm;subst hr
  refine Hid.mk ⟨_,Wk.refl _,?_⟩
  try simp -implicitDefEqProofs (maxSteps:=999999) [-selQ_sel,A1,A2]
theorem impl_Path_isNone_ok0 (hm:Try.prog.follows .mixedOrders = true):Sound Try.prog 94 impl_Path_isNone_x:=by
 refine xOf_sound fun q r h=>?_
 revert h;revert r;revert q;intro a0 r h
 refine fn_ok E0 hm Try.func94 rfl (by decide +kernel) (by rfl) fun Γ hn hk=>?_
 dsimp only [impl_Path_isNone_e,impl_Path_isNone_v]
 replace hn:Γ.n = 13:=hn
 replace hk:Γ.k = 0:=hk
 have H:HS (impl_Path_isNone a0) r:=h
 clear h;unfold impl_Path_isNone at H
 try simp -implicitDefEqProofs at H
 refine Tr.of_vc (cl:=tabC []) (E:=E0) [] tab_nil hm (by rw [hn];decide +kernel) ?_
 try simp -implicitDefEqProofs (maxSteps:=999999) [-selQ_sel]
 refine Hid.selQ (fun A1=>?_) (fun A1=>?_)
 ·replace H:=HS.cnd_t A1 H
  try simp -implicitDefEqProofs (maxSteps:=999999) [-selQ_sel,A1]
  have hr:=(HS.some H).symm;subst hr
  refine Hid.mk ⟨_,Wk.refl _,?_⟩
  try simp -implicitDefEqProofs (maxSteps:=999999) [-selQ_sel,A1]
 ·replace H:=HS.cnd_f A1 H
  try simp -implicitDefEqProofs (maxSteps:=999999) [-selQ_sel,A1]
  have hr:=(HS.some H).symm;subst hr
  refine Hid.mk ⟨_,Wk.refl _,?_⟩
  try simp -implicitDefEqProofs (maxSteps:=999999) [-selQ_sel,A1]
theorem laws_szPointS_ok0 (hm:Try.prog.follows .mixedOrders = true):Sound Try.prog 97 laws_szPointS_x:=by
 refine xOf_sound fun q r h=>?_
 obtain ⟨a0,a1⟩:=q
 refine fn_ok E0 hm Try.func97 rfl (by decide +kernel) (by rfl) fun Γ hn hk=>?_
 dsimp only [laws_szPointS_e,laws_szPointS_v]
 replace hn:Γ.n = 12:=hn
 replace hk:Γ.k = 0:=hk
 have H:HS (laws_szPointS a0 a1) r:=h
 clear h;unfold laws_szPointS at H
 try simp -implicitDefEqProofs at H
 refine Tr.of_vc (cl:=tabC []) (E:=E0) [] tab_nil hm (by rw [hn];decide +kernel) ?_
 try simp -implicitDefEqProofs (maxSteps:=999999) [-selQ_sel]
 refine Hid.brV (fun A1=>?_) (fun A1=>?_)
 ·replace H:=HS.cnd_t A1 H
  try simp -implicitDefEqProofs (maxSteps:=999999) [-selQ_sel,A1]
  have hr:=(HS.some H).symm;subst hr
  refine Hid.mk ⟨_,Wk.refl _,?_⟩
  try simp -implicitDefEqProofs (maxSteps:=999999) [-selQ_sel,A1]
 ·replace H:=HS.cnd_f A1 H
  try simp -implicitDefEqProofs (maxSteps:=999999) [-selQ_sel,A1]
  have hr:=(HS.some H).symm;subst hr
  refine Hid.mk ⟨_,Wk.refl _,?_⟩
  try simp -implicitDefEqProofs (maxSteps:=999999) [-selQ_sel,A1]
theorem impl_NodeAt_ok0 (hm:Try.prog.follows .mixedOrders = true) (k_slices_IndexFunc_Node_NodeAt_1:Sound Try.prog 48 slices_IndexFunc_Node_NodeAt_1_x):Sound Try.prog 13 impl_NodeAt_x:=by
 refine xOf_sound fun q r h=>?_
 obtain ⟨a0,a1⟩:=q
 refine fn_ok E0 hm Try.func13 rfl (by decide +kernel) (by rfl) fun Γ hn hk=>?_
 dsimp only [impl_NodeAt_e,impl_NodeAt_v]
 replace hn:Γ.n = 9:=hn
 replace hk:Γ.k = 0:=hk
 have H:HS (impl_NodeAt a0 a1) r:=h
 clear h;unfold impl_NodeAt at H
 try simp -implicitDefEqProofs at H
 refine Tr.of_vc (cl:=tabC [(48,slices_IndexFunc_Node_NodeAt_1_x)]) (E:=E0) [] (tab_cons k_slices_IndexFunc_Node_NodeAt_1 tab_nil) hm (by rw [hn];decide +kernel) ?_
 try simp -implicitDefEqProofs (maxSteps:=999999) [-selQ_sel]
 obtain ⟨v1,A1,H⟩:=HS.bnd H
 try simp -implicitDefEqProofs (maxSteps:=999999) [-selQ_sel,A1]
 have hr:=(HS.some H).symm;subst hr
 refine Hid.mk ⟨_,Wk.refl _,?_⟩
 try simp -implicitDefEqProofs (maxSteps:=999999) [-selQ_sel,A1]
theorem slices_Contains_int_ok0 (hm:Try.prog.follows .mixedOrders = true) (k_slices_Index_int:Sound Try.prog 83 slices_Index_int_x):Sound Try.prog 37 slices_Contains_int_x:=by
 refine xOf_sound fun q r h=>?_
 obtain ⟨a0,a1⟩:=q
 refine fn_ok E0 hm Try.func37 rfl (by decide +kernel) (by rfl) fun Γ hn hk=>?_
 dsimp only [slices_Contains_int_e,slices_Contains_int_v]
 replace hn:Γ.n = 9:=hn
 replace hk:Γ.k = 0:=hk
 have H:HS (slices_Contains_int a0 a1) r:=h
 clear h;unfold slices_Contains_int at H
 try simp -implicitDefEqProofs at H
 refine Tr.of_vc (cl:=tabC [(83,slices_Index_int_x)]) (E:=E0) [] (tab_cons k_slices_Index_int tab_nil) hm (by rw [hn];decide +kernel) ?_
 try simp -implicitDefEqProofs (maxSteps:=999999) [-selQ_sel]
 obtain ⟨v1,A1,H⟩:=HS.bnd H
 try simp -implicitDefEqProofs (maxSteps:=999999) [-selQ_sel,A1]
 have hr:=(HS.some H).symm;subst hr
 refine Hid.mk ⟨_,Wk.refl _,?_⟩
 try simp -implicitDefEqProofs (maxSteps:=999999) [-selQ_sel,A1]
theorem spec_l15NoPaint_ok0 (hm:Try.prog.follows .mixedOrders = true):Sound Try.prog 102 spec_l15NoPaint_x:=by
 refine xOf_sound fun q r h=>?_
 revert h;revert r;revert q;intro a0 r h
 refine fn_ok E0 hm Try.func102 rfl (by decide +kernel) (by rfl) fun Γ hn hk=>?_
 dsimp only [spec_l15NoPaint_e,spec_l15NoPaint_v]
 replace hn:Γ.n = 6:=hn
 replace hk:Γ.k = 0:=hk
 have H:HS (spec_l15NoPaint a0) r:=h
 clear h;unfold spec_l15NoPaint at H
 try simp -implicitDefEqProofs at H
 refine Tr.of_vc (cl:=tabC []) (E:=E0) [] tab_nil hm (by rw [hn];decide +kernel) ?_
 try simp -implicitDefEqProofs (maxSteps:=999999) [-selQ_sel]
 have hr:=(HS.some H).symm;subst hr
 refine Hid.mk ⟨_,Wk.refl _,?_⟩
 try simp -implicitDefEqProofs (maxSteps:=999999) [-selQ_sel]
theorem laws_toColor_ok0 (hm:Try.prog.follows .mixedOrders = true):Sound Try.prog 105 laws_toColor_x:=by
 refine xOf_sound fun q r h=>?_
 revert h;revert r;revert q;intro a0 r h
 refine fn_ok E0 hm Try.func105 rfl (by decide +kernel) (by rfl) fun Γ hn hk=>?_
 dsimp only [laws_toColor_e,laws_toColor_v]
 replace hn:Γ.n = 17:=hn
 replace hk:Γ.k = 0:=hk
 have H:HS (laws_toColor a0) r:=h
 clear h;unfold laws_toColor at H
 try simp -implicitDefEqProofs at H
 refine Tr.of_vc (cl:=tabC []) (E:=E0) [] tab_nil hm (by rw [hn];decide +kernel) ?_
 try simp -implicitDefEqProofs (maxSteps:=999999) [-selQ_sel]
 have hr:=(HS.some H).symm;subst hr
 refine Hid.mk ⟨_,Wk.refl _,?_⟩
 try simp -implicitDefEqProofs (maxSteps:=999999) [-selQ_sel]
end Go.Proofs.Ytapchldnmkfkoab.Am
