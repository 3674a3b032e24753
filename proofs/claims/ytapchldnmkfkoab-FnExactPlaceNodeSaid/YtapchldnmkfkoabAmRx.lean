import Derived.Test.YtapchldnmkfkoabAmRw
set_option linter.unusedVariables false
set_option linter.unusedSimpArgs false
set_option linter.unusedSectionVars false
namespace Go.Proofs.Ytapchldnmkfkoab.Am
open Go
set_option maxHeartbeats 1000000
def cg (i:Nat):Value:=.int .i64 i
def cj (i:Nat):Value:=.int .i32 i
def cct (cells:List AV) (js:List (Nat×Nat×List AV)):Value→List AV
 | .int .i64 n=>match cells[n.toNat]? with
  | some (.fsl r)=>r
  | _=>[]
 | .int .i32 n=>match js.find? fun p=>p.1 == n.toNat with
  | some p=>p.2.2
  | none=>[]
 | _=>[]
theorem lift0 {P:Program} {f:FuncId} {args:List AV} {obs:List Ob} {v:AV} {obs':List Ob} {a z:Nat} {es:List AV} {zs:List Nat}
  (ha:obs[a]? = some (.nar z es zs)) (hid:∀ c ∈ es.flatMap AV.cells,ids c = [] ∨ ∃ i o l t,c = .osl i o l t) (hraw:∀ c ∈ es.flatMap AV.cells,∀ u,c ≠ .raw u)
  (js:List (Nat×Nat×List AV)) (hj:∀ p ∈ js,p.1 ≠ a∧obs[p.1]? = some (.arr (zs.getD p.2.1 0) p.2.2 false)∧plainL p.2.2 = true) (hnd:(js.map (·.1)).Nodup)
  (argsR:(Nat→Value)→List AV) (hA:∀ φ m vs,VRL φ m args vs→∃ gj:Nat→Value,(∀ p ∈ js,VR φ m (.osl p.1 0 p.2.2.length p.2.2.length) (gj p.1))∧VRL φ m (argsR gj) vs)
  (obsR:List AV→List Ob) (hR:∀ er i,(obsR er)[i]? = if i = a then some (.arr z er false) else if i ∈ js.map (·.1) then (obs[i]?).map (fun o=>.gone o.len) else obs[i]?) (hRl:∀ er,(obsR er).length = obs.length)
  (hX:∀ (hg gj:Nat→Value) (ct:Value→List AV),(∀ i r,(es.flatMap AV.cells)[i]? = some (.fsl r)→ct (hg i) = r)→(∀ p ∈ js,ct (gj p.1) = p.2.2) →
   ∃ vr obsr er k,(Bodied P f∧CallOK P f (argsR gj) (obsR (rwEs true es hg 0)) vr obsr)∧obsr[a]? = some (.arr z er false)∧k ≤ er.length∧(∀ e ∈ er.take k,plainL e.cells = true) ∧
    (∃ s,(hdEs (er.take k)).Perm s∧s.Sublist (hdEs (rwEs false es hg 0) ++ js.map fun p=>(p.2.1,gj p.1))) ∧
    v = shC a obsr.length k er.length vr∧obs'.length = obsr.length + 1∧obs'[obsr.length]? = some (.nar z ((er.take k).map (unE ct)) zs)∧obs'[a]? = some (.gone er.length) ∧
    ∀ i,i ≠ a→i ≠ obsr.length→obs'[i]? = obsr[i]? ∨ (∃ cs,obsr[i]? = some (.box cs)∧obs'[i]? = some (.box (cs.map (shC a obsr.length k er.length)))) ∨ ∃ o,obsr[i]? = some o∧obs'[i]? = some (.gone o.len)) :
  Bodied P f∧CallOK P f args obs v obs':=by
 constructor
 ·obtain ⟨vr,obsr,er,k,h,_⟩:=hX cg cj (cct (es.flatMap AV.cells) js) (fun i r h=>by unfold cct cg;simp only [Int.toNat_natCast];rw [h]) (fun p hp=>by
   unfold cct cj;simp only [Int.toNat_natCast]
   cases hf:js.find? (fun q=>q.1 == p.1) with
   | none=>exact absurd (List.find?_eq_none.1 hf p hp) (by simp)
   | some q =>
    have h1:=List.find?_some hf
    have h2:=List.mem_of_find?_eq_some hf
    have h3:q.1 = p.1:=by simpa using h1
    have h4:=(hj q h2).2.1
    rw [h3,(hj p hp).2.1] at h4
    simp only [Option.some.injEq,Ob.arr.injEq] at h4
    exact h4.2.1.symm)
  exact h.1
 ·intro φ m w cargs hv hi hnone
  obtain ⟨gj,hgj,hvR⟩:=hA φ m _ hv
  obtain ⟨hg,ct,hc1,hc2,_,hall⟩:=raw_in hi (a:=a) ha hid hraw js hj hnd gj hgj
  obtain ⟨vr,obsr,er,k,h,h1,h2,h3,h4,h5,h6,h7,h8,h9⟩:=hX hg gj ct hc1 hc2
  obtain ⟨i1,i2,i3,i4⟩:=hall (fun i=>(obsR (rwEs true es hg 0))[i]?) (fun i=>hR _ i)
  refine (h.2 φ m w cargs hvR i1 (by rw [hRl];exact hnone)).mono ?_
  rintro e w' ⟨cv,rfl,φ',m',k1,k2,k3,k4,k5⟩
  obtain ⟨l',l'',q1,q2,q3,q4,q5,q6,q7,q8⟩:=raw_out (g':=fun i=>obs'[i]?) (a:=a) (new:=obsr.length) i2 i3 i4 k2 k3 h1 (k4 _ (Nat.le_refl _)) h2 h3 h4 h7 h8 h9
  refine ⟨cv,rfl,φ',putM m' obsr.length l'',?_,q7,q8,fun i hi=>?_,by rw [hRl] at k5;omega⟩
  ·rw [h5];exact shC_VR q1 (k4 _ (Nat.le_refl _)) q2 q3 q4 q5 q6 k1
  ·rw [h6] at hi
   unfold putM;rw [if_neg (by omega)];exact k4 i (by omega)
def lzz {α:Type} (w:Nat) (g:Nat→Value):Nat→List α→List (α×(Nat→Value))
 | _,[]=>[]
 | i,x :: l=>(x,fun c=>g (i + c)) :: lzz w g (i + w) l
theorem lzz_fst {α:Type} {w:Nat} {g:Nat→Value}:∀ (l:List α) (i:Nat),(lzz w g i l).map (·.1) = l
 | [],_=>rfl
 | x :: l,i=>by simp [lzz,lzz_fst l]
theorem rwL_sh {b:Bool} {g:Nat→Value}:∀ (cs:List AV) (i k:Nat),rwL b cs g (i + k) = rwL b cs (fun c=>g (i + c)) k
 | [],_,_=>rfl
 | c :: cs,i,k=>by simp only [rwL];rw [Nat.add_assoc,rwL_sh cs]
theorem rwE_sh {b:Bool} {g:Nat→Value} (e:AV) (i:Nat):rwE b e g i = rwE b e (fun c=>g (i + c)) 0:=by
 cases e <;> simp [rwE]
 exact rwL_sh _ i 0
theorem rwEs_lz {b:Bool} {α:Type} {e:α→AV} {e':α×(Nat→Value)→AV} {w:Nat} (he:∀ x,(e x).cells.length = w) (h:∀ x g,rwE b (e x) g 0 = e' (x,g)) {g:Nat→Value}:∀ (l:List α) (i:Nat),rwEs b (l.map e) g i = (lzz w g i l).map e'
 | [],_=>rfl
 | x :: l,i=>by
  simp only [List.map_cons,rwEs,lzz,he]
  rw [rwE_sh,h,rwEs_lz he h l]
theorem lzz_mem {α:Type} {w:Nat} {g:Nat→Value} {e:α→AV} (he:∀ x,(e x).cells.length = w):∀ {l:List α} {i:Nat} {p:α×(Nat→Value)},p ∈ lzz w g i l→∃ k,p.2 = (fun c=>g (i + k + c))∧∀ c v,(e p.1).cells[c]? = some v→((l.map e).flatMap AV.cells)[k + c]? = some v
 | [],_,p,h=>by cases h
 | x :: l,i,p,h=>by
  simp only [lzz,List.mem_cons] at h
  rcases h with rfl | h
  ·refine ⟨0,by simp,fun c v hc=>?_⟩
   rw [List.map_cons,List.flatMap_cons,Nat.zero_add,List.getElem?_append_left (List.getElem?_eq_some_iff.1 hc).1];exact hc
  ·obtain ⟨k,h1,h2⟩:=lzz_mem he h
   refine ⟨w + k,by rw [h1];funext c;congr 1;omega,fun c v hc=>?_⟩
   rw [List.map_cons,List.flatMap_cons,List.getElem?_append_right (by rw [he];omega),he,show w + k + c - w = k + c from by omega]
   exact h2 c v hc
theorem hd_sub {α:Type} {f:α→List (Nat×Value)} {a b:List α} (h:a.Sublist b):(a.flatMap f).Sublist (b.flatMap f):=by
 induction h with
 | slnil=>exact .slnil
 | cons x _ ih=>rw [List.flatMap_cons];exact ih.trans (List.sublist_append_right _ _)
 | cons_cons x _ ih=>rw [List.flatMap_cons,List.flatMap_cons];exact (List.Sublist.refl _).append ih
theorem hd_perm {α:Type} {f:α→List (Nat×Value)} {a b:List α} (h:a.Perm b):(a.flatMap f).Perm (b.flatMap f):=by
 induction h with
 | nil=>exact .nil
 | cons x _ ih=>rw [List.flatMap_cons,List.flatMap_cons];exact ih.append_left _
 | swap x y l =>
  simp only [List.flatMap_cons,← List.append_assoc]
  exact List.Perm.append_right _ List.perm_append_comm
 | trans _ _ h1 h2=>exact h1.trans h2
theorem rwEs_op {α:Type} {e:α→AV} {e':α×(Nat→Value)→AV} {w:Nat} (he:∀ x,(e x).cells.length = w) (h:∀ x g,rwE true (e x) g 0 = e' (x,g)) {g:Nat→Value} {op:AV} (hw:op.cells.length = w):∀ (l:List α) (i t:Nat) (x:α),l[t]? = some x→(∀ g,rwE true op g 0 = e' (x,g)) →
  rwEs true ((l.map e).set t op) g i = (lzz w g i l).map e'
 | [],_,_,_,hx,_=>by simp at hx
 | y :: l,i,0,x,hx,ho=>by
  simp only [List.getElem?_cons_zero,Option.some.injEq] at hx
  subst hx
  simp only [List.map_cons,List.set_cons_zero,rwEs,lzz]
  rw [rwE_sh,ho,hw,rwEs_lz he h l]
 | y :: l,i,t + 1,x,hx,ho=>by
  simp only [List.getElem?_cons_succ] at hx
  simp only [List.map_cons,List.set_cons_succ,rwEs,lzz,he]
  rw [rwE_sh,h,rwEs_op he h hw l _ t x hx ho]
theorem hdEs_op {α:Type} {e:α→AV} {e':α×(Nat→Value)→AV} {w:Nat} (he:∀ x,(e x).cells.length = w) (h:∀ x g,rwE false (e x) g 0 = e' (x,g)) {g:Nat→Value} {op:AV} (hw:op.cells.length = w) (ho:∀ g,hdC 0 (rwE false op g 0).cells = []):∀ (l:List α) (i t:Nat),t < l.length →
  hdEs (rwEs false ((l.map e).set t op) g i) = hdEs (((lzz w g i l).eraseIdx t).map e')
 | [],_,_,hx=>by simp at hx
 | y :: l,i,0,hx=>by
  simp only [List.map_cons,List.set_cons_zero,rwEs,lzz,List.eraseIdx_cons_zero]
  unfold hdEs
  rw [List.flatMap_cons,rwE_sh,ho,hw,rwEs_lz he h l];rfl
 | y :: l,i,t + 1,hx=>by
  have ih:=hdEs_op he h (g:=g) hw ho l (i + w) t (by simpa using hx)
  simp only [List.map_cons,List.set_cons_succ,rwEs,lzz,he,List.eraseIdx_cons_succ]
  unfold hdEs at ih ⊢
  rw [List.flatMap_cons,List.flatMap_cons,rwE_sh,h,ih]
theorem lzz_op {α:Type} {w:Nat} {g:Nat→Value} {e:α→AV} (he:∀ x,(e x).cells.length = w) {op:AV} (hw:op.cells.length = w):∀ {l:List α} {i t:Nat} {p:α×(Nat→Value)},p ∈ (lzz w g i l).eraseIdx t→∃ k,p.2 = (fun c=>g (i + k + c))∧∀ c v,(e p.1).cells[c]? = some v→(((l.map e).set t op).flatMap AV.cells)[k + c]? = some v
 | [],_,_,p,h=>by simp [lzz] at h
 | x :: l,i,0,p,h=>by
  simp only [lzz,List.eraseIdx_cons_zero] at h
  obtain ⟨k,h1,h2⟩:=lzz_mem he h
  refine ⟨w + k,by rw [h1];funext c;congr 1;omega,fun c v hc=>?_⟩
  rw [List.map_cons,List.set_cons_zero,List.flatMap_cons,List.getElem?_append_right (by omega),hw,show w + k + c - w = k + c from by omega]
  exact h2 c v hc
 | x :: l,i,t + 1,p,h=>by
  simp only [lzz,List.eraseIdx_cons_succ,List.mem_cons] at h
  rcases h with rfl | h
  ·refine ⟨0,by simp,fun c v hc=>?_⟩
   rw [List.map_cons,List.set_cons_succ,List.flatMap_cons,Nat.zero_add,List.getElem?_append_left (List.getElem?_eq_some_iff.1 hc).1];exact hc
  ·obtain ⟨k,h1,h2⟩:=lzz_op he hw h
   refine ⟨w + k,by rw [h1];funext c;congr 1;omega,fun c v hc=>?_⟩
   rw [List.map_cons,List.set_cons_succ,List.flatMap_cons,List.getElem?_append_right (by rw [he];omega),he,show w + k + c - w = k + c from by omega]
   exact h2 c v hc
theorem lift_op0 {α:Type} {e:α→AV} {e':α×(Nat→Value)→AV} {w:Nat} (he:∀ x,(e x).cells.length = w∧(e x).cells.all AV.one = true) (hAR:∀ b x h,rwE b (e x) h 0 = e' (x,h)) (hpl:∀ x h,plainL (e' (x,h)).cells = true)
  (hun:∀ (ct:Value→List AV) x h,(∀ c r,(e x).cells[c]? = some (.fsl r)→ct (h c) = r)→unE ct (e' (x,h)) = e x) (hnr:∀ x,∀ c ∈ (e x).cells,∀ u,c ≠ .raw u) (hnid:nid e)
  {P:Program} {f:FuncId} {args:List AV} {obs:List Ob} {v:AV} {obs':List Ob} {a:Nat} {l:List α} {zs:List Nat}
  {t:Nat} {op:AV} {x:α} (hx:l[t]? = some x) (hw:op.cells.length = w) (ho1:∀ g,rwE true op g 0 = e' (x,g)) (ho2:∀ g,hdC 0 (rwE false op g 0).cells = []) (ho3:∀ c ∈ op.cells,ids c = [] ∨ ∃ i o l t,c = .osl i o l t) (ho4:∀ c ∈ op.cells,∀ u,c ≠ .raw u)
  (ha:obs[a]? = some (.nar w ((l.map e).set t op) zs))
  (js:List (Nat×Nat×List AV)) (hj:∀ p ∈ js,p.1 ≠ a∧obs[p.1]? = some (.arr (zs.getD p.2.1 0) p.2.2 false)∧plainL p.2.2 = true) (hnd:(js.map (·.1)).Nodup)
  (argsR:(Nat→Value)→List AV) (hA:∀ φ m vs,VRL φ m args vs→∃ gj:Nat→Value,(∀ p ∈ js,VR φ m (.osl p.1 0 p.2.2.length p.2.2.length) (gj p.1))∧VRL φ m (argsR gj) vs)
  (obsR:List AV→List Ob) (hR:∀ er i,(obsR er)[i]? = if i = a then some (.arr w er false) else if i ∈ js.map (·.1) then (obs[i]?).map (fun o=>.gone o.len) else obs[i]?) (hRl:∀ er,(obsR er).length = obs.length)
  (ex:(Nat→Value)→List (α×(Nat→Value))) (hex1:∀ (gj:Nat→Value) (ct:Value→List AV),(∀ p ∈ js,ct (gj p.1) = p.2.2)→∀ p ∈ ex gj,∀ c r,(e p.1).cells[c]? = some (.fsl r)→ct (p.2 c) = r) (hex2:∀ gj,hdEs ((ex gj).map e') = js.map fun p=>(p.2.1,gj p.1))
  (hX:∀ (lz:List (α×(Nat→Value))) (gj:Nat→Value),lz.map (·.1) = l →
   ∃ (vr:AV) (obsr:List Ob) (er:List AV) (k:Nat) (L':List (α×(Nat→Value))),(Bodied P f∧CallOK P f (argsR gj) (obsR (lz.map e')) vr obsr)∧obsr[a]? = some (.arr w er false)∧k ≤ er.length∧er.take k = L'.map e'∧(∃ s,L'.Perm s∧s.Sublist (lz.eraseIdx t ++ ex gj)) ∧
    v = shC a obsr.length k er.length vr∧obs'.length = obsr.length + 1∧obs'[obsr.length]? = some (.nar w ((L'.map (·.1)).map e) zs)∧obs'[a]? = some (.gone er.length) ∧
    ∀ i,i ≠ a→i ≠ obsr.length→obs'[i]? = obsr[i]? ∨ (∃ cs,obsr[i]? = some (.box cs)∧obs'[i]? = some (.box (cs.map (shC a obsr.length k er.length)))) ∨ ∃ o,obsr[i]? = some o∧obs'[i]? = some (.gone o.len)) :
  Bodied P f∧CallOK P f args obs v obs':=by
 have htl:t < l.length:=(List.getElem?_eq_some_iff.1 hx).1
 have hcs:∀ c,c ∈ ((l.map e).set t op).flatMap AV.cells→(∃ y,c ∈ (e y).cells) ∨ c ∈ op.cells:=fun c hc=>by
  obtain ⟨d,hd,hc2⟩:=List.mem_flatMap.1 hc
  rcases List.mem_or_eq_of_mem_set hd with hd | hd
  ·obtain ⟨y,_,rfl⟩:=List.mem_map.1 hd
   exact .inl ⟨y,hc2⟩
  ·rw [hd] at hc2;exact .inr hc2
 refine lift0 ha (fun c hc=>?_) (fun c hc u=>?_) js hj hnd argsR hA obsR hR hRl fun hg gj ct h1 h2=>?_
 ·rcases hcs c hc with ⟨y,hc⟩ | hc
  ·refine .inl (List.eq_nil_iff_forall_not_mem.2 fun i hi=>?_)
   obtain ⟨k,hk⟩:=List.getElem?_of_mem hc
   have h1:=ids_cells (idsL_get hk hi)
   rw [hnid.h y] at h1;cases h1
  ·exact ho3 c hc
 ·rcases hcs c hc with ⟨y,hc⟩ | hc
  ·exact hnr y c hc u
  ·exact ho4 c hc u
 ·have hwe:∀ x,(e x).cells.length = w:=fun x=>(he x).1
  obtain ⟨vr,obsr,er,k,L',q1,q2,q3,q4,⟨s,q5,q6⟩,q7,q8,q9,q10,q11⟩:=hX (lzz w hg 0 l) gj (lzz_fst l 0)
  rw [rwEs_op hwe (hAR true) hw l 0 t x hx ho1,hdEs_op hwe (hAR false) hw ho2 l 0 t htl]
  have hhd:∀ L:List (α×(Nat→Value)),hdEs (L.map e') = L.flatMap fun p=>hdC 0 (e' p).cells:=fun L=>by unfold hdEs;rw [List.flatMap_map]
  have hmem:∀ p ∈ L',∀ c r,(e p.1).cells[c]? = some (.fsl r)→ct (p.2 c) = r:=fun p hp c r hc=>by
   have hp':=q6.subset (q5.subset hp)
   rcases List.mem_append.1 hp' with hp' | hp'
   ·obtain ⟨k,k1,k2⟩:=lzz_op hwe hw hp'
    rw [k1];dsimp only
    rw [Nat.zero_add]
    exact h1 _ r (k2 c _ hc)
   ·exact hex1 gj ct h2 p hp' c r hc
  refine ⟨vr,obsr,er,k,q1,q2,q3,?_,?_,q7,q8,?_,q10,q11⟩
  ·rw [q4];intro y hy
   obtain ⟨⟨x,h⟩,_,rfl⟩:=List.mem_map.1 hy
   exact hpl x h
  ·refine ⟨s.flatMap fun p=>hdC 0 (e' p).cells,?_,?_⟩
   ·rw [q4,hhd];exact hd_perm q5
   ·rw [← hex2,hhd,hhd,← List.flatMap_append];exact hd_sub q6
  ·rw [q9,q4,List.map_map,List.map_map]
   congr 2
   refine List.map_congr_left fun p hp=>?_
   exact (hun ct p.1 p.2 (hmem p hp)).symm
theorem CallOK.frame {P:Program} {f:FuncId} {args:List AV} {obs:List Ob} {v:AV} {obs':List Ob} (hc:CallOK P f args obs v obs') (hl:obs'.length = obs.length) (h1:∀ o ∈ obs,(∀ f,o.ren f = o)∧o.ids = []) (h2:∀ o ∈ obs',∀ f,o.ren f = o)
  (ha:∀ f:Nat→Nat,(∀ i,i < obs.length→f i = i)→renL f args = args) (hai:∀ i ∈ idsL args,i < obs.length) (hv:∀ f:Nat→Nat,(∀ i,i < obs.length→f i = i)→ren f v = v) (ex:List Ob) :
  CallOK P f args (obs ++ ex) v (obs' ++ ex):=by
 intro φ m w cargs hvr hi hn
 obtain ⟨js,hjs⟩:∃ js,js = List.range obs.length:=⟨_,rfl⟩
 have hjl:js.length = obs.length:=by rw [hjs,List.length_range]
 have hnd:js.Nodup:=by rw [hjs];exact List.nodup_range
 have hmem:∀ i,i ∈ js ↔ i < obs.length:=fun i=>by rw [hjs,List.mem_range]
 have hjg:∀ {k i:Nat},js[k]? = some i→k = i∧i < obs.length:=fun {k i} h=>by
  rw [hjs] at h
  obtain ⟨h1,h2⟩:=List.getElem?_eq_some_iff.1 h
  rw [List.getElem_range] at h2
  subst h2;exact ⟨rfl,by simpa using h1⟩
 have hix:∀ i,i < obs.length→ixOf js i = i:=fun i h=>(hjg (ixOf_get ((hmem i).2 h))).1
 have hs3:∀ k i:Nat,js[k]? = some i→∃ ob,obs[k]? = some ob∧(obs ++ ex)[i]? = some ob:=fun k i h=>by
  obtain ⟨rfl,h3⟩:=hjg h
  exact ⟨obs[k],List.getElem?_eq_getElem h3,by rw [List.getElem?_append_left h3,List.getElem?_eq_getElem h3]⟩
 have hro:obs.map (Ob.ren (ixOf js)) = obs:=by
  conv=>rhs;rw [← List.map_id obs]
  exact List.map_congr_left fun o ho=>(h1 o ho).1 _
 have hsub:=inv_sub hi hnd hjl.symm hs3 (fun i h ob hob j hj=>by
  rw [List.getElem?_append_left ((hmem i).1 h)] at hob
  rw [(h1 ob (List.mem_of_getElem? hob)).2] at hj;cases hj)
 rw [hro] at hsub
 have hargs:VRL φ (subM m js) args cargs.toList:=by
  have:=renL_VRL (m':=subM m js) (f:=ixOf js) args (fun i hi l h=>by unfold subM;rw [ixOf_get ((hmem i).2 (hai i hi))];exact h) hvr
  rwa [ha _ hix] at this
 refine (hc φ (subM m js) w cargs hargs hsub (fun i h=>by unfold subM;rw [List.getElem?_eq_none (by omega)])).mono fun ee w'=>?_
 rintro ⟨cv,rfl,φ',m',k1,k2,k3,k4,k5⟩
 obtain ⟨m2,p1,p2,p3,p4⟩:=merge (nx:=(obs ++ ex).length) hi hnd hjl.symm hs3 (fun i h3 h4=>by omega) (by omega) k4 k2 (by rw [hro];exact k3) k1
 have hb:∀ i,i < obs.length→(if i < js.length then js.getD i 0 else (obs ++ ex).length + (i - js.length)) = i:=fun i h=>by
  rw [if_pos (by omega),hjs,List.getD_eq_getElem?_getD,List.getElem?_range h];rfl
 have hro':∀ f,obs'.map (Ob.ren f) = obs':=fun f=>by
  conv=>rhs;rw [← List.map_id obs']
  exact List.map_congr_left fun o ho=>h2 o ho _
 have hg:∀ f,upd (fun i=>(obs ++ ex)[i]?) (zipTo js (obs'.map (Ob.ren f)) ++ zipAt (obs ++ ex).length ((obs'.map (Ob.ren f)).drop js.length)) = fun i=>(obs' ++ ex)[i]?:=fun f=>by
  rw [hro' f]
  funext i
  rw [upd_get,lkp_append,lkp_zipTo hnd (by omega),List.drop_of_length_le (by omega)]
  by_cases h:i < obs.length
  ·rw [if_pos ((hmem i).2 h),hix i h,List.getElem?_eq_getElem (l:=obs') (by omega)]
   show some _ = (obs' ++ ex)[i]?
   rw [List.getElem?_append_left (by omega),List.getElem?_eq_getElem (by omega)]
  ·rw [if_neg (fun h3=>h ((hmem i).1 h3))]
   show (obs ++ ex)[i]? = _
   rw [List.getElem?_append_right (by omega),List.getElem?_append_right (by omega),hl]
 rw [hg] at p2 p3
 rw [hv _ hb] at p1
 refine ⟨cv,rfl,φ',m2,p1,p2,p3,fun i h=>p4 i (.inl ?_) (hn i ?_),?_⟩
 ·rw [List.length_append] at h ⊢;omega
 ·rw [List.length_append] at h ⊢;omega
 ·rw [List.length_append,List.length_append];omega
theorem lift2 {P:Program} {f:FuncId} {args:List AV} {obs:List Ob} {v:AV} {obs':List Ob} {a b z:Nat} {es esb:List AV} {zs:List Nat} (hab:a ≠ b)
  (ha:obs[a]? = some (.nar z es zs)) (hb:obs[b]? = some (.nar z esb zs))
  (hid:∀ c ∈ es.flatMap AV.cells,ids c = [] ∨ ∃ i o l t,c = .osl i o l t) (hraw:∀ c ∈ es.flatMap AV.cells,∀ u,c ≠ .raw u)
  (hidb:∀ c ∈ esb.flatMap AV.cells,ids c = [] ∨ ∃ i o l t,c = .osl i o l t) (hrawb:∀ c ∈ esb.flatMap AV.cells,∀ u,c ≠ .raw u)
  (js:List (Nat×Nat×List AV)) (pos:Nat→Nat) (hj:∀ p ∈ js,p.1 ≠ a∧p.1 ≠ b∧obs[p.1]? = some (.arr (zs.getD p.2.1 0) p.2.2 false)∧plainL p.2.2 = true)
  (hjb:∀ p ∈ js,(esb.flatMap AV.cells)[pos p.1]? = some (.osl p.1 0 p.2.2.length p.2.2.length)) (hnd:(js.map (·.1)).Nodup)
  (obsR:(Nat→Value)→List AV→List Ob) (hR:∀ hb er i,(obsR hb er)[i]? = if i = a then some (.arr z er false) else if i = b then some (.arr z (rwEs true esb hb 0) false) else if i ∈ js.map (·.1) then (obs[i]?).map (fun o=>.gone o.len) else obs[i]?) (hRl:∀ hb er,(obsR hb er).length = obs.length)
  (hX:∀ (hg hgb:Nat→Value) (ct:Value→List AV),(∀ i r,(es.flatMap AV.cells)[i]? = some (.fsl r)→ct (hg i) = r)→(∀ p ∈ js,ct (hgb (pos p.1)) = p.2.2) →
   ∃ vr obsr er k,(Bodied P f∧CallOK P f args (obsR hgb (rwEs true es hg 0)) vr obsr)∧obsr[a]? = some (.arr z er false)∧k ≤ er.length∧(∀ e ∈ er.take k,plainL e.cells = true) ∧
    (∃ s,(hdEs (er.take k)).Perm s∧s.Sublist (hdEs (rwEs false es hg 0) ++ js.map fun p=>(p.2.1,hgb (pos p.1)))) ∧
    v = shC a obsr.length k er.length vr∧obs'.length = obsr.length + 1∧obs'[obsr.length]? = some (.nar z ((er.take k).map (unE ct)) zs)∧obs'[a]? = some (.gone er.length) ∧
    ∀ i,i ≠ a→i ≠ obsr.length→obs'[i]? = obsr[i]? ∨ (∃ cs,obsr[i]? = some (.box cs)∧obs'[i]? = some (.box (cs.map (shC a obsr.length k er.length)))) ∨ ∃ o,obsr[i]? = some o∧obs'[i]? = some (.gone o.len)) :
  Bodied P f∧CallOK P f args obs v obs':=by
 constructor
 ·obtain ⟨vr,obsr,er,k,h,_⟩:=hX cg (fun i=>match (esb.flatMap AV.cells)[i]? with | some (.osl j _ _ _)=>cj j | _=>default) (cct (es.flatMap AV.cells) js) (fun i r h=>by unfold cct cg;simp only [Int.toNat_natCast];rw [h]) (fun p hp=>by
   rw [hjb p hp]
   unfold cct cj;simp only [Int.toNat_natCast]
   cases hf:js.find? (fun q=>q.1 == p.1) with
   | none=>exact absurd (List.find?_eq_none.1 hf p hp) (by simp)
   | some q =>
    have h1:=List.find?_some hf
    have h2:=List.mem_of_find?_eq_some hf
    have h3:q.1 = p.1:=by simpa using h1
    have h4:=(hj q h2).2.2.1
    rw [h3,(hj p hp).2.2.1] at h4
    simp only [Option.some.injEq,Ob.arr.injEq] at h4
    exact h4.2.1.symm)
  exact h.1
 ·intro φ m w cargs hv hi hnone
  obtain ⟨hgb,_,_,_,hc3,hallb⟩:=raw_in hi (a:=b) hb hidb hrawb [] (by simp) (by simp) (fun _=>default) (by simp)
  obtain ⟨i1,_,_,o1⟩:=hallb (fun i=>if i = b then some (.arr z (rwEs true esb hgb 0) false) else obs[i]?) (fun i=>by simp)
  obtain ⟨hg,ct,hc1,hc2,_,hall⟩:=raw_in i1 (a:=a) (by rw [if_neg hab];exact ha) hid hraw js (fun p hp=>⟨(hj p hp).1,by rw [if_neg (hj p hp).2.1];exact (hj p hp).2.2.1,(hj p hp).2.2.2⟩) hnd (fun j=>hgb (pos j)) (fun p hp=>hc3 _ _ (hjb p hp) (by simp))
  obtain ⟨vr,obsr,er,k,h,h1,h2,h3,h4,h5,h6,h7,h8,h9⟩:=hX hg hgb ct hc1 hc2
  obtain ⟨i2,i3,i4,i5⟩:=hall (fun i=>(obsR hgb (rwEs true es hg 0))[i]?) (fun i=>by
   rw [hR]
   by_cases e1:i = a
   ·rw [if_pos e1,if_pos e1]
   rw [if_neg e1,if_neg e1]
   by_cases e2:i = b
   ·rw [if_pos e2,if_pos e2,if_neg (fun h=>by
     obtain ⟨p,hp,e⟩:=List.mem_map.1 h
     exact (hj p hp).2.1 (by rw [e];exact e2))]
   ·rw [if_neg e2,if_neg e2])
  refine (h.2 φ m w cargs hv i2 (by rw [hRl];exact hnone)).mono ?_
  rintro e w' ⟨cv,rfl,φ',m',k1,k2,k3,k4,k5⟩
  obtain ⟨l',l'',q1,q2,q3,q4,q5,q6,q7,q8⟩:=raw_out (g:=fun i=>obs[i]?) (g':=fun i=>obs'[i]?) (a:=a) (new:=obsr.length) (fun x hx=>(i3 x hx).mono o1) i4 (fun b hb=>o1 b (i5 b hb)) k2 k3 h1 (k4 _ (Nat.le_refl _)) h2 h3 h4 h7 h8 h9
  refine ⟨cv,rfl,φ',putM m' obsr.length l'',?_,q7,q8,fun i hi=>?_,by rw [hRl] at k5;omega⟩
  ·rw [h5];exact shC_VR q1 (k4 _ (Nat.le_refl _)) q2 q3 q4 q5 q6 k1
  ·rw [h6] at hi
   unfold putM;rw [if_neg (by omega)];exact k4 i (by omega)
theorem lift_el2 {α:Type} {e:α→AV} {e':α×(Nat→Value)→AV} {w:Nat} (he:∀ x,(e x).cells.length = w∧(e x).cells.all AV.one = true) (hAR:∀ b x h,rwE b (e x) h 0 = e' (x,h)) (hpl:∀ x h,plainL (e' (x,h)).cells = true)
  (hun:∀ (ct:Value→List AV) x h,(∀ c r,(e x).cells[c]? = some (.fsl r)→ct (h c) = r)→unE ct (e' (x,h)) = e x) (hnr:∀ x,∀ c ∈ (e x).cells,∀ u,c ≠ .raw u) (hnid:nid e)
  {P:Program} {f:FuncId} {args:List AV} {obs:List Ob} {v:AV} {obs':List Ob} {a b:Nat} {l:List α} {zs:List Nat} (hab:a ≠ b)
  (ha:obs[a]? = some (.nar w (l.map e) zs)) {op:AV} {x:α} (hb:obs[b]? = some (.nar w [op] zs))
  (ho1:∀ g,rwE true op g 0 = e' (x,g)) (ho3:∀ c ∈ op.cells,ids c = [] ∨ ∃ i o l t,c = .osl i o l t) (ho4:∀ c ∈ op.cells,∀ u,c ≠ .raw u)
  (js:List (Nat×Nat×List AV)) (pos:Nat→Nat) (hj:∀ p ∈ js,p.1 ≠ a∧p.1 ≠ b∧obs[p.1]? = some (.arr (zs.getD p.2.1 0) p.2.2 false)∧plainL p.2.2 = true)
  (hjb:∀ p ∈ js,op.cells[pos p.1]? = some (.osl p.1 0 p.2.2.length p.2.2.length)) (hnd:(js.map (·.1)).Nodup)
  (obsR:AV→List AV→List Ob) (hR:∀ o er i,(obsR o er)[i]? = if i = a then some (.arr w er false) else if i = b then some (.arr w [o] false) else if i ∈ js.map (·.1) then (obs[i]?).map (fun o=>.gone o.len) else obs[i]?) (hRl:∀ o er,(obsR o er).length = obs.length)
  (hex1:∀ (h:Nat→Value) (ct:Value→List AV),(∀ p ∈ js,ct (h (pos p.1)) = p.2.2)→∀ c r,(e x).cells[c]? = some (.fsl r)→ct (h c) = r) (hex2:∀ h,hdEs [e' (x,h)] = js.map fun p=>(p.2.1,h (pos p.1)))
  (hX:∀ (lz:List (α×(Nat→Value))) (h:Nat→Value),lz.map (·.1) = l →
   ∃ (vr:AV) (obsr:List Ob) (er:List AV) (k:Nat) (L':List (α×(Nat→Value))),(Bodied P f∧CallOK P f args (obsR (e' (x,h)) (lz.map e')) vr obsr)∧obsr[a]? = some (.arr w er false)∧k ≤ er.length∧er.take k = L'.map e'∧(∃ s,L'.Perm s∧s.Sublist (lz ++ [(x,h)])) ∧
    v = shC a obsr.length k er.length vr∧obs'.length = obsr.length + 1∧obs'[obsr.length]? = some (.nar w ((L'.map (·.1)).map e) zs)∧obs'[a]? = some (.gone er.length) ∧
    ∀ i,i ≠ a→i ≠ obsr.length→obs'[i]? = obsr[i]? ∨ (∃ cs,obsr[i]? = some (.box cs)∧obs'[i]? = some (.box (cs.map (shC a obsr.length k er.length)))) ∨ ∃ o,obsr[i]? = some o∧obs'[i]? = some (.gone o.len)) :
  Bodied P f∧CallOK P f args obs v obs':=by
 have hfo:[op].flatMap AV.cells = op.cells:=by simp
 refine lift2 hab ha hb (fun c hc=>?_) (fun c hc u=>?_) (by rw [hfo];exact ho3) (by rw [hfo];exact ho4) js pos hj (by rw [hfo];exact hjb) hnd (fun hb er=>obsR (e' (x,hb)) er) (fun hb er i=>?_) (fun _ _=>hRl _ _) fun hg hgb ct h1 h2=>?_
 ·rw [List.flatMap_map,List.mem_flatMap] at hc
  obtain ⟨x,_,hc⟩:=hc
  refine .inl (List.eq_nil_iff_forall_not_mem.2 fun i hi=>?_)
  obtain ⟨k,hk⟩:=List.getElem?_of_mem hc
  have h1:=ids_cells (idsL_get hk hi)
  rw [hnid.h x] at h1;cases h1
 ·rw [List.flatMap_map,List.mem_flatMap] at hc
  obtain ⟨x,_,hc⟩:=hc
  exact hnr x c hc u
 ·rw [hR];simp only [rwEs,ho1]
 ·have hw:∀ x,(e x).cells.length = w:=fun x=>(he x).1
  obtain ⟨vr,obsr,er,k,L',q1,q2,q3,q4,⟨s,q5,q6⟩,q7,q8,q9,q10,q11⟩:=hX (lzz w hg 0 l) hgb (lzz_fst l 0)
  rw [rwEs_lz hw (hAR true),rwEs_lz hw (hAR false)]
  have hhd:∀ L:List (α×(Nat→Value)),hdEs (L.map e') = L.flatMap fun p=>hdC 0 (e' p).cells:=fun L=>by unfold hdEs;rw [List.flatMap_map]
  have hmem:∀ p ∈ L',∀ c r,(e p.1).cells[c]? = some (.fsl r)→ct (p.2 c) = r:=fun p hp c r hc=>by
   have hp':=q6.subset (q5.subset hp)
   rcases List.mem_append.1 hp' with hp' | hp'
   ·obtain ⟨k,k1,k2⟩:=lzz_mem hw hp'
    rw [k1];dsimp only
    rw [Nat.zero_add]
    exact h1 _ r (k2 c _ hc)
   ·simp only [List.mem_singleton] at hp'
    subst hp'
    exact hex1 hgb ct h2 c r hc
  refine ⟨vr,obsr,er,k,q1,q2,q3,?_,?_,q7,q8,?_,q10,q11⟩
  ·rw [q4];intro y hy
   obtain ⟨⟨x,h⟩,_,rfl⟩:=List.mem_map.1 hy
   exact hpl x h
  ·refine ⟨s.flatMap fun p=>hdC 0 (e' p).cells,?_,?_⟩
   ·rw [q4,hhd];exact hd_perm q5
   ·have h3:=hhd [(x,hgb)]
    simp only [List.map_cons,List.map_nil] at h3
    rw [← hex2,hhd,h3,← List.flatMap_append];exact hd_sub q6
  ·rw [q9,q4,List.map_map,List.map_map]
   congr 2
   refine List.map_congr_left fun p hp=>?_
   exact (hun ct p.1 p.2 (hmem p hp)).symm
end Go.Proofs.Ytapchldnmkfkoab.Am
