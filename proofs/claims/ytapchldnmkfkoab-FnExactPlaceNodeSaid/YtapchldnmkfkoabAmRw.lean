import Derived.Test.YtapchldnmkfkoabAmIn
set_option linter.unusedVariables false
set_option linter.unusedSimpArgs false
set_option linter.unusedSectionVars false
namespace Go.Proofs.Ytapchldnmkfkoab.Am
open Go
set_option maxHeartbeats 1000000
def rwC (b:Bool) (c:AV) (u:Value):AV:=match c with
 | .fsl _=>.raw u
 | .osl i o l t=>if b = true then .raw u else .osl i o l t
 | c=>c
def rwL (b:Bool):List AV→(Nat→Value)→Nat→List AV
 | [],_,_=>[]
 | c :: cs,g,i=>rwC b c (g i) :: rwL b cs g (i + 1)
def rwE (b:Bool) (e:AV) (g:Nat→Value) (i:Nat):AV:=match e with
 | .agg cs=>.agg (rwL b cs g i)
 | c=>rwC b c (g i)
def rwEs (b:Bool):List AV→(Nat→Value)→Nat→List AV
 | [],_,_=>[]
 | e :: es,g,i=>rwE b e g i :: rwEs b es g (i + e.cells.length)
def unC (ct:Value→List AV):AV→AV
 | .raw u=>.fsl (ct u)
 | c=>c
def unE (ct:Value→List AV):AV→AV
 | .agg cs=>.agg (cs.map (unC ct))
 | c=>unC ct c
def hdC:Nat→List AV→List (Nat×Value)
 | _,[]=>[]
 | k,.raw u :: cs=>(k,u) :: hdC (k + 1) cs
 | k,_ :: cs=>hdC (k + 1) cs
def hdEs (es:List AV):List (Nat×Value):=es.flatMap fun e=>hdC 0 e.cells
def blkOf:Value→Option Nat
 | .slice (some ⟨b,_,_⟩) _ cap=>if cap = 0 then none else some b
 | _=>none
def hdR (x y:Nat×Value):Prop:=∀ b,blkOf x.2 = some b→blkOf y.2 ≠ some b
theorem hdR_sym {x y:Nat×Value} (h:hdR x y):hdR y x:=fun b h1 h2=>h b h2 h1
theorem rwL_len {b:Bool}:∀ (cs:List AV) (g:Nat→Value) (i:Nat),(rwL b cs g i).length = cs.length
 | [],_,_=>rfl
 | c :: cs,g,i=>by simp [rwL,rwL_len cs]
theorem rwL_get {b:Bool} {g:Nat→Value}:∀ (cs:List AV) (i k:Nat),(rwL b cs g i)[k]? = (cs[k]?).map fun c=>rwC b c (g (i + k))
 | [],_,_=>by simp [rwL]
 | c :: cs,i,0=>by simp [rwL]
 | c :: cs,i,k + 1=>by
  simp only [rwL,List.getElem?_cons_succ]
  rw [rwL_get cs (i + 1) k,show i + 1 + k = i + (k + 1) from by omega]
theorem rwL_app {b:Bool} {g:Nat→Value}:∀ (a d:List AV) (i:Nat),rwL b (a ++ d) g i = rwL b a g i ++ rwL b d g (i + a.length)
 | [],d,i=>by simp [rwL]
 | c :: a,d,i=>by simp [rwL,rwL_app a d,Nat.add_assoc,Nat.add_comm 1]
theorem rwC_one {b:Bool} {c:AV} {u:Value} (h:c.one = true):(rwC b c u).one = true:=by
 cases c <;> cases b <;> simp_all [rwC,AV.one]
theorem rwE_cells {b:Bool} {g:Nat→Value} (e:AV) (i:Nat):(rwE b e g i).cells = rwL b e.cells g i:=by
 cases e <;> cases b <;> simp [rwE,AV.cells,rwL,rwC]
theorem rwEs_flat {b:Bool} {g:Nat→Value}:∀ (es:List AV) (i:Nat),(rwEs b es g i).flatMap AV.cells = rwL b (es.flatMap AV.cells) g i
 | [],_=>rfl
 | e :: es,i=>by
  rw [List.flatMap_cons,rwL_app,rwEs,List.flatMap_cons,rwE_cells,rwEs_flat es]
theorem rwEs_len {b:Bool} {g:Nat→Value}:∀ (es:List AV) (i:Nat),(rwEs b es g i).length = es.length
 | [],_=>rfl
 | e :: es,i=>by simp [rwEs,rwEs_len es]
theorem rwEs_ok {b:Bool} {g:Nat→Value} {z:Nat}:∀ (es:List AV) (i:Nat),(∀ e ∈ es,e.cells.length = z∧e.cells.all AV.one = true)→∀ e ∈ rwEs b es g i,e.cells.length = z∧e.cells.all AV.one = true
 | [],_,_,e,he=>by cases he
 | x :: es,i,h,e,he=>by
  simp only [rwEs,List.mem_cons] at he
  rcases he with rfl | he
  ·rw [rwE_cells,rwL_len]
   refine ⟨(h x (.head _)).1,?_⟩
   rw [List.all_eq_true]
   intro c hc
   obtain ⟨k,hk⟩:=List.getElem?_of_mem hc
   rw [rwL_get,Option.map_eq_some_iff] at hk
   obtain ⟨c0,h0,rfl⟩:=hk
   exact rwC_one (List.all_eq_true.1 (h x (.head _)).2 _ (List.mem_of_getElem? h0))
  ·exact rwEs_ok es _ (fun e he=>h e (.tail _ he)) e he
def hdP:List AV→Nat→List (Nat×Value)
 | [],_=>[]
 | .raw u :: cs,k=>(k,u) :: hdP cs (k + 1)
 | _ :: cs,k=>hdP cs (k + 1)
theorem hdP_cons (c:AV) (cs:List AV) (k:Nat):hdP (c :: cs) k = (match c with | .raw u=>[(k,u)] | _=>[]) ++ hdP cs (k + 1):=by cases c <;> rfl
theorem hdC_cons (c:AV) (cs:List AV) (k:Nat):hdC k (c :: cs) = (match c with | .raw u=>[(k,u)] | _=>[]) ++ hdC (k + 1) cs:=by cases c <;> rfl
theorem hdP_app:∀ (a b:List AV) (i:Nat),hdP (a ++ b) i = hdP a i ++ hdP b (i + a.length)
 | [],b,i=>by simp [hdP]
 | c :: a,b,i=>by
  rw [List.cons_append,hdP_cons,hdP_app a b,hdP_cons,List.append_assoc,List.length_cons,show i + 1 + a.length = i + (a.length + 1) from by omega]
theorem hdP_mem:∀ {cs:List AV} {i j:Nat} {u:Value},(j,u) ∈ hdP cs i ↔ i ≤ j∧cs[j - i]? = some (.raw u)
 | [],i,j,u=>by simp [hdP]
 | c :: cs,i,j,u=>by
  rw [hdP_cons,List.mem_append,hdP_mem]
  constructor
  ·rintro (h | ⟨h1,h2⟩)
   ·cases c <;> simp at h
    obtain ⟨rfl,rfl⟩:=h
    exact ⟨Nat.le_refl _,by simp⟩
   ·exact ⟨by omega,by rw [show j - i = (j - (i + 1)) + 1 from by omega,List.getElem?_cons_succ];exact h2⟩
  ·rintro ⟨h1,h2⟩
   by_cases e:j = i
   ·subst e
    simp only [Nat.sub_self,List.getElem?_cons_zero,Option.some.injEq] at h2
    subst h2;exact .inl (by simp)
   ·rw [show j - i = (j - (i + 1)) + 1 from by omega,List.getElem?_cons_succ] at h2
    exact .inr ⟨by omega,h2⟩
theorem hdP_inc:∀ (cs:List AV) (i:Nat),(hdP cs i).Pairwise fun x y=>x.1 < y.1
 | [],i=>.nil
 | c :: cs,i=>by
  rw [hdP_cons,List.pairwise_append]
  refine ⟨by cases c <;> simp,hdP_inc cs (i + 1),?_⟩
  rintro ⟨a,x⟩ h1 ⟨b,y⟩ h2
  have:=(hdP_mem.1 h2).1
  cases c <;> simp at h1
  dsimp only;omega
theorem hdC_P {z:Nat}:∀ (cs:List AV) (k q:Nat),k + cs.length ≤ z→hdC k cs = (hdP cs (q * z + k)).map fun x=>(x.1 % z,x.2)
 | [],_,_,_=>rfl
 | c :: cs,k,q,h=>by
  simp only [List.length_cons] at h
  rw [hdC_cons,hdP_cons,List.map_append,hdC_P (z:=z) cs (k + 1) q (by omega),Nat.add_assoc]
  congr 1
  cases c <;> simp
  exact (Nat.mod_eq_of_lt (by omega)).symm
theorem hdEs_P {z:Nat}:∀ (es:List AV) (q:Nat),(∀ e ∈ es,e.cells.length = z)→hdEs es = (hdP (es.flatMap AV.cells) (q * z)).map fun x=>(x.1 % z,x.2)
 | [],_,_=>rfl
 | e :: es,q,h=>by
  unfold hdEs
  rw [List.flatMap_cons,List.flatMap_cons,hdP_app,List.map_append]
  have h1:=hdC_P (z:=z) e.cells 0 q (by rw [h e (.head _)];omega)
  rw [Nat.add_zero] at h1
  rw [h1,h e (.head _),show q * z + z = (q + 1) * z from by rw [Nat.add_mul,Nat.one_mul]]
  congr 1
  exact hdEs_P es (q + 1) fun e he=>h e (.tail _ he)
theorem pw_ne {α:Type} {R:α→α→Prop} (hs:∀ x y,R x y→R y x):∀ {l:List α},l.Pairwise R→∀ {i j:Nat} {x y:α},l[i]? = some x→l[j]? = some y→i ≠ j→R x y
 | [],_,i,_,_,_,h,_,_=>by simp at h
 | a :: l,hp,i,j,x,y,h1,h2,hne=>by
  rw [List.pairwise_cons] at hp
  match i,j with
  | 0,0=>exact (hne rfl).elim
  | 0,j + 1 =>
   simp only [List.getElem?_cons_zero,Option.some.injEq,List.getElem?_cons_succ] at h1 h2
   subst h1;exact hp.1 _ (List.mem_of_getElem? h2)
  | i + 1,0 =>
   simp only [List.getElem?_cons_zero,Option.some.injEq,List.getElem?_cons_succ] at h1 h2
   subst h2;exact hs _ _ (hp.1 _ (List.mem_of_getElem? h1))
  | i + 1,j + 1 =>
   simp only [List.getElem?_cons_succ] at h1 h2
   exact pw_ne hs hp.2 h1 h2 (by omega)
theorem pw_mem {R:Nat×Value→Nat×Value→Prop} (hs:∀ x y,R x y→R y x) {l:List (Nat×Value)} (hp:l.Pairwise R) {x y:Nat×Value} (h1:x ∈ l) (h2:y ∈ l) (hne:x.1 ≠ y.1):R x y:=by
 obtain ⟨i,hi⟩:=List.getElem?_of_mem h1
 obtain ⟨j,hj⟩:=List.getElem?_of_mem h2
 refine pw_ne hs hp hi hj ?_
 rintro rfl
 rw [hi] at hj;cases hj;exact hne rfl
section
variable {P:Program} {φ:FM} {m:LM} {g:Nat→Option Ob} {w:World}
theorem NRc_blk {z:Nat} {r:List AV} {v:Value} {o:Option Nat} (h:NRc φ m w z (.fsl r) v o):o = blkOf v∧(o = none→r = []):=by
 rcases h with ⟨h,_⟩ | ⟨es,ad,cap,h1,h2,h3,h4,h5,h6⟩
 ·simp [plain] at h
 ·cases h1
  subst h2
  rcases h6 with ⟨h7,h8⟩ | ⟨h7,b,a,t,h8,h9,_⟩
  ·refine ⟨?_,fun _=>List.length_eq_zero_iff.1 (by omega)⟩
   rw [h8];unfold blkOf
   split
   ·rename_i e;cases e;rw [if_pos h7]
   ·rfl
  ·subst h8
   refine ⟨?_,fun h=>?_⟩
   ·rw [h9];unfold blkOf;dsimp only;rw [if_neg (by omega)]
   ·rw [h9] at h;cases h
theorem opt_c {α:Type} (o:Option α):o = none ∨ ∃ b,o = some b:=by cases o <;> simp
structure Hdr (φ:FM) (m:LM) (g gr:Nat→Option Ob) (w:World) (zs:List Nat) (ct:Value→List AV) (x:Nat×Value):Prop where
 nr:NRc φ m w (zs.getD x.1 0) (.fsl (ct x.2)) x.2 (blkOf x.2)
 b:∀ b,blkOf x.2 = some b→b < w.heap.size∧φ b = none∧¬ ownB gr m b∧ownB g m b∧∃ o,w.heap[b]? = some o
open Classical in
theorem raw_in (hi:Inv φ m g w) {a z:Nat} {es:List AV} {zs:List Nat} (ha:g a = some (.nar z es zs)) (hid:∀ c ∈ es.flatMap AV.cells,ids c = [] ∨ ∃ i o l t,c = .osl i o l t)
  (hraw:∀ c ∈ es.flatMap AV.cells,∀ u,c ≠ .raw u)
  (js:List (Nat×Nat×List AV)) (hj:∀ p ∈ js,p.1 ≠ a∧g p.1 = some (.arr (zs.getD p.2.1 0) p.2.2 false)∧plainL p.2.2 = true) (hnd:(js.map (·.1)).Nodup)
  (gj:Nat→Value) (hgj:∀ p ∈ js,VR φ m (.osl p.1 0 p.2.2.length p.2.2.length) (gj p.1)) :
  ∃ (hg:Nat→Value) (ct:Value→List AV),(∀ i r,(es.flatMap AV.cells)[i]? = some (.fsl r)→ct (hg i) = r)∧(∀ p ∈ js,ct (gj p.1) = p.2.2)∧(∀ i c,(es.flatMap AV.cells)[i]? = some c→(∀ r,c ≠ .fsl r)→VR φ m c (hg i)) ∧
   ∀ gr:Nat→Option Ob,(∀ i,gr i = if i = a then some (.arr z (rwEs true es hg 0) false) else if i ∈ js.map (·.1) then (g i).map (fun o=>.gone o.len) else g i) →
    Inv φ m gr w∧(∀ x ∈ hdEs (rwEs false es hg 0) ++ js.map (fun p=>(p.2.1,gj p.1)),Hdr φ m g gr w zs ct x) ∧
    (hdEs (rwEs false es hg 0) ++ js.map (fun p=>(p.2.1,gj p.1))).Pairwise hdR∧∀ b,ownB gr m b→ownB g m b:=by
 obtain ⟨l,hm,hr⟩:=hi.own a _ ha
 obtain ⟨b1,b2,b3,b4,b5,vs,F,b6,b7,b8⟩:=hr.oth
 have hfl:(es.flatMap AV.cells).length = es.length * z:=flat_len (fun e he=>(b3 e he).1)
 let hg:Nat→Value:=fun i=>vs.getD i default
 have hgv:∀ i c,(es.flatMap AV.cells)[i]? = some c→vs[i]? = some (hg i):=fun i c h=>by
  have hi:=(List.getElem?_eq_some_iff.1 h).1
  rw [← b6.1] at hi
  simp [hg,List.getD,List.getElem?_eq_getElem hi]
 have hN:∀ i r,(es.flatMap AV.cells)[i]? = some (.fsl r)→NRc φ m w (zs.getD (i % z) 0) (.fsl r) (hg i) (blkOf (hg i))∧F i = blkOf (hg i):=fun i r h=>by
  have h1:=b6.2.1 i _ _ h (hgv i _ h)
  have h2:=(NRc_blk h1).1
  rw [← h2];exact ⟨h1,rfl⟩
 have hJ:∀ p ∈ js,NRc φ m w (zs.getD p.2.1 0) (.fsl p.2.2) (gj p.1) (blkOf (gj p.1))∧∀ b,blkOf (gj p.1) = some b→∃ lj,m p.1 = some lj∧(Ob.arr (zs.getD p.2.1 0) p.2.2 false).fp lj b∧φ b = none∧∃ o,w.heap[b]? = some o:=fun p hp=>by
  obtain ⟨h1,h2,h3⟩:=hj p hp
  obtain ⟨lj,hmj,hrj⟩:=hi.own _ _ h2
  obtain ⟨d1,d2,d3,d4,d5⟩:=hrj.arr _ _ false rfl
  have hv:=hgj p hp
  simp only [VR] at hv
  obtain ⟨_,lj',hmj',_,hv⟩:=hv
  rw [hmj] at hmj';cases hmj'
  obtain ⟨ad,hsl,had⟩:=hv hrj.top.symm
  rw [Nat.sub_zero] at hsl
  have key:∀ o,((lj.cap = 0∧o = none) ∨ (0 < lj.cap∧o = some lj.blk))→NRc φ m w (zs.getD p.2.1 0) (.fsl p.2.2) (gj p.1) o:=by
   intro o ho
   refine .inr ⟨p.2.2,ad,lj.cap,rfl,hsl,d4,fun _ e he=>d3 e he,h3,?_⟩
   rcases ho with ho | ⟨h0,ho⟩
   ·exact .inl ho
   ·obtain ⟨a',t',c1,c2,c3,c4⟩:=d5.resolve_left (by omega)
    refine .inr ⟨h0,lj.blk,a',t',?_,ho,c1,d2,c2,plainL_any _ (plainL_flat h3) c4⟩
    have:=had h0
    rw [this];simp
  by_cases h0:0 < lj.cap
  ·have h4:=key _ (.inr ⟨h0,rfl⟩)
   rw [← (NRc_blk h4).1]
   refine ⟨h4,fun b hb=>?_⟩
   cases hb
   obtain ⟨a',t',c1,c2,c3,c4⟩:=d5.resolve_left (by omega)
   exact ⟨lj,hmj,⟨h0,rfl⟩,by simpa using c3,_,c1⟩
  ·have h4:=key _ (.inl ⟨by omega,rfl⟩)
   rw [← (NRc_blk h4).1]
   exact ⟨h4,fun b hb=>by cases hb⟩
 have hsep:∀ p ∈ js,∀ b,blkOf (gj p.1) = some b→(∀ i r,(es.flatMap AV.cells)[i]? = some (.fsl r)→blkOf (hg i) ≠ some b)∧∀ p' ∈ js,blkOf (gj p'.1) = some b→p'.1 = p.1:=fun p hp b hb=>by
  obtain ⟨lj,h1,h2,_⟩:=(hJ p hp).2 b hb
  refine ⟨fun i r h e=>?_,fun p' hp' hb'=>?_⟩
  ·exact hi.sep _ _ _ _ _ _ b (hj p hp).2.1 ha h1 hm (hj p hp).1 h2 (.inr (b7 i b ((hN i r h).2.trans e)))
  ·obtain ⟨lj',h1',h2',_⟩:=(hJ p' hp').2 b hb'
   exact Classical.byContradiction fun hne=>hi.sep _ _ _ _ _ _ b (hj p' hp').2.1 (hj p hp).2.1 h1' h1 hne h2' h2
 have hFi:∀ i i' r r' b,(es.flatMap AV.cells)[i]? = some (.fsl r)→(es.flatMap AV.cells)[i']? = some (.fsl r')→blkOf (hg i) = some b→blkOf (hg i') = some b→i = i':=fun i i' r r' b h h' e e' =>
  b6.2.2.1 i i' b ((hN i r h).2.trans e) ((hN i' r' h').2.trans e')
 let Q1 (u:Value) (x:Nat×List AV):Prop:=(es.flatMap AV.cells)[x.1]? = some (.fsl x.2)∧hg x.1 = u∧blkOf u ≠ none
 let Q2 (u:Value) (p:Nat×Nat×List AV):Prop:=p ∈ js∧gj p.1 = u∧blkOf u ≠ none
 let ct:Value→List AV:=fun u=>if h:∃ x,Q1 u x then h.choose.2 else if h:∃ p,Q2 u p then h.choose.2.2 else []
 have hc1:∀ i r,(es.flatMap AV.cells)[i]? = some (.fsl r)→ct (hg i) = r:=fun i r h=>by
  show (if h:∃ x,Q1 (hg i) x then h.choose.2 else if h:∃ p,Q2 (hg i) p then h.choose.2.2 else []) = r
  rcases opt_c (blkOf (hg i)) with hb | ⟨b,hb⟩
  ·skip
   rw [dif_neg (by rintro ⟨_,_,_,h⟩;exact h hb),dif_neg (by rintro ⟨_,_,_,h⟩;exact h hb)]
   exact ((NRc_blk (hN i r h).1).2 hb).symm
  ·skip
   have hx:∃ x,Q1 (hg i) x:=⟨(i,r),h,rfl,by rw [hb];simp⟩
   rw [dif_pos hx]
   obtain ⟨q1,q2,q3⟩:=hx.choose_spec
   have:=hFi _ _ _ _ b q1 h (by rw [q2];exact hb) hb
   rw [this,h] at q1;cases q1;rfl
 have hc2:∀ p ∈ js,ct (gj p.1) = p.2.2:=fun p hp=>by
  show (if h:∃ x,Q1 (gj p.1) x then h.choose.2 else if h:∃ p',Q2 (gj p.1) p' then h.choose.2.2 else []) = p.2.2
  rcases opt_c (blkOf (gj p.1)) with hb | ⟨b,hb⟩
  ·skip
   rw [dif_neg (by rintro ⟨_,_,_,h⟩;exact h hb),dif_neg (by rintro ⟨_,_,_,h⟩;exact h hb)]
   exact ((NRc_blk (hJ p hp).1).2 hb).symm
  ·skip
   rw [dif_neg (by rintro ⟨x,q1,q2,q3⟩;exact (hsep p hp b hb).1 _ _ q1 (by rw [q2];exact hb))]
   have hx:∃ p',Q2 (gj p.1) p':=⟨p,hp,rfl,by rw [hb];simp⟩
   rw [dif_pos hx]
   obtain ⟨q1,q2,q3⟩:=hx.choose_spec
   have h1:=(hsep p hp b hb).2 _ q1 (by rw [q2];exact hb)
   have h2:=(hj _ q1).2.1
   rw [h1,(hj p hp).2.1] at h2
   simp only [Option.some.injEq,Ob.arr.injEq] at h2
   exact h2.2.1.symm
 refine ⟨hg,ct,hc1,hc2,fun i c h hne=>?_,fun gr hgr=>?_⟩
 ·rcases b6.2.1 i c _ h (hgv i c h) with ⟨_,h2,_⟩ | ⟨es',_,_,e,_⟩
  ·exact h2
  ·exact (hne _ e).elim
 have hfp:∀ i ob,gr i = some ob→∃ ob0,g i = some ob0∧∀ l b,ob.fp l b→ob0.fp l b:=fun i ob h=>by
  rw [hgr] at h
  split at h
  ·rename_i e;subst e;cases h
   exact ⟨_,ha,fun l b hb=>.inl hb⟩
  ·split at h
   ·obtain ⟨o,h1,rfl⟩:=Option.map_eq_some_iff.1 h
    exact ⟨o,h1,fun l b hb=>hb.elim⟩
   ·exact ⟨ob,h,fun _ _ hb=>hb⟩
 have hown:∀ b,ownB gr m b→ownB g m b:=by
  rintro b ⟨i,ob,l,h1,h2,h3⟩
  obtain ⟨ob0,h4,h5⟩:=hfp i ob h1
  exact ⟨i,ob0,l,h4,h2,h5 _ _ h3⟩
 have hcell:∀ {i:Nat} {u:Value},(rwL false (es.flatMap AV.cells) hg 0)[i]? = some (.raw u)→∃ r,(es.flatMap AV.cells)[i]? = some (.fsl r)∧u = hg i:=by
  intro i u h
  rw [rwL_get,Option.map_eq_some_iff,Nat.zero_add] at h
  obtain ⟨c,h1,h2⟩:=h
  cases c <;> simp [rwC] at h2
  ·exact ⟨_,h1,h2.symm⟩
  ·exact (hraw _ (List.mem_of_getElem? h1) _ rfl).elim
 have hP:hdEs (rwEs false es hg 0) = (hdP (rwL false (es.flatMap AV.cells) hg 0) 0).map fun x=>(x.1 % z,x.2):=by
  rw [hdEs_P (z:=z) _ 0 (fun e he=>(rwEs_ok es 0 b3 e he).1),rwEs_flat,Nat.zero_mul]
 refine ⟨⟨hi.fz,fun i ob h=>?_,fun i i' o o' k k' b h1 h2 h3 h4 h5 h6 h7=>?_⟩,?_,?_,hown⟩
 ·rw [hgr] at h
  split at h
  ·rename_i e;subst e;cases h
   refine ⟨l,hm,⟨by rw [hr.top];simp [Ob.len,rwEs_len],(fun _ e=>by cases e),fun z' es' ro e=>?_,trivial⟩⟩
   cases e
   refine ⟨b1,b2,rwEs_ok es 0 b3,by rw [rwEs_len];exact b4,b8.imp (fun h=>h) ?_⟩
   rintro ⟨a',t,c1,c2,c3,c4⟩
   refine ⟨a',t,c1,c2,by simpa using c3,?_⟩
   rw [rwEs_len,rwEs_flat,c4]
   refine VRL_of (by rw [rwL_len];exact b6.1) fun i c v h1 h2=>?_
   rw [rwL_get,Option.map_eq_some_iff,Nat.zero_add] at h1
   obtain ⟨c0,h3,rfl⟩:=h1
   have h4:=hgv i _ h3
   rw [h2] at h4;cases h4
   have h5:=b6.2.1 i _ _ h3 h2
   rcases h5 with ⟨h5,h6,_⟩ | ⟨es',ad,cap,rfl,h6,_⟩
   ·rcases hid c0 (List.mem_of_getElem? h3) with h7 | ⟨i',o',l',t',rfl⟩
    ·have h8:rwC true c0 (hg i) = c0:=by
      cases c0 <;> simp [rwC,plain] at h5 ⊢
      simp [ids] at h7
     rw [h8];exact noids_VR (FM.le_refl _) c0 h7 h6
    ·simp only [rwC,if_true]
     have h9:=one_of h6 rfl
     simp only [VR]
     first | exact ⟨rfl,h9⟩ | exact ⟨trivial,h9⟩
   ·simp only [rwC,VR]
    first | exact ⟨rfl,by rw [h6];rfl⟩ | exact ⟨trivial,by rw [h6];rfl⟩
  ·split at h
   ·obtain ⟨o,h1,rfl⟩:=Option.map_eq_some_iff.1 h
    obtain ⟨k,k1,k2⟩:=hi.own i o h1
    exact ⟨k,k1,k2.top,(fun _ e=>by cases e),(fun _ _ _ e=>by cases e),trivial⟩
   ·exact hi.own i ob h
 ·obtain ⟨o0,g1,g2⟩:=hfp i o h1
  obtain ⟨o0',g1',g2'⟩:=hfp i' o' h2
  exact hi.sep _ _ _ _ _ _ b g1 g1' h3 h4 h5 (g2 _ _ h6) (g2' _ _ h7)
 ·intro x hx
  rcases List.mem_append.1 hx with hx | hx
  ·rw [hP] at hx
   obtain ⟨⟨i,u⟩,hy,rfl⟩:=List.mem_map.1 hx
   have hy:=(hdP_mem.1 hy).2
   rw [Nat.sub_zero] at hy
   obtain ⟨r,h1,rfl⟩:=hcell hy
   refine ⟨by dsimp only;rw [hc1 i r h1];exact (hN i r h1).1,fun b hb=>?_⟩
   have hs:=b7 i b ((hN i r h1).2.trans hb)
   obtain ⟨s1,s2,s3⟩:=b5 b hs
   have hf:(Ob.nar z es zs).fp l b:=.inr hs
   refine ⟨hi.ltB ha hm hf,s1,?_,⟨a,_,l,ha,hm,hf⟩,s2⟩
   rintro ⟨i',ob,l',q1,q2,q3⟩
   by_cases e:i' = a
   ·subst e
    rw [hgr,if_pos rfl] at q1;cases q1
    rw [hm] at q2;cases q2
    exact s3 q3.1 q3.2.symm
   ·obtain ⟨ob0,q4,q5⟩:=hfp i' ob q1
    exact hi.sep _ _ _ _ _ _ b q4 ha q2 hm e (q5 _ _ q3) hf
  ·obtain ⟨p,hp,rfl⟩:=List.mem_map.1 hx
   refine ⟨by dsimp only;rw [hc2 p hp];exact (hJ p hp).1,fun b hb=>?_⟩
   obtain ⟨lj,q1,q2,q3,q4⟩:=(hJ p hp).2 b hb
   refine ⟨hi.ltB (hj p hp).2.1 q1 q2,q3,?_,⟨p.1,_,lj,(hj p hp).2.1,q1,q2⟩,q4⟩
   rintro ⟨i',ob,l',r1,r2,r3⟩
   by_cases e:i' = p.1
   ·subst e
    rw [hgr,if_neg (hj p hp).1,if_pos (List.mem_map.2 ⟨p,hp,rfl⟩),(hj p hp).2.1] at r1
    cases r1;exact r3
   ·obtain ⟨ob0,r4,r5⟩:=hfp i' ob r1
    exact hi.sep _ _ _ _ _ _ b r4 (hj p hp).2.1 r2 q1 e (r5 _ _ r3) q2
 ·rw [List.pairwise_append]
  refine ⟨?_,?_,?_⟩
  ·rw [hP,List.pairwise_map]
   refine (hdP_inc _ 0).imp_of_mem ?_
   rintro ⟨i,u⟩ ⟨i',u'⟩ h1 h2 h3 b h4 h5
   have k1:=(hdP_mem.1 h1).2;have k2:=(hdP_mem.1 h2).2
   rw [Nat.sub_zero] at k1 k2
   obtain ⟨r,l1,l2⟩:=hcell k1
   obtain ⟨r',l3,l4⟩:=hcell k2
   have:=hFi i i' r r' b l1 l3 (by rw [← l2];exact h4) (by rw [← l4];exact h5)
   dsimp only at h3;omega
  ·rw [List.pairwise_map]
   rw [List.Nodup,List.pairwise_map] at hnd
   refine hnd.imp_of_mem ?_
   intro p p' h1 h2 h3 b h4 h5
   exact h3 ((hsep p' h2 b h5).2 p h1 h4)
  ·intro x hx y hy b h1 h2
   rw [hP] at hx
   obtain ⟨⟨i,u⟩,hx1,rfl⟩:=List.mem_map.1 hx
   have hx2:=(hdP_mem.1 hx1).2
   rw [Nat.sub_zero] at hx2
   obtain ⟨r,hx3,hx4⟩:=hcell hx2
   obtain ⟨p,hp,rfl⟩:=List.mem_map.1 hy
   exact (hsep p hp b h2).1 i r hx3 (by rw [← hx4];exact h1)
theorem Hdr.mono {φ:FM} {m:LM} {g1 g gr:Nat→Option Ob} {w:World} {zs:List Nat} {ct:Value→List AV} {x:Nat×Value} (h:Hdr φ m g1 gr w zs ct x) (o:∀ b,ownB g1 m b→ownB g m b):Hdr φ m g gr w zs ct x :=
 ⟨h.nr,fun b hb=>let ⟨q1,q2,q3,q4,q5⟩:=h.b b hb;⟨q1,q2,q3,o b q4,q5⟩⟩
def shC (a new k n:Nat):AV→AV
 | .osl i o l t=>if i = a∧o = 0∧l = k∧t = n then .osl new 0 k k else .osl i o l t
 | c=>c
theorem unE_cells {ct:Value→List AV} (e:AV):(unE ct e).cells = e.cells.map (unC ct):=by
 cases e <;> simp [unE,AV.cells,unC]
theorem unC_one {ct:Value→List AV} {c:AV} (h:c.one = true):(unC ct c).one = true:=by cases c <;> simp_all [unC,AV.one]
theorem shC_one {a n k t:Nat} {c:AV} (h:c.one = true):(shC a n k t c).one = true:=by
 cases c with
 | osl i o l s=>simp only [shC];split <;> rfl
 | _=>exact h
theorem shC_VR {φ':FM} {m':LM} {a new k n:Nat} {l' l'':Loc} {c:AV} {v:Value} (hm:m' a = some l') (hn:m' new = none) (hl:l'.top = n) (h1:l''.blk = l'.blk) (h2:l''.esz = l'.esz) (h3:l''.cap = l'.cap) (h4:l''.top = k)
  (h:VR φ' m' c v):VR φ' (putM m' new l'') (shC a new k n c) v:=by
 have hext:Ext m' (putM m' new l''):=fun i l hi=>by
  unfold putM;split
  ·rename_i e;subst e;rw [hn] at hi;cases hi
  ·exact ⟨l,hi,Nat.le_refl _,fun _=>⟨rfl,rfl,rfl⟩⟩
 cases c with
 | osl i o x t =>
  simp only [shC]
  split
  ·rename_i e
   obtain ⟨rfl,rfl,rfl,rfl⟩:=e
   simp only [VR] at h ⊢
   obtain ⟨q1,l0,q2,q3,q4⟩:=h
   rw [hm] at q2;cases q2
   refine ⟨q1,l'',by simp [putM],by omega,fun _=>?_⟩
   obtain ⟨ad,q5,q6⟩:=q4 hl.symm
   exact ⟨ad,by rw [h3];exact q5,fun h=>by rw [h1,h2];exact q6 (by omega)⟩
  ·exact VR.mono (FM.le_refl _) _ hext h
 | _=>exact VR.mono (FM.le_refl _) _ hext h
theorem shC_VRL {φ':FM} {m':LM} {a new k n:Nat} {l' l'':Loc} (hm:m' a = some l') (hn:m' new = none) (hl:l'.top = n) (h1:l''.blk = l'.blk) (h2:l''.esz = l'.esz) (h3:l''.cap = l'.cap) (h4:l''.top = k) :
  ∀ {cs:List AV} {vs:List Value},VRL φ' m' cs vs→VRL φ' (putM m' new l'') (cs.map (shC a new k n)) vs
 | [],vs,h=>by simpa [VRL] using h
 | c :: cs,vs,h=>by
  simp only [VRL,List.map_cons] at h ⊢
  obtain ⟨v,us,rfl,q1,q2⟩:=h
  exact ⟨v,us,rfl,shC_VR hm hn hl h1 h2 h3 h4 q1,shC_VRL hm hn hl h1 h2 h3 h4 q2⟩
theorem raw_out {φ' : FM} {m' : LM} {w' : World} {gr gr' g' : Nat → Option Ob} {zs : List Nat} {ct : Value → List AV} {ents : List (Nat × Value)} {a new z k : Nat} {er : List AV}
  (hh : ∀ x ∈ ents, Hdr φ m g gr w zs ct x) (hp : ents.Pairwise hdR) (hown : ∀ b, ownB gr m b → ownB g m b)
  (hi : Inv φ' m' gr' w') (hf : Fr φ m gr w φ' m' gr' w') (ha : gr' a = some (.arr z er false)) (hn : m' new = none) (hk : k ≤ er.length)
  (hpl : ∀ e ∈ er.take k, plainL e.cells = true) (hs : ∃ s, (hdEs (er.take k)).Perm s ∧ s.Sublist ents)
  (hn' : g' new = some (.nar z ((er.take k).map (unE ct)) zs)) (ha' : g' a = some (.gone er.length))
  (ho : ∀ i, i ≠ a → i ≠ new → g' i = gr' i ∨ (∃ cs, gr' i = some (.box cs) ∧ g' i = some (.box (cs.map (shC a new k er.length)))) ∨ ∃ o, gr' i = some o ∧ g' i = some (.gone o.len)) :
  ∃ l' l'', m' a = some l' ∧ l'.top = er.length ∧ l''.blk = l'.blk ∧ l''.esz = l'.esz ∧ l''.cap = l'.cap ∧ l''.top = k ∧ Inv φ' (putM m' new l'') g' w' ∧ Fr φ m g w φ' (putM m' new l'') g' w' := by
 obtain ⟨l', hm', hr'⟩ := hi.own a _ ha
 obtain ⟨d1, d2, d3, d4, d5⟩ := hr'.arr _ _ false rfl
 have hne : a ≠ new := by rintro rfl; rw [hm'] at hn; cases hn
 let S := ents.filterMap fun x => blkOf x.2
 let l'' : Loc := ⟨l'.blk, l'.esz, l'.cap, k, S⟩
 have hS : ∀ b, b ∈ S → ∃ x ∈ ents, blkOf x.2 = some b := fun b hb => by
  obtain ⟨x, h1, h2⟩ := List.mem_filterMap.1 hb; exact ⟨x, h1, h2⟩
 have hext : Ext m' (putM m' new l'') := fun i l hi => by
  unfold putM; split
  ·rename_i e; subst e; rw [hn] at hi; cases hi
  ·exact ⟨l, hi, Nat.le_refl _, fun _ => ⟨rfl, rfl, rfl⟩⟩
 have hput : ∀ i, i ≠ new → putM m' new l'' i = m' i := fun i h => by simp [putM, h]
 have hputn : putM m' new l'' new = some l'' := by simp [putM]
 have hob : ∀ i ob, g' i = some ob → (i = new ∧ ob = .nar z ((er.take k).map (unE ct)) zs) ∨ (i = a ∧ ob = .gone er.length) ∨
   (i ≠ new ∧ i ≠ a ∧ ∃ ob0, gr' i = some ob0 ∧ (ob = ob0 ∨ (∃ cs, ob0 = .box cs ∧ ob = .box (cs.map (shC a new k er.length))) ∨ ob = .gone ob0.len)) := fun i ob h => by
  by_cases e : i = new
  ·subst e; rw [hn'] at h; cases h; exact .inl ⟨rfl, rfl⟩
  by_cases e1 : i = a
  ·subst e1; rw [ha'] at h; cases h; exact .inr (.inl ⟨rfl, rfl⟩)
  refine .inr (.inr ⟨e, e1, ?_⟩)
  rcases ho i e1 e with h1 | ⟨cs, h1, h2⟩ | ⟨o, h1, h2⟩
  ·exact ⟨ob, by rw [← h1]; exact h, .inl rfl⟩
  ·rw [h2] at h; cases h
   exact ⟨_, h1, .inr (.inl ⟨cs, rfl, rfl⟩)⟩
  ·rw [h2] at h; cases h
   exact ⟨_, h1, .inr (.inr rfl)⟩
 have hfp : ∀ {ob ob0 : Ob} {l : Loc} {b : Nat}, (ob = ob0 ∨ (∃ cs, ob0 = .box cs ∧ ob = .box (cs.map (shC a new k er.length))) ∨ ob = .gone ob0.len) → ob.fp l b → ob0.fp l b := by
  rintro ob ob0 l b (rfl | ⟨cs, rfl, rfl⟩ | rfl) h
  ·exact h
  ·exact h
  ·exact h.elim
 have hfree : ∀ b, b ∈ S → ¬ ownB gr' m' b := fun b hb h => by
  obtain ⟨x, h1, h2⟩ := hS b hb
  obtain ⟨k1, k2, k3, k4⟩ := (hh x h1).b b h2
  rcases hf.newm b h with h | h
  ·omega
  ·exact k3 h
 have hsame : ∀ b, b ∈ S → w'.heap[b]? = w.heap[b]? := fun b hb => by
  obtain ⟨x, h1, h2⟩ := hS b hb
  obtain ⟨k1, k2, k3, k4⟩ := (hh x h1).b b h2
  exact hf.old b k1 k3
 have harr : 0 < l'.cap → ownB gr' m' l'.blk := fun h => ⟨a, _, l', ha, hm', h, rfl⟩
 obtain ⟨s, hs1, hs2⟩ := hs
 have hlen : (er.take k).length = k := by rw [List.length_take]; omega
 have hcl : ∀ e ∈ er.take k, e.cells.length = z := fun e he => (d3 e (List.mem_of_mem_take he)).1
 have hfl : ((er.take k).flatMap AV.cells).length = k * z := by rw [flat_len hcl, hlen]
 have hcs : ((er.take k).map (unE ct)).flatMap AV.cells = ((er.take k).flatMap AV.cells).map (unC ct) := by
  rw [List.flatMap_map, List.map_flatMap]; congr 1; funext e; exact unE_cells e
 have hP : hdEs (er.take k) = (hdP ((er.take k).flatMap AV.cells) 0).map fun x => (x.1 % z, x.2) := by
  rw [hdEs_P (z := z) _ 0 hcl, Nat.zero_mul]
 have hmem : ∀ i u, ((er.take k).flatMap AV.cells)[i]? = some (.raw u) → (i % z, u) ∈ ents := fun i u h => by
  refine hs2.subset (hs1.subset ?_)
  rw [hP]
  exact List.mem_map.2 ⟨(i, u), hdP_mem.2 ⟨by omega, by simpa using h⟩, rfl⟩
 have hpw : (hdP ((er.take k).flatMap AV.cells) 0).Pairwise fun x y => hdR (x.1 % z, x.2) (y.1 % z, y.2) := by
  have h1 := (hs1.pairwise_iff (R := hdR) (fun h => hdR_sym h)).2 (hp.sublist hs2)
  rw [hP, List.pairwise_map] at h1
  exact h1
 let F : Nat → Option Nat := fun i => match ((er.take k).flatMap AV.cells)[i]? with
  | some (.raw u) => blkOf u
  | _ => none
 have hF : ∀ i b, F i = some b → ∃ u, ((er.take k).flatMap AV.cells)[i]? = some (.raw u) ∧ blkOf u = some b := fun i b h => by
  show _
  simp only [F] at h
  split at h
  ·rename_i u e; exact ⟨u, e, h⟩
  ·cases h
 have hnew : ObR φ' (putM m' new l'') w' l'' (.nar z ((er.take k).map (unE ct)) zs) := by
  refine ⟨by show k = _; simp [Ob.len]; omega, (fun _ e => by cases e), (fun _ _ _ e => by cases e), ⟨d1, d2, fun e he => ?_, by rw [List.length_map, hlen]; exact Nat.le_trans hk d4, fun b hb => ?_, ?_⟩⟩
  ·obtain ⟨e0, he0, rfl⟩ := List.mem_map.1 he
   have := d3 e0 (List.mem_of_mem_take he0)
   rw [unE_cells, List.length_map]
   refine ⟨this.1, ?_⟩
   rw [List.all_map, List.all_eq_true]
   exact fun c hc => unC_one (List.all_eq_true.1 this.2 c hc)
  ·obtain ⟨x, h1, h2⟩ := hS b hb
   obtain ⟨k1, k2, k3, k4, k5⟩ := (hh x h1).b b h2
   refine ⟨?_, by rw [hsame b hb]; exact k5, fun h0 e => hfree b hb (by rw [e]; exact harr h0)⟩
   cases hφ : φ' b with
   | none => rfl
   | some o =>
    rcases hf.newφ b o hφ with h | h | h
    ·rw [k2] at h; cases h
    ·omega
    ·exact (k3 h).elim
  ·rcases d5 with h0 | ⟨av, t, c1, c2, c3, c4⟩
   ·have hk0 : k = 0 := by omega
    refine ⟨[], F, ⟨?_, fun i c v h1 h2 => by simp at h2, fun i j b h1 h2 => ?_, fun i hi => ?_⟩, fun i b h => ?_, .inl h0⟩
    ·rw [hcs, List.length_map, hfl, hk0]; simp
    ·obtain ⟨u, h3, _⟩ := hF i b h1
     have := (List.getElem?_eq_some_iff.1 h3).1
     rw [hfl, hk0] at this; omega
    ·cases h : F i with
     | none => rfl
     | some b =>
      obtain ⟨u, h3, _⟩ := hF i b h
      have := (List.getElem?_eq_some_iff.1 h3).1
      rw [hfl, hk0] at this; omega
    ·obtain ⟨u, h3, _⟩ := hF i b h
     have := (List.getElem?_eq_some_iff.1 h3).1
     rw [hfl, hk0] at this; omega
   ·have hsz : k * z ≤ av.toList.length := by
     rw [Array.length_toList, c2]; exact Nat.mul_le_mul_right z (Nat.le_trans hk d4)
    refine ⟨av.toList.take (k * z), F, ⟨?_, fun i c v h1 h2 => ?_, fun i j b h1 h2 => ?_, fun i hi => ?_⟩, fun i b h => ?_, .inr ⟨av, t, c1, c2, by simpa using c3, by rw [List.length_map, hlen]⟩⟩
    ·rw [hcs, List.length_map, hfl, List.length_take]; omega
    ·rw [hcs, List.getElem?_map, Option.map_eq_some_iff] at h1
     obtain ⟨c0, h3, rfl⟩ := h1
     have hi0 := (List.getElem?_eq_some_iff.1 h3).1
     rw [hfl] at hi0
     have h4 : (er.flatMap AV.cells)[i]? = some c0 := by
      rw [← List.take_append_drop k er, List.flatMap_append, List.getElem?_append_left (by rw [hfl]; exact hi0)]; exact h3
     obtain ⟨v0, h5, h6⟩ := VRL_get c4 h4
     rw [List.getElem?_take] at h2 h5
     rw [if_pos hi0] at h2
     split at h5
     case isFalse => cases h5
     rw [h2] at h5; cases h5
     have hpc : plain c0 = true := by
      obtain ⟨e, he, hce⟩ := List.mem_flatMap.1 (List.mem_of_getElem? h3)
      exact plainL_iff.1 (hpl e he) _ hce
     by_cases hr : ∃ u, c0 = .raw u
     ·obtain ⟨u, rfl⟩ := hr
      have hFi : F i = blkOf u := by simp only [F]; rw [h3]
      simp only [VR] at h6
      obtain ⟨rfl, _⟩ := h6
      have hm0 := hmem i v h3
      rw [hFi]
      have h7 := (hh _ hm0).nr
      dsimp only at h7
      refine h7.mono hf.φle (hf.ext.trans hext) fun b hb => hsame b ?_
      exact List.mem_filterMap.2 ⟨_, hm0, hb⟩
     ·have hFi : F i = none := by
       simp only [F]; rw [h3]
       split
       ·rename_i u e; cases e; exact (hr ⟨_, rfl⟩).elim
       ·rfl
      have hu : unC ct c0 = c0 := by
       cases c0 <;> simp [unC]
       exact hr ⟨_, rfl⟩
      rw [hu, hFi]
      exact .inl ⟨hpc, VR.mono (FM.le_refl _) _ (Ext.none _) h6, rfl⟩
    ·obtain ⟨u, h3, h4⟩ := hF i b h1
     obtain ⟨u', h5, h6⟩ := hF j b h2
     refine Classical.byContradiction fun hij => ?_
     have := pw_mem (R := fun x y => hdR (x.1 % z, x.2) (y.1 % z, y.2)) (fun x y h => hdR_sym h) hpw (x := (i, u)) (y := (j, u')) (hdP_mem.2 ⟨by omega, by simpa using h3⟩) (hdP_mem.2 ⟨by omega, by simpa using h5⟩) hij
     exact this b h4 h6
    ·cases h : F i with
     | none => rfl
     | some b =>
      obtain ⟨u, h3, _⟩ := hF i b h
      have := (List.getElem?_eq_some_iff.1 h3).1
      rw [hcs, List.length_map] at hi
      omega
    ·obtain ⟨u, h3, h4⟩ := hF i b h
     exact List.mem_filterMap.2 ⟨_, hmem i u h3, h4⟩
 refine ⟨l', l'', hm', hr'.top, rfl, rfl, rfl, rfl, ⟨hi.fz, fun i ob h => ?_, fun i i' o o' l1 l2 b h1 h2 h3 h4 h5 h6 h7 => ?_⟩, ⟨hf.φle, hf.ext.trans hext, hf.os, hf.tape, hf.output, hf.size, fun b h1 h2 => hf.old b h1 fun h => h2 (hown b h), fun b o h => ?_, fun b h => ?_⟩⟩
 ·rcases hob i ob h with ⟨rfl, rfl⟩ | ⟨rfl, rfl⟩ | ⟨e1, e2, ob0, h1, h2⟩
  ·exact ⟨l'', hputn, hnew⟩
  ·exact ⟨l', by rw [hput _ hne]; exact hm', hr'.top, (fun _ e => by cases e), (fun _ _ _ e => by cases e), trivial⟩
  ·obtain ⟨l0, q1, q2⟩ := hi.own i ob0 h1
   refine ⟨l0, by rw [hput i e1]; exact q1, ?_⟩
   have q3 := q2.mono (FM.le_refl _) hext (fun _ _ => rfl) (fun _ _ => rfl)
   rcases h2 with rfl | ⟨cs, rfl, rfl⟩ | rfl
   ·exact q3
   ·obtain ⟨p1, p2, p3, p4, av, t, p5, p6⟩ := q2.box cs rfl
    refine ⟨by rw [q2.top]; simp [Ob.len], fun cs' e => ?_, (fun _ _ _ e => by cases e), trivial⟩
    cases e
    refine ⟨p1, by simpa using p2, p3, ?_, av, t, p5, shC_VRL (l'' := l'') hm' hn hr'.top rfl rfl rfl rfl p6⟩
    rw [List.all_map, List.all_eq_true]
    exact fun c hc => shC_one (List.all_eq_true.1 p4 c hc)
   ·exact ⟨q3.top, (fun _ e => by cases e), (fun _ _ _ e => by cases e), trivial⟩
 ·have key : ∀ i o l b, g' i = some o → putM m' new l'' i = some l → o.fp l b → (i = new ∧ ((0 < l'.cap ∧ l'.blk = b) ∨ b ∈ S)) ∨ (i ≠ new ∧ i ≠ a ∧ ∃ ob0, gr' i = some ob0 ∧ m' i = some l ∧ ob0.fp l b) := fun i o l b q1 q2 q3 => by
   rcases hob i o q1 with ⟨rfl, rfl⟩ | ⟨rfl, rfl⟩ | ⟨e1, e2, ob0, h1, h2⟩
   ·rw [hputn] at q2; cases q2
    exact .inl ⟨rfl, q3⟩
   ·exact q3.elim
   ·rw [hput i e1] at q2
    exact .inr ⟨e1, e2, ob0, h1, q2, hfp h2 q3⟩
  have cross : ∀ i ob0 l, i ≠ a → gr' i = some ob0 → m' i = some l → ob0.fp l b → ((0 < l'.cap ∧ l'.blk = b) ∨ b ∈ S) → False := fun i ob0 l e q1 q2 q3 q4 => by
   rcases q4 with ⟨q4, q5⟩ | q4
   ·exact hi.sep _ _ _ _ _ _ b q1 ha q2 hm' e q3 ⟨q4, q5⟩
   ·exact hfree b q4 ⟨i, ob0, l, q1, q2, q3⟩
  rcases key i o l1 b h1 h3 h6 with ⟨rfl, a1⟩ | ⟨e1, e2, ob1, a1, a2, a3⟩ <;> rcases key i' o' l2 b h2 h4 h7 with ⟨rfl, c1⟩ | ⟨e3, e4, ob2, c1, c2, c3⟩
  ·exact h5 rfl
  ·exact cross i' ob2 l2 e4 c1 c2 c3 a1
  ·exact cross i ob1 l1 e2 a1 a2 a3 c1
  ·exact hi.sep _ _ _ _ _ _ b a1 c1 a2 c2 h5 a3 c3
 ·rcases hf.newφ b o h with h | h | h
  ·exact .inl h
  ·exact .inr (.inl h)
  ·exact .inr (.inr (hown b h))
 ·obtain ⟨i, ob, l, h1, h2, h3⟩ := h
  have back : ownB gr' m' b → w.heap.size ≤ b ∨ ownB g m b := fun h => (hf.newm b h).imp (fun h => h) (hown b)
  rcases hob i ob h1 with ⟨rfl, rfl⟩ | ⟨rfl, rfl⟩ | ⟨e1, e2, ob0, q1, q2⟩
  ·rw [hputn] at h2; cases h2
   rcases h3 with ⟨h3, rfl⟩ | h3
   ·exact back (harr h3)
   ·obtain ⟨x, y1, y2⟩ := hS b h3
    exact .inr ((hh x y1).b b y2).2.2.2.1
  ·exact h3.elim
  ·rw [hput i e1] at h2
   exact back ⟨i, ob0, l, q1, h2, hfp q2 h3⟩
end
end Go.Proofs.Ytapchldnmkfkoab.Am
