import Derived.Test.YtapchldnmkfkoabAmPnMo
import Derived.Test.YtapchldnmkfkoabAmLw
import Derived.Test.YtapchldnmkfkoabAmRx
set_option linter.unusedVariables false
set_option linter.unusedSimpArgs false
set_option linter.unusedSectionVars false
namespace Go.Proofs.Ytapchldnmkfkoab.Am
namespace Na
open Go Go.Proofs
set_option linter.unusedSimpArgs false
set_option linter.unusedVariables false
set_option maxRecDepth 100000
theorem slc_front {α:Type} {l n:List α} (h:l.take n.length = n):slc l 0 (n.length:Int) = some n:=by
 have h1:n.length ≤ l.length:=by
  have:=congrArg List.length h
  rw [List.length_take] at this;omega
 unfold slc
 rw [if_pos (by omega)]
 simp only [Int.sub_zero,Int.toNat_natCast,Int.toNat_zero,List.drop_zero]
 rw [h]
theorem slc_some {α:Type} {l:List α} {a b:Nat} (h1:a ≤ b) (h2:b ≤ l.length):slc l (a:Int) (b:Int) = some ((l.drop a).take (b - a)):=by
 unfold slc
 rw [if_pos (by omega)]
 have:((b:Int) - (a:Int)).toNat = b - a:=by omega
 simp only [this,Int.toNat_natCast]
theorem ovr_take {α:Type} {l s:List α} {k:Nat} (h:k ≤ l.length):(ovr l k s).take (k + s.length) = l.take k ++ s:=by
 unfold ovr
 rw [List.take_append_of_le_length (by simp only [List.length_append,List.length_take];omega),List.take_of_length_le (by simp only [List.length_append,List.length_take];omega)]
theorem clr_take {α:Type} {l:List α} {a k:Nat} {z:α} (h:a ≤ l.length):(clrL l a k z).take a = l.take a:=by
 unfold clrL
 rw [List.append_assoc,List.take_append_of_le_length (by rw [List.length_take];omega),List.take_take,Nat.min_self]
theorem del_Node {k i j:Nat} {l:List TNodeR} (hk:k ≤ l.length) (h1:i ≤ j) (h2:j ≤ k) (hl:l.length ≤ 1048576) :
  ∃ l',slices_Delete_NodeR k (i:Int) (j:Int) l = some (l.take i ++ (l.take k).drop j,l')∧l'.take (l.take i ++ (l.take k).drop j).length = l.take i ++ (l.take k).drop j∧l'.length = l.length:=by
 unfold slices_Delete_NodeR
 rw [chkP_pos hk,chkP_pos (by omega)]
 by_cases hij:i = j
 ·subst hij
  have e:l.take i ++ (l.take k).drop i = l.take k:=by
   have:=List.take_append_drop i (l.take k)
   rwa [List.take_take,Nat.min_eq_left h2] at this
  rw [iqt,cnd_true,e]
  exact ⟨l,rfl,by rw [List.length_take,Nat.min_eq_left hk],rfl⟩
 rw [iqf (by omega),cnd_false]
 have s1:=slc_some (l:=l) (a:=0) (b:=i) (by omega) (by omega)
 rw [List.drop_zero,Nat.sub_zero] at s1
 have s2:=slc_some (l:=l) (a:=j) (b:=k) h2 hk
 have e2:(l.drop j).take (k - j) = (l.take k).drop j:=by rw [List.drop_take]
 rw [e2] at s2
 have s1':slc l 0 (i:Int) = some (l.take i):=s1
 have l1:(l.take i).length = i:=by rw [List.length_take];omega
 have l2:((l.take k).drop j).length = k - j:=by rw [List.length_drop,List.length_take];omega
 rw [s1',bnd_some,s2,bnd_some,l1,l2,chkP_pos (by omega),chkP_pos (by omega),nam_eq]
 have hov:(ovr l i ((l.take k).drop j)).length = l.length:=ovr_len (by rw [l2];omega)
 have ht:=ovr_take (l:=l) (s:=(l.take k).drop j) (k:=i) (by omega)
 rw [l2] at ht
 have hvl:(l.take i ++ (l.take k).drop j).length = i + (k - j):=by rw [List.length_append,l1,l2]
 have s3:slc (ovr l i ((l.take k).drop j)) 0 ((i:Int) + ((k - j:Nat):Int)) = some (l.take i ++ (l.take k).drop j):=by
  have:=slc_front (l:=ovr l i ((l.take k).drop j)) (n:=l.take i ++ (l.take k).drop j) (by rw [hvl];exact ht)
  rw [hvl] at this
  rwa [Int.natCast_add] at this
 rw [s3,bnd_some,hvl]
 have s4:=slc_some (l:=ovr l i ((l.take k).drop j)) (a:=i + (k - j)) (b:=k) (by omega) (by rw [hov];exact hk)
 rw [s4,bnd_some,nam_eq,Int.toNat_natCast]
 refine ⟨_,rfl,?_,?_⟩
 ·rw [clr_take (by rw [hov];omega),ht]
 ·rw [clrL_len,hov]
  rw [List.length_take,List.length_drop,hov];omega
theorem ins_NodeM {k i:Nat} {l v:List TNodeR} (hk:k ≤ l.length) (h1:i ≤ k) (hv:0 < v.length) (hv2:v.length ≤ 8) (he:k < l.length→k + v.length ≤ l.length ∨ i < k) (hl:l.length ≤ 1048576) :
  ∃ l',slices_Insert_NodeR k (i:Int) l v = some (l.take i ++ v ++ (l.take k).drop i,l')∧l'.take (l.take i ++ v ++ (l.take k).drop i).length = l.take i ++ v ++ (l.take k).drop i∧l'.length = l.length + (k + v.length - l.length):=by
 unfold slices_Insert_NodeR
 have hvl:(l.take i ++ v ++ (l.take k).drop i).length = k + v.length:=by
  simp only [List.length_append,List.length_take,List.length_drop];omega
 by_cases hi:i = k
 ·subst hi
  rw [iqt,cnd_true,chkP_pos hk,slc_some (Nat.le_refl _) hk,bnd_some,iqf (by omega),cnd_false]
  have hd:(l.take i).drop i = []:=List.drop_eq_nil_of_le (by rw [List.length_take];omega)
  rw [hd,List.append_nil]
  by_cases hw:i = l.length
  ·subst hw
   rw [iqt,cnd_true,chkP_pos (by omega),nam_eq,List.take_length]
   exact ⟨_,rfl,by rw [List.take_length],by rw [List.length_append];omega⟩
  ·have hf:i + v.length ≤ l.length:=by rcases he (by omega) with h | h <;> omega
   rw [iqf (by omega),cnd_false,chkP_pos hf,chkP_pos (by omega),nam_eq]
   have ht:=ovr_take (l:=l) (s:=v) (k:=i) (by omega)
   have hl2:(l.take i ++ v).length = i + v.length:=by rw [List.length_append,List.length_take];omega
   have s3:slc (ovr l i v) 0 ((i:Int) + (v.length:Int)) = some (l.take i ++ v):=by
    have:=slc_front (l:=ovr l i v) (n:=l.take i ++ v) (by rw [hl2];exact ht)
    rw [hl2] at this
    rwa [Int.natCast_add] at this
   rw [s3,bnd_some]
   exact ⟨_,rfl,by rw [hl2];exact ht,by rw [ovr_len hf];omega⟩
 ·rw [iqf (by omega),cnd_false,chkP_pos (by omega)]
  refine ⟨_,rfl,?_,?_⟩
  ·unfold insR insL
   simp only [Int.toNat_natCast]
   exact List.take_left
  ·rw [insR_len (by simp;omega) hk];omega
end Na
end Go.Proofs.Ytapchldnmkfkoab.Am
