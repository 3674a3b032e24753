import Derived.Test.YtapchldnmkfkoabAmCc
set_option linter.unusedVariables false
set_option linter.unusedSimpArgs false
set_option linter.unusedSectionVars false
namespace Go.Proofs.Ytapchldnmkfkoab.Am
open Go Go.RowKit
def fmOf (w:World):FM:=fun b=>w.heap[b]?
variable {P:Program} {E:FuncId→Md} {X:Xt}
theorem inv0 (w:World):Inv (fmOf w) LM.none (fun i=>([]:List Ob)[i]?) w :=
 ⟨fun _ _ h=>h,fun id ob h=>by simp at h,fun id id' ob ob' l l' b h=>by simp at h⟩
theorem vrl_nil {φ:FM} {m:LM}:VRL φ m [] []:=by simp [VRL]
theorem vrl_cons {φ:FM} {m:LM} {a:AV} {as:List AV} {v:Value} {vs:List Value} (h:VR φ m a v) (k:VRL φ m as vs):VRL φ m (a :: as) (v :: vs):=by
 simp only [VRL];exact ⟨v,vs,rfl,h,k⟩
def resG (P:Program) (s:St):List ResultVar→Option (List AV)
 | []=>some []
 | .tmp t :: rs=>(resG P s rs).map (lk s.tm t :: ·)
 | .cell a t :: rs=>match lkE s.nx (ldA P t (lk s.tm a) (lkp s.hp) s.nx),resG P s rs with
  | some e,some vs=>some (e.v :: vs)
  | _,_=>none
theorem resG_eq {s:St}:∀ {rs:List ResultVar},resV.go P s rs = resG P s rs
 | []=>rfl
 | .tmp t :: rs=>by simp only [resV.go,resG,resG_eq]
 | .cell a t :: rs=>by simp only [resV.go,resG,resG_eq];rfl
@[simp] theorem resG_nil {s:St}:resG P s [] = some []:=rfl
@[simp] theorem resG_tmp {s:St} {t rs}:resG P s (.tmp t :: rs) = (resG P s rs).map (lk s.tm t :: ·):=rfl
def cnE (e:Option Eff) (l:Option (List AV)):Option (List AV):=match e,l with
  | some e,some vs=>some (e.v :: vs)
  | _,_=>none
@[simp] theorem cnE_some {e l}:cnE (some e) (some l) = some (e.v :: l):=rfl
@[simp] theorem resG_cell {s:St} {a t rs}:resG P s (.cell a t :: rs) = cnE (lkE s.nx (ldA P t (lk s.tm a) (lkp s.hp) s.nx)) (resG P s rs):=rfl
def resW (P:Program) (s:St):List ResultVar→Option AV
 | [.tmp t]=>some (lk s.tm t)
 | [.cell a t]=>(lkE s.nx (ldA P t (lk s.tm a) (lkp s.hp) s.nx)).map (·.v)
 | rs=>(resG P s rs).map .tup
@[simp] theorem resV_eq {fn:Func} {s:St}:resV P fn s = resW P s fn.results.toList:=by
 unfold resV resW
 split <;> simp_all [resG_eq]
@[simp] theorem resW_tmp {s:St} {t}:resW P s [.tmp t] = some (lk s.tm t):=rfl
@[simp] theorem resW_cell {s:St} {a t}:resW P s [.cell a t] = (lkE s.nx (ldA P t (lk s.tm a) (lkp s.hp) s.nx)).map (·.v):=rfl
@[simp] theorem resW_nil {s:St}:resW P s [] = some (.tup []):=rfl
@[simp] theorem resW_many {s:St} {a b rs}:resW P s (a :: b :: rs) = (resG P s (a :: b :: rs)).map .tup:=by
 unfold resW;split <;> simp_all
mutual
theorem ren_no {f:Nat→Nat}:∀ {v:AV},ids v = []→ren f v = v
 | .osl ..,h=>by simp at h
 | .optr ..,h=>by simp at h
 | .eptr ..,h=>by simp at h
 | .slf ..,h=>by simp at h
 | .agg cs,h=>by simp only [ids_agg] at h;simp only [ren_agg,renL_no h]
 | .tup cs,h=>by simp only [ids_tup] at h;simp only [ren_tup,renL_no h]
 | .func fn a c,h=>by
  simp only [ids_func,List.append_eq_nil_iff] at h
  simp only [ren,renL_no h.1,renL_no h.2]
 | .any,_ | .bool _,_ | .int _ _,_ | .str _,_ | .fsl _,_ | .fptr _ _,_ | .nilf,_ | .nilp,_ | .nilsl,_ | .nili,_ | .raw _,_=>by simp [ren]
theorem renL_no {f:Nat→Nat}:∀ {cs:List AV},idsL cs = []→renL f cs = cs
 | [],_=>by simp
 | c :: cs,h=>by
  simp only [idsL_cons,List.append_eq_nil_iff] at h
  simp only [renL_cons,ren_no h.1,renL_no h.2]
end
def thn1 (v:Option AV) (o:Ob):Option (AV×List Ob):=match v with
 | none=>none
 | some v=>some (v,[o])
@[simp] theorem thn1_some {v o}:thn1 (some v) o = some (v,[o]):=rfl
mutual
theorem ren_congr {f h:Nat→Nat}:∀ {v:AV},(∀ x ∈ ids v,f x = h x)→ren f v = ren h v
 | .osl ..,hh=>by simp at hh;simp [hh]
 | .optr ..,hh=>by simp at hh;simp [hh]
 | .eptr ..,hh=>by simp at hh;simp [hh]
 | .slf ..,hh=>by simp at hh;simp [hh]
 | .agg cs,hh=>by simp only [ids_agg] at hh;simp only [ren_agg,renL_congr hh]
 | .tup cs,hh=>by simp only [ids_tup] at hh;simp only [ren_tup,renL_congr hh]
 | .func fn a c,hh=>by
  simp only [ids_func,List.mem_append] at hh
  simp only [ren,renL_congr fun x hx=>hh x (.inl hx),renL_congr fun x hx=>hh x (.inr hx)]
 | .any,_ | .bool _,_ | .int _ _,_ | .str _,_ | .fsl _,_ | .fptr _ _,_ | .nilf,_ | .nilp,_ | .nilsl,_ | .nili,_ | .raw _,_=>by simp [ren]
theorem renL_congr {f h:Nat→Nat}:∀ {cs:List AV},(∀ x ∈ idsL cs,f x = h x)→renL f cs = renL h cs
 | [],_=>by simp
 | c :: cs,hh=>by
  simp only [idsL_cons,List.mem_append] at hh
  simp only [renL_cons,ren_congr fun x hx=>hh x (.inl hx),renL_congr fun x hx=>hh x (.inr hx)]
end
end Go.Proofs.Ytapchldnmkfkoab.Am
