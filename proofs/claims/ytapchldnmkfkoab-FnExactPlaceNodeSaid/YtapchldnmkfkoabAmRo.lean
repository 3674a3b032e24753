import Derived.Test.YtapchldnmkfkoabAmMe
import Derived.Test.YtapchldnmkfkoabAmArg
set_option linter.unusedVariables false
set_option linter.unusedSimpArgs false
set_option linter.unusedSectionVars false
namespace Go.Proofs.Ytapchldnmkfkoab.Am
open Go Go.RowKit
theorem calls_ok {P:Program} {f:FuncId} {x:List AV→List Ob→Option (AV×List Ob)} (hx:Sound P f x) {args:List AV} {cargs:Array Value} {b:Bool} {W:World}
  (h:x args [] = some (.bool b,[])) (hv:VRL (fmOf W) LM.none args cargs.toList):Calls P f cargs W fun e W'=>e = .returned (.bool b)∧Below W.heap.size W W':=by
 obtain ⟨_,hc⟩:=hx args [] _ _ h
 refine (hc (fmOf W) LM.none W cargs hv (inv0 W) fun _ _=>rfl).mono fun e W' ⟨cv,he,φ',m',h1,_,h3,_⟩=>?_
 simp only [VR] at h1
 subst h1
 refine ⟨he,h3.os,h3.tape,h3.output,h3.size,fun k hk=>h3.old k hk ?_⟩
 rintro ⟨id,ob,l,h,_⟩
 exact absurd h (by simp)
def okN (k:IntKind) (n:Int):Prop:=(Lit.int k n).wf = true
def okL {α:Type} (p:α→Prop) (l:List α):Prop:=l.length ≤ maxLen∧∀ x ∈ l,p x
structure Dm {α:Type} (T:Ty) (e:α→AV) (p:α→Prop):Prop where
 h:∀ cs,Dom T cs→∃ x,elA T cs = e x∧p x
theorem dm_int {k:IntKind}:Dm (.int k) (AV.int k) (okN k):=⟨fun cs h=>by
 simp only [Dom] at h;obtain ⟨n,rfl,hn⟩:=h;exact ⟨n,rfl,hn⟩⟩
theorem dm_bool:Dm .bool AV.bool (fun _=>True):=⟨fun cs h=>by
 simp only [Dom] at h;obtain ⟨n,rfl⟩:=h;exact ⟨n,rfl,trivial⟩⟩
theorem dm_sl {α:Type} {T:Ty} {e:α→AV} {p:α→Prop} (d:Dm T e p):Dm (.slice T) (eSl e) (okL p):=⟨fun cs h=>by
 simp only [Dom] at h
 obtain ⟨els,rfl,hl,he⟩:=h
 have key:∀ els:List AV,(∀ x ∈ els,∃ c,x = elA T c∧Dom T c)→∃ l:List α,els = l.map e∧∀ x ∈ l,p x:=by
  intro els
  induction els with
  | nil=>intro _;exact ⟨[],rfl,by simp⟩
  | cons x els ih =>
   intro h
   obtain ⟨c,rfl,hc⟩:=h x (by simp)
   obtain ⟨y,h1,h2⟩:=d.h c hc
   obtain ⟨l,h3,h4⟩:=ih fun x hx=>h x (by simp [hx])
   refine ⟨y :: l,by simp [h1,h3],?_⟩
   intro z hz
   rcases List.mem_cons.1 hz with rfl | hz
   ·exact h2
   ·exact h4 z hz
 obtain ⟨l,h1,h2⟩:=key els he
 subst h1
 exact ⟨l,rfl,by simpa using hl,h2⟩⟩
theorem Dm.c {α:Type} {T:Ty} {e:α→AV} {p:α→Prop} (d:Dm T e p) {cs:List AV} (h:Dom T cs):∃ x,cs = (e x).cells∧p x:=by
 obtain ⟨x,h1,h2⟩:=d.h cs h
 exact ⟨x,by rw [← h1,elA_cells h],h2⟩
end Go.Proofs.Ytapchldnmkfkoab.Am
