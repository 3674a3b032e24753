import Derived.Test.YtfhglldoejeedaaAmEw
namespace Go.Proofs.Ytfhglldoejeedaa.Am
open Go Go.RowKit

/-! ## From a run of the abstract machine to a call of the program -/
def fmOf (w : World) : FM := fun b => w.heap[b]?

variable {P : Program} {E : FuncId → Md} {X : Xt}

theorem inv0 (w : World) : Inv (fmOf w) LM.none (fun i => ([] : List Ob)[i]?) w :=
  ⟨fun _ _ h => h, fun id ob h => by simp at h, fun id id' ob ob' l l' h => by simp at h⟩

theorem calls_of (hX : XtS P X) (hm : P.follows .mixedOrders = true) {f : FuncId} {args : List AV} {cargs : Array Value} {b : Bool} {W : World}
    (h : callI P E X f args [] = some (.bool b, [])) (hv : VRL (fmOf W) LM.none args cargs.toList) : Calls P f cargs W fun e W' => e = .returned (.bool b) ∧ Below W.heap.size W W' := by
  obtain ⟨_, hc⟩ := callI_sound hX hm f args [] (.bool b) [] h
  refine (hc (fmOf W) LM.none W cargs hv (inv0 W) fun _ _ => rfl).mono fun e W' ⟨cv, he, φ', m', h1, _, h3, _⟩ => ?_
  simp only [VR] at h1
  subst h1
  refine ⟨he, h3.os, h3.tape, h3.output, h3.size, fun k hk => h3.old k hk ?_⟩
  rintro ⟨id, ob, l, h, _⟩
  exact absurd h (by simp)

abbrev X0 : Xt := fun _ => none
theorem X0_sound : XtS P X0 := fun f x h => by simp at h

theorem vrl_nil {φ : FM} {m : LM} : VRL φ m [] [] := by simp [VRL]
theorem vrl_cons {φ : FM} {m : LM} {a : AV} {as : List AV} {v : Value} {vs : List Value} (h : VR φ m a v) (k : VRL φ m as vs) : VRL φ m (a :: as) (v :: vs) := by
  simp only [VRL]; exact ⟨v, vs, rfl, h, k⟩
theorem vr_int {φ : FM} {m : LM} {k : IntKind} {n : Int} : VR φ m (.int k n) (.int k n) := by simp [VR]
theorem vr_bool {φ : FM} {m : LM} {b : Bool} : VR φ m (.bool b) (.bool b) := by simp [VR]

def resG (P : Program) (s : St) : List ResultVar → Option (List AV)
  | [] => some []
  | .tmp t :: rs => (resG P s rs).map (lk s.tm t :: ·)
  | .cell a t :: rs => match ldA P t (lk s.tm a) (lkp s.hp) s.nx, resG P s rs with
    | some e, some vs => some (e.v :: vs)
    | _, _ => none
theorem resG_eq {s : St} : ∀ {rs : List ResultVar}, resV.go P s rs = resG P s rs
  | [] => rfl
  | .tmp t :: rs => by simp only [resV.go, resG, resG_eq]
  | .cell a t :: rs => by simp only [resV.go, resG, resG_eq]; rfl
@[simp] theorem resG_nil {s : St} : resG P s [] = some [] := rfl
@[simp] theorem resG_tmp {s : St} {t rs} : resG P s (.tmp t :: rs) = (resG P s rs).map (lk s.tm t :: ·) := rfl
def cnE (e : Option Eff) (l : Option (List AV)) : Option (List AV) := match e, l with
    | some e, some vs => some (e.v :: vs)
    | _, _ => none
@[simp] theorem cnE_some {e l} : cnE (some e) (some l) = some (e.v :: l) := rfl
@[simp] theorem resG_cell {s : St} {a t rs} : resG P s (.cell a t :: rs) = cnE (ldA P t (lk s.tm a) (lkp s.hp) s.nx) (resG P s rs) := rfl
def resW (P : Program) (s : St) : List ResultVar → Option AV
  | [.tmp t] => some (lk s.tm t)
  | [.cell a t] => (ldA P t (lk s.tm a) (lkp s.hp) s.nx).map (·.v)
  | rs => (resG P s rs).map .tup
@[simp] theorem resV_eq {fn : Func} {s : St} : resV P fn s = resW P s fn.results.toList := by
  unfold resV resW
  split <;> simp_all [resG_eq]
@[simp] theorem resW_tmp {s : St} {t} : resW P s [.tmp t] = some (lk s.tm t) := rfl
@[simp] theorem resW_cell {s : St} {a t} : resW P s [.cell a t] = (ldA P t (lk s.tm a) (lkp s.hp) s.nx).map (·.v) := rfl
@[simp] theorem resW_nil {s : St} : resW P s [] = some (.tup []) := rfl
@[simp] theorem resW_many {s : St} {a b rs} : resW P s (a :: b :: rs) = (resG P s (a :: b :: rs)).map .tup := by
  unfold resW; split <;> simp_all
@[simp] theorem doneV_one {v : AV} {md : Md} {g : Nat → Option Ob} (hk : md.keep = false) (hi : ids v = []) : doneV md 0 g v = thn (frz g v) := by
  rw [doneV_f hk]
  rw [hi]; simp [clo_nil, closed]
@[simp] theorem doneV_o {md : Md} {g : Nat → Option Ob} {i off len tot : Nat} (hk : md.keep = false) : doneV md 0 g (.osl i off len tot) = thn (frzS (g i) off len tot) := by
  unfold doneV
  simp only [hk, List.range_zero, clo_nil]
  have : frz g (.osl i off len tot) = frzS (g i) off len tot := by rw [frz_eq, frzW_osl]
  rw [this]
  cases h : g i with
  | none => simp [frzS, thn, closed]
  | some o =>
    cases o with
    | box cs => simp [frzS, thn, closed]
    | arr z es r =>
      have hc : clo g 3 [i] = [i] := by simp [clo, addTo, h, Ob.ids]
      simp only [ids_osl, addTo_cons, addTo_nil, List.contains_nil, Bool.false_eq_true, if_false, List.nil_append, hc, closed, h, Ob.ids, outOf, frzS, thn, List.any_cons, List.any_nil, List.all_nil, List.all_cons, Bool.and_self, Bool.not_true, Bool.or_self]
      by_cases hq : tot = es.length ∧ off + len ≤ es.length
      · simp [hq]
      · simp [hq]
end Go.Proofs.Ytfhglldoejeedaa.Am
