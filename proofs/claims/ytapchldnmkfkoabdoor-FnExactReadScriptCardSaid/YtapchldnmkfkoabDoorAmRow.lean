import Derived.Test.YtapchldnmkfkoabDoorAmCc
set_option linter.unusedVariables false
set_option linter.unusedSimpArgs false
set_option linter.unusedSectionVars false
namespace Go.Proofs.YtapchldnmkfkoabDoor.Am
open Go Go.RowKit

/-! ## From a run of the abstract machine to a call of the program -/
def fmOf (w : World) (h : GLp fun b => w.heap[b]?) : FM := ⟨fun b => w.heap[b]?, h⟩

variable {P : Program} {E : FuncId → Md} {X : Xt}

theorem inv0 (w : World) {hG : GLp fun b => w.heap[b]?} : Inv (fmOf w hG) LM.none (fun i => ([] : List Ob)[i]?) w :=
  ⟨fun _ _ h => h, fun id ob h => by simp at h, fun id id' ob ob' l l' b h => by simp at h⟩

theorem calls_of (hX : XtS P X) (hm : P.follows .mixedOrders = true) {f : FuncId} {args : List AV} {cargs : Array Value} {b : Bool} {W : World} {hG : GLp fun b => W.heap[b]?}
    (h : callI P E X f args [] = some (.bool b, [])) (hv : VRL (fmOf W hG) LM.none args cargs.toList) : Calls P f cargs W fun e W' => e = .returned (.bool b) ∧ Below W.heap.size W W' := by
  obtain ⟨_, hc⟩ := callI_sound hX hm f args [] (.bool b) [] h
  refine (hc (fmOf W hG) LM.none W cargs hv (inv0 W) fun _ _ => rfl).mono fun e W' ⟨cv, he, φ', m', h1, _, h3, _⟩ => ?_
  simp only [VR] at h1
  subst h1
  refine ⟨he, h3.os, h3.tape, h3.output, h3.size, fun k hk => h3.old k hk ?_⟩
  rintro ⟨id, ob, l, h, _⟩
  exact absurd h (by simp)

abbrev X0 : Xt := fun _ => none
theorem X0_sound : XtS P X0 := fun f x h => by simp at h

theorem vrl_nil {φ : FM} {m : LM} : VRL φ m [] [] := by simp [VRL]
theorem vrl_cons {φ : FM} {m : LM} {a : AV} {as : List AV} {v : Value} {vs : List Value} (h : VR φ m a v) (k : VRL φ m as vs) : VRL φ m (a :: as) (v :: vs) := by
  simp only [VRL]; exact ⟨v, vs, rfl, h, k⟩
theorem vr_int {φ : FM} {m : LM} {k : IntKind} {n : Int} : VR φ m (.int k n) (.int k n) := by simp [VR]
theorem vr_bool {φ : FM} {m : LM} {b : Bool} : VR φ m (.bool b) (.bool b) := by simp [VR]

def resG (P : Program) (s : St) : List ResultVar → Option (List AV)
  | [] => some []
  | .tmp t :: rs => (resG P s rs).map (lk s.tm t :: ·)
  | .cell a t :: rs => match lkE s.nx (ldA P t (lk s.tm a) (lkp s.hp) s.nx), resG P s rs with
    | some e, some vs => some (e.v :: vs)
    | _, _ => none
theorem resG_eq {s : St} : ∀ {rs : List ResultVar}, resV.go P s rs = resG P s rs
  | [] => rfl
  | .tmp t :: rs => by simp only [resV.go, resG, resG_eq]
  | .cell a t :: rs => by simp only [resV.go, resG, resG_eq]; rfl
@[simp] theorem resG_nil {s : St} : resG P s [] = some [] := rfl
@[simp] theorem resG_tmp {s : St} {t rs} : resG P s (.tmp t :: rs) = (resG P s rs).map (lk s.tm t :: ·) := rfl
def cnE (e : Option Eff) (l : Option (List AV)) : Option (List AV) := match e, l with
    | some e, some vs => some (e.v :: vs)
    | _, _ => none
@[simp] theorem cnE_some {e l} : cnE (some e) (some l) = some (e.v :: l) := rfl
@[simp] theorem resG_cell {s : St} {a t rs} : resG P s (.cell a t :: rs) = cnE (lkE s.nx (ldA P t (lk s.tm a) (lkp s.hp) s.nx)) (resG P s rs) := rfl
def resW (P : Program) (s : St) : List ResultVar → Option AV
  | [.tmp t] => some (lk s.tm t)
  | [.cell a t] => (lkE s.nx (ldA P t (lk s.tm a) (lkp s.hp) s.nx)).map (·.v)
  | rs => (resG P s rs).map .tup
@[simp] theorem resV_eq {fn : Func} {s : St} : resV P fn s = resW P s fn.results.toList := by
  unfold resV resW
  split <;> simp_all [resG_eq]
@[simp] theorem resW_tmp {s : St} {t} : resW P s [.tmp t] = some (lk s.tm t) := rfl
@[simp] theorem resW_cell {s : St} {a t} : resW P s [.cell a t] = (lkE s.nx (ldA P t (lk s.tm a) (lkp s.hp) s.nx)).map (·.v) := rfl
@[simp] theorem resW_nil {s : St} : resW P s [] = some (.tup []) := rfl
@[simp] theorem resW_many {s : St} {a b rs} : resW P s (a :: b :: rs) = (resG P s (a :: b :: rs)).map .tup := by
  unfold resW; split <;> simp_all
@[simp] theorem doneV_one {v : AV} {md : Md} {g : Nat → Option Ob} (hk : md.keep = false) (hi : ids v = []) : doneV md 0 g v = thn (frz g v) := by
  rw [doneV_f hk]
  rw [hi]; simp [clo_nil, closed]
@[simp] theorem doneV_o {md : Md} {g : Nat → Option Ob} {i off len tot : Nat} (hk : md.keep = false) : doneV md 0 g (.osl i off len tot) = thn (frzS (g i) off len tot) := by
  unfold doneV
  simp only [hk, List.range_zero, clo_nil]
  have : frz g (.osl i off len tot) = frzS (g i) off len tot := by rw [frz_eq, frzW_osl]
  rw [this]
  cases h : g i with
  | none => simp [frzS, thn, closed]
  | some o =>
    cases o with
    | box cs => simp [frzS, thn, closed]
    | gone n => simp [frzS, thn, closed]
    | nar z e r =>
      by_cases hi : idsL e = []
      · have hc : clo g 3 [i] = [i] := by simp [clo, addTo, h, Ob.ids, hi]
        simp only [ids_osl, addTo_cons, addTo_nil, List.contains_nil, Bool.false_eq_true, if_false, List.nil_append, hc, closed, h, Ob.ids, hi, outOf, frzS, thn, List.any_cons, List.any_nil, List.all_nil, List.all_cons, Bool.and_self, Bool.not_true, Bool.or_self]
        by_cases hq : tot = e.length ∧ off + len ≤ e.length
        · simp [hq]
        · simp [hq]
      · have hn : frzS (some (.nar z e r)) off len tot = none := by simp [frzS, hi]
        rw [hn]
        simp [thn]
    | bld t c => simp [frzS, thn]
    | arr z es r =>
      have hc : clo g 3 [i] = [i] := by simp [clo, addTo, h, Ob.ids]
      simp only [ids_osl, addTo_cons, addTo_nil, List.contains_nil, Bool.false_eq_true, if_false, List.nil_append, hc, closed, h, Ob.ids, outOf, frzS, thn, List.any_cons, List.any_nil, List.all_nil, List.all_cons, Bool.and_self, Bool.not_true, Bool.or_self]
      by_cases hq : tot = es.length ∧ off + len ≤ es.length
      · simp [hq]
      · simp [hq]

mutual
theorem ren_no {f : Nat → Nat} : ∀ {v : AV}, ids v = [] → ren f v = v
  | .osl .., h => by simp at h
  | .optr .., h => by simp at h
  | .eptr .., h => by simp at h
  | .slf .., h => by simp at h
  | .agg cs, h => by simp only [ids_agg] at h; simp only [ren_agg, renL_no h]
  | .tup cs, h => by simp only [ids_tup] at h; simp only [ren_tup, renL_no h]
  | .func fn a c, h => by
    simp only [ids_func, List.append_eq_nil_iff] at h
    simp only [ren, renL_no h.1, renL_no h.2]
  | .any, _ | .bool _, _ | .int _ _, _ | .str _, _ | .fsl _, _ | .fptr _ _, _ | .nilf, _ | .nilp, _ | .nilsl, _ | .nili, _ | .raw _, _ => by simp [ren]
theorem renL_no {f : Nat → Nat} : ∀ {cs : List AV}, idsL cs = [] → renL f cs = cs
  | [], _ => by simp
  | c :: cs, h => by
    simp only [idsL_cons, List.append_eq_nil_iff] at h
    simp only [renL_cons, ren_no h.1, renL_no h.2]
end

def thn1 (v : Option AV) (o : Ob) : Option (AV × List Ob) := match v with
  | none => none
  | some v => some (v, [o])
@[simp] theorem thn1_some {v o} : thn1 (some v) o = some (v, [o]) := rfl
/-- One own box came in, that leads nowhere; what goes out is frozen. -/
theorem doneV_b1 {md : Md} {g : Nat → Option Ob} {v : AV} {cs : List AV} (hk : md.keep = false) (hg : g 0 = some (.box cs)) (hc : idsL cs = []) (hv : ids v = []) :
    doneV md 1 g v = thn1 (frz g v) (.box cs) := by
  have h1 : clo g 3 [0] = [0] := by simp [clo, hg, Ob.ids, hc]
  unfold doneV
  simp only [hk, List.range_one, h1, hv, addTo_nil, clo_nil]
  simp only [closed, List.all_cons, hg, Ob.ids, hc, List.all_nil, Bool.and_self, Bool.not_true, List.any_nil, Bool.or_self, Bool.false_eq_true, if_false, outOf]
  unfold thn1
  cases frz g v with
  | none => rfl
  | some v => simp [Ob.ren, renL_no hc]

mutual
theorem ren_congr {f h : Nat → Nat} : ∀ {v : AV}, (∀ x ∈ ids v, f x = h x) → ren f v = ren h v
  | .osl .., hh => by simp at hh; simp [hh]
  | .optr .., hh => by simp at hh; simp [hh]
  | .eptr .., hh => by simp at hh; simp [hh]
  | .slf .., hh => by simp at hh; simp [hh]
  | .agg cs, hh => by simp only [ids_agg] at hh; simp only [ren_agg, renL_congr hh]
  | .tup cs, hh => by simp only [ids_tup] at hh; simp only [ren_tup, renL_congr hh]
  | .func fn a c, hh => by
    simp only [ids_func, List.mem_append] at hh
    simp only [ren, renL_congr fun x hx => hh x (.inl hx), renL_congr fun x hx => hh x (.inr hx)]
  | .any, _ | .bool _, _ | .int _ _, _ | .str _, _ | .fsl _, _ | .fptr _ _, _ | .nilf, _ | .nilp, _ | .nilsl, _ | .nili, _ | .raw _, _ => by simp [ren]
theorem renL_congr {f h : Nat → Nat} : ∀ {cs : List AV}, (∀ x ∈ idsL cs, f x = h x) → renL f cs = renL h cs
  | [], _ => by simp
  | c :: cs, hh => by
    simp only [idsL_cons, List.mem_append] at hh
    simp only [renL_cons, ren_congr fun x hx => hh x (.inl hx), renL_congr fun x hx => hh x (.inr hx)]
end

/-- A call that is handed one own box, which leads nowhere. -/
theorem callV_b1 {cl : Cl} {E : FuncId → Md} {f : FuncId} {args : List AV} {g : Nat → Option Ob} {nx id : Nat} {cs cs' : List AV} {v : AV} (ho : (E f).own = true) (hi : addTo [] (idsL args) = [id]) (hg : g id = some (.box cs)) (hc : idsL cs = [])
    (hr : cl f (renL (fun _ => 0) args) [.box cs] = some (v, [.box cs'])) (hs : ∀ x ∈ idsL args, x = id) (hv : ids v = []) (hc' : idsL cs' = []) : callV cl E f args g nx = some ⟨v, [id], [(id, .box cs')], nx⟩ := by
  have h1 : clo g 3 [id] = [id] := by simp [clo, hg, Ob.ids, hc]
  have h2 : renL (ixOf [id]) args = renL (fun _ => 0) args := renL_congr fun x hx => by rw [hs x hx]; simp [ixOf]
  unfold callV
  simp only [hi, h1, ho, if_true, closed, List.all_cons, List.all_nil, hg, Ob.ids, hc, Bool.and_self, Bool.not_true, Bool.false_eq_true, if_false, outOf, List.map_cons, List.map_nil, Ob.ren, renL_no hc, h2, hr, ren_no hv, renL_no hc', zipTo, zipAt, List.length_cons, List.length_nil, List.drop_succ_cons, List.drop_zero, List.append_nil]
  simp

/-- A loop, by a measure: what holds at its head, and what comes of it. -/
theorem loop_ind {α X : Type} {cl : Cl} {E : FuncId → Md} {D : Option (Ex × St) → α} {c : Code} {K : List Fm} (I : X → St → Prop) (R : X → α) (m : X → Nat)
    (step : ∀ x s, I x s → (∀ y s', m y < m x → I y s' → go P cl E D (.loop c) s' K = R y) → go P cl E D c s (.lp c :: K) = R x) : ∀ x s, I x s → go P cl E D (.loop c) s K = R x := by
  intro x
  induction h : m x using Nat.strongRecOn generalizing x with
  | ind n ih =>
    intro s hs
    rw [go_loop]
    exact step x s hs fun y s' hlt hy => ih (m y) (h ▸ hlt) y rfl s' hy
end Go.Proofs.YtapchldnmkfkoabDoor.Am
