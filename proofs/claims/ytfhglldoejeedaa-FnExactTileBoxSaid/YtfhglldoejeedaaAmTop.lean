import Derived.Test.YtfhglldoejeedaaAmG2
namespace Go.Proofs.Ytfhglldoejeedaa.Am
open Go

variable {P : Program}

section
variable {φ : FM} {m : LM} {w : World}

theorem loadVar_of {t : TypeId} {c v : Value} (h : (Instr.loadAt t c).run P w = .ok v w) : (do loadVar t (← asAddr c) : Sem Value).run P w = .ok v w := by
  cases c <;> try (simp [Instr.loadAt, Instr.sureAddr] at h; done)
  rename_i a
  cases a with
  | none => simp [Instr.loadAt, Instr.sureAddr] at h
  | some a => simpa [Instr.loadAt, Instr.sureAddr, asAddr] using h

def rfun (a : Act) : ResultVar → Sem Value
  | .tmp t => pure (a.tmps.getD t undef)
  | .cell c t => do loadVar t (← asAddr (a.tmps.getD c undef))

theorem res_run {n : Nat} {s : St} {a : Act} (h : SR P n φ m s a w) {rs : List ResultVar} {vs : List AV} (hr : resV.go P s rs = some vs) :
    ∃ cvs : List Value, (rs.mapM (rfun a)).run P w = .ok cvs w ∧ VRL φ m vs cvs := by
  induction rs generalizing vs with
  | nil =>
    simp only [resV.go, Option.some.injEq] at hr; subst hr
    exact ⟨[], by simp, by simp [VRL]⟩
  | cons r rs ih =>
    cases r with
    | tmp t =>
      simp only [resV.go, Option.map_eq_some_iff] at hr
      obtain ⟨vs, hr, rfl⟩ := hr
      obtain ⟨cvs, h1, h2⟩ := ih hr
      exact ⟨a.tmps.getD t undef :: cvs, by simp only [List.mapM_cons, rfun, Sem.run_bind, Sem.run_pure, Result.andThen_ok, h1], by simp only [VRL]; exact ⟨_, _, rfl, h.vr t, h2⟩⟩
    | cell c t =>
      simp only [resV.go] at hr
      split at hr
      · rename_i e vs he hgo
        cases hr
        obtain ⟨cvs, h1, h2⟩ := ih hgo
        obtain ⟨cv, k1, k2, _⟩ := ld_sound (P := P) (g := lkp s.hp) he (fun _ _ => rfl) h.inv (h.vr c)
        refine ⟨cv :: cvs, ?_, by simp only [VRL]; exact ⟨_, _, rfl, k2, h2⟩⟩
        rw [List.mapM_cons]
        have := loadVar_of k1
        have e2 : (rfun a (.cell c t)).run P w = .ok cv w := this
        simp only [Sem.run_bind, e2, h1, Result.andThen_ok, Sem.run_pure]
      · cases hr

theorem results_run {n : Nat} {fn : Func} {s : St} {a : Act} {v : AV} (h : SR P n φ m s a w) (hr : resV P fn s = some v) : ∃ cv, (results fn a.tmps).run P w = .ok cv w ∧ VR φ m v cv := by
  have key : ∀ {vs : List AV}, resV.go P s fn.results.toList = some vs → ∃ cvs : Array Value, (results fn a.tmps).run P w = .ok (if h : cvs.size = 1 then cvs[0] else .tuple cvs) w ∧ VRL φ m vs cvs.toList := by
    intro vs hvs
    obtain ⟨cvs, h1, h2⟩ := res_run (P := P) h hvs
    refine ⟨cvs.toArray, ?_, by simpa using h2⟩
    have e : results fn a.tmps = (do let vs ← fn.results.mapM (rfun a); pure (if h : vs.size = 1 then vs[0] else .tuple vs)) := rfl
    rw [e, Array.mapM_eq_mapM_toList]
    simp only [Sem.run_bind, Sem.run_map, h1, Result.andThen_ok, Sem.run_pure]
  unfold resV at hr
  split at hr
  · rename_i t ht
    cases hr
    obtain ⟨cvs, h1, h2⟩ := key (vs := [lk s.tm t]) (by rw [ht]; simp [resV.go])
    have hl := VRL_len h2
    simp only [List.length_singleton, Array.length_toList] at hl
    refine ⟨_, h1, ?_⟩
    rw [dif_pos hl]
    obtain ⟨cv, e1, e2⟩ := VRL_get (i := 0) h2 rfl
    have : cvs[0] = cv := by
      have : cvs[0]? = some cv := by simpa using e1
      rw [Array.getElem?_eq_getElem (by omega)] at this
      exact Option.some.inj this
    rw [this]; exact e2
  · rename_i c t ht
    simp only [Option.map_eq_some_iff] at hr
    obtain ⟨e, he, rfl⟩ := hr
    obtain ⟨cvs, h1, h2⟩ := key (vs := [e.v]) (by rw [ht]; simp [resV.go, he])
    have hl := VRL_len h2
    simp only [List.length_singleton, Array.length_toList] at hl
    refine ⟨_, h1, ?_⟩
    rw [dif_pos hl]
    obtain ⟨cv, e1, e2⟩ := VRL_get (i := 0) h2 rfl
    have : cvs[0] = cv := by
      have : cvs[0]? = some cv := by simpa using e1
      rw [Array.getElem?_eq_getElem (by omega)] at this
      exact Option.some.inj this
    rw [this]; exact e2
  · rename_i h1 h2
    simp only [Option.map_eq_some_iff] at hr
    obtain ⟨vs, hvs, rfl⟩ := hr
    obtain ⟨cvs, k1, k2⟩ := key hvs
    refine ⟨_, k1, ?_⟩
    rw [dif_neg]
    · simp only [VR]; exact ⟨cvs, rfl, k2⟩
    · intro hs
      have hl := VRL_len k2
      simp only [Array.length_toList, hs] at hl
      -- as many values as results
      have hlen : ∀ (rs : List ResultVar) (vs : List AV), resV.go P s rs = some vs → vs.length = rs.length := by
        intro rs
        induction rs with
        | nil => intro vs h; simp only [resV.go, Option.some.injEq] at h; subst h; rfl
        | cons r rs ih =>
          intro vs h
          cases r with
          | tmp t =>
            simp only [resV.go, Option.map_eq_some_iff] at h
            obtain ⟨vs, h, rfl⟩ := h
            simp [ih vs h]
          | cell c t =>
            simp only [resV.go] at h
            split at h
            · rename_i e vs he hgo
              cases h; simp [ih vs hgo]
            · cases h
      have := hlen _ _ hvs
      cases hf : fn.results.toList with
      | nil => rw [hf] at this; simp only [List.length_nil] at this; omega
      | cons r rs =>
        cases rs with
        | nil =>
          cases r with
          | tmp t => exact h1 t hf
          | cell c t => exact h2 c t hf
        | cons _ _ => rw [hf] at this; simp only [List.length_cons] at this; omega

theorem bodyF_sound {cl : Cl} {E : FuncId → Md} {k : Nat} {f : FuncId} {fn : Func} {args : List AV} {obs : List Ob} {v : AV} {obs' : List Ob} (hcl : ClS' P cl) (hm : P.follows .mixedOrders = true)
    (hf : P.funcs[f]? = some fn) (hc : chkF fn = true) (h : bodyF P cl E k f fn args obs = some (v, obs')) : Bodied P f ∧ CallOK P f args obs v obs' := by
  unfold chkF at hc
  unfold bodyF at h
  split at h
  · cases h
  rename_i b hb
  rw [hb] at hc
  simp only [Bool.and_eq_true] at hc
  refine ⟨⟨fn, b, hf, hb, by simpa using hc.2⟩, ?_⟩
  split at h
  · rename_i hal
    intro φ m w cargs hv hinv hmn
    have hcs : cargs.size = args.length := by simpa using VRL_len hv
    have hz : lkp (zipAt 0 obs) = fun i => obs[i]? := by funext i; rw [lkp_zipAt]; simp
    have hr0 : Rel P fn.ntmps φ m (fun i => obs[i]?) w (startS args obs) { tmps := cargs ++ Array.replicate (fn.ntmps - cargs.size) undef, defers := [] } w := by
      refine ⟨φ, m, ⟨?_, fun t => ?_, ?_, ?_, rfl⟩, ?_⟩
      · simp; omega
      · show VR φ m (lk (tm0 0 args) t) _
        rw [lk_tm0]
        simp only [Nat.zero_le, if_true, Nat.sub_zero]
        cases ha : args[t]? with
        | none => simp [VR]
        | some x =>
          obtain ⟨cx, h1, h2⟩ := VRL_get hv ha
          have ht : t < cargs.size := by have := (List.getElem?_eq_some_iff.1 ha).1; omega
          have h3 : cargs[t]? = some cx := by simpa using h1
          have : (cargs ++ Array.replicate (fn.ntmps - cargs.size) undef).getD t undef = cx := by
            rw [Array.getD_eq_getD_getElem?, Array.getElem?_append_left ht, h3]; rfl
          simp only [this, Option.getD_some]; exact h2
      · show Inv φ m (lkp (zipAt 0 obs)) w
        rw [hz]; exact hinv
      · exact hmn
      · show Fr φ m (fun i => obs[i]?) w φ m (lkp (zipAt 0 obs)) w
        rw [hz]; exact Fr.refl ..
    have fin : ∀ {ex : Ex} {s : St}, run P cl E k b (startS args obs) = some (ex, s) → (ex = .normal ∨ ex = .ret) → (match resV P fn s with | none => none | some v => doneV (E f) obs.length (lkp s.hp) v) = some (v, obs') →
        Calls P f cargs w fun e w' => ∃ cv, e = .returned cv ∧ ∃ φ' m', VR φ' m' v cv ∧ Inv φ' m' (fun i => obs'[i]?) w' ∧ Fr φ m (fun i => obs[i]?) w φ' m' (fun i => obs'[i]?) w' ∧ (∀ i, obs'.length ≤ i → m' i = none) ∧ obs.length ≤ obs'.length := by
      intro ex s hrun hex hd
      split at hd
      · cases hd
      rename_i v0 hv0
      refine calls_of_wp hf hb (run_sound hcl hm k b hc.1 hrun hr0 fun a w' hr => ?_)
      obtain ⟨φ1, m1, h1, h2⟩ := hr
      obtain ⟨cv, r1, r2⟩ := results_run (P := P) (fn := fn) h1 hv0
      obtain ⟨φ', m', p1, p2, p3, p4, p5⟩ := done_sound hd h1.inv r2 hmn h2
      rcases hex with rfl | rfl
      · exact ⟨h1.df, cv, r1, cv, rfl, φ', m', p1, p2, p3, p4, p5⟩
      · exact ⟨h1.df, cv, r1, cv, rfl, φ', m', p1, p2, p3, p4, p5⟩
    split at h
    · cases h
    · cases h
    · rename_i ex s hn hrun
      refine fin hrun ?_ h
      cases ex with
      | normal => exact .inl rfl
      | ret => exact .inr rfl
      | exit i => exact (hn i rfl).elim
  · cases h

theorem callK_sound {E : FuncId → Md} {X : Xt} (hX : XtS P X) (hm : P.follows .mixedOrders = true) : ∀ k, ClS' P (callK P E X k)
  | 0 => fun f args obs v obs' h => by simp [callK] at h
  | k + 1 => fun f args obs v obs' h => by
    simp only [callK] at h
    split at h
    · rename_i x hx
      exact hX f x hx args obs v obs' h
    · split at h
      · cases h
      · rename_i fn hf
        split at h
        · rename_i hc
          exact bodyF_sound (callK_sound hX hm k) hm hf hc h
        · cases h
end
end Go.Proofs.Ytfhglldoejeedaa.Am
