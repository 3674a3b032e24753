import Derived.Test.YtfhglldoejeedaaAmQ
namespace Go.Proofs.Ytfhglldoejeedaa.Am
open Go

variable {P : Program}

section
variable {φ : FM} {m : LM} {g gi : Nat → Option Ob} {w w' : World}

theorem slc_sound {t : TypeId} {x : AV} {lo hi mx : Option AV} {cx : Value} {cl ch cm : Option Value} {nx : Nat} {e : Eff}
    (h : slcA P t x lo hi mx gi nx = some e) (hg : ∀ i ∈ e.rd, g i = gi i) (hinv : Inv φ m g w) (hx : VR φ m x cx)
    (v1 : OV φ m lo cl) (v2 : OV φ m hi ch) (v3 : OV φ m mx cm) :
    ∃ cv, (Instr.sliceAt t cx cl ch cm).run P w = .ok cv w ∧ VR φ m e.v cv ∧ e.wr = [] := by
  unfold slcA at h
  split at h
  · rename_i nl nh nm e1 e2 e3
    split at h
    · rename_i s
      split at h
      · rename_i hu
        simp only at h
        split at h
        · rename_i hb
          obtain ⟨hmn, b0, b1, b2⟩ := hb
          simp only [Eff.pure, Option.some.injEq] at h; subst h
          simp only [VR] at hx; subst hx
          subst hmn
          have hmx := numA_none e3
          subst hmx
          have hcm : cm = none := by cases cm <;> simp_all [OV]
          subst hcm
          have hr := bounds_run (P := P) (sl := false) (len := s.size) (cap := s.size) (l := (nl.getD 0).toNat) (h := (nh.getD s.size).toNat) (m' := s.size) e1 e2 e3 v1 v2 (cm := none) (by simp [OV]) rfl (by omega) (by omega) (by omega) (by omega) (Nat.le_refl _) (by simp) w
          refine ⟨_, ?_, by simp only [VR]; rfl, rfl⟩
          simp [Instr.sliceAt, run_underlying hu, Instr.slice, hr]
        · cases h
      · cases h
    · split at h
      · cases h
      rename_i el ts bytes hel
      obtain ⟨hu, hts, i, hinf, hisz, hib, hipos⟩ := elt_some hel
      have fin : ∀ (ad : Option Addr) (len cap l h m' : Nat), cx = .slice ad len cap → (nm.getD cap) = m' → nh.getD len = h → nl.getD 0 = l → l ≤ h → h ≤ m' → m' ≤ cap → (nm.isSome = true → nh.isSome = true) →
          (Instr.sliceAt t cx cl ch cm).run P w = .ok (.slice (if m' = l then ad else ad.map (·.add (l * i.size))) (h - l) (m' - l)) w := by
        rintro ad len cap l h m' rfl a1 a2 a3 a4 a5 a6 a7
        have hr := bounds_run (P := P) (sl := true) e1 e2 e3 v1 v2 v3 a1 a2 a3 a4 a5 a6 a7 w
        simp [Instr.sliceAt, run_underlying hu, Instr.slice, hr, run_sizeOf hinf]
      split at h
      · rename_i es _
        simp only [VR] at hx
        obtain ⟨ad, cap, hcx, hle, hc⟩ := hx
        simp only at h
        split at h
        · split at h
          · rename_i hb
            obtain ⟨b0, b1, b2, b3⟩ := hb
            simp only [Eff.pure, Option.some.injEq] at h; subst h
            have hwd : ∀ e ∈ es, e.cells.length = i.size := fun e he => by
              have := (List.all_eq_true.1 b3) e he
              rw [hisz]; simpa using this
            have hrun := fin ad es.length cap (nl.getD 0).toNat (nh.getD es.length).toNat cap hcx rfl (by omega) (by omega) (by omega) (by omega) (Nat.le_refl _) (by simp)
            refine ⟨_, hrun, ?_, rfl⟩
            simp only [VR]
            have hlen : ((es.drop (nl.getD 0).toNat).take (nh.getD (es.length : Int) - nl.getD 0).toNat).length = (nh.getD (es.length : Int)).toNat - (nl.getD 0).toNat := by
              simp only [List.length_take, List.length_drop]; omega
            rw [hlen]
            refine ⟨_, _, rfl, by omega, ?_⟩
            by_cases h0 : (nh.getD (es.length : Int)).toNat - (nl.getD 0).toNat = 0
            · exact .inl h0
            · rcases hc with hc | ⟨b, o, rfl, hc⟩
              · omega
              · refine .inr ⟨b, o + (nl.getD 0).toNat * i.size, ?_, ?_⟩
                · rw [if_neg (by omega)]
                  simp [add_none]
                · exact VRE_take (VRE_drop hc hwd _) _
          · cases h
        · split at h
          · rename_i m0 _ hb
            obtain ⟨b0, b1, b2, b3, b4⟩ := hb
            simp only [Eff.pure, Option.some.injEq] at h; subst h
            have hrun := fin ad es.length cap (nl.getD 0).toNat (nl.getD 0).toNat (nl.getD 0).toNat hcx (by simp; omega) (by omega) (by omega) (Nat.le_refl _) (Nat.le_refl _) (by omega) (fun _ => b4)
            refine ⟨_, hrun, ?_, rfl⟩
            simp only [VR, Nat.sub_self]
            exact ⟨_, rfl⟩
          · cases h
      · simp only [VR] at hx
        obtain ⟨ad, hcx⟩ := hx
        simp only at h
        split at h
        · rename_i hb
          obtain ⟨b0, b1, b2, b3⟩ := hb
          simp only [Eff.pure, Option.some.injEq] at h; subst h
          have hrun := fin ad 0 0 0 0 0 hcx (by simpa using b2) (by simpa using b1) (by simpa using b0) (Nat.le_refl _) (Nat.le_refl _) (Nat.le_refl _) b3
          refine ⟨_, hrun, ?_, rfl⟩
          simp only [VR, Nat.sub_self]
          exact ⟨_, rfl⟩
        · cases h
      · rename_i id off len tot _
        simp only [VR] at hx
        obtain ⟨_, l, hm, htop, hv⟩ := hx
        simp only at h
        split at h
        · rename_i esz es ro hgi
          split at h
          · rename_i htot
            have fin2 : g id = some (.arr esz es ro) → ∃ ad, l.esz = esz ∧ cx = .slice ad len (l.cap - off) ∧ (off < l.cap → ad = some ⟨l.blk, off * l.esz, none⟩) ∧ es.length ≤ l.cap ∧ tot ≤ l.top := by
              intro hgid
              obtain ⟨l', hm', hr⟩ := hinv.own id _ hgid
              rw [hm] at hm'; cases hm'
              obtain ⟨ad, h1, h2⟩ := hv (by rw [hr.top]; exact htot.1)
              exact ⟨ad, (hr.arr esz es ro rfl).1, h1, h2, (hr.arr esz es ro rfl).2.2.2.1, htop⟩
            split at h
            · split at h
              · rename_i hb
                obtain ⟨b0, b1, b2⟩ := hb
                simp only [Option.some.injEq] at h; subst h
                obtain ⟨ad, hes, hcx, had, hcap, _⟩ := fin2 ((hg id (by simp)).trans hgi)
                have hrun := fin ad len (l.cap - off) (nl.getD 0).toNat (nh.getD (len : Int)).toNat (l.cap - off) hcx rfl (by omega) (by omega) (by omega) (by omega) (Nat.le_refl _) (by simp)
                refine ⟨_, hrun, ?_, rfl⟩
                simp only [VR]
                refine ⟨rfl, l, hm, htop, fun htt => ⟨_, by rw [show (nh.getD (len : Int) - nl.getD 0).toNat = (nh.getD (len : Int)).toNat - (nl.getD 0).toNat by omega, show l.cap - (off + (nl.getD 0).toNat) = l.cap - off - (nl.getD 0).toNat by omega], fun hlt => ?_⟩⟩
                rw [if_neg (by omega), had (by omega)]
                simp only [Option.map_some, add_none]
                rw [hes, htot.2.2, hisz, Nat.add_mul]
              · cases h
            · split at h
              · rename_i m0 hb
                obtain ⟨b0, b1, b2, b3, b4⟩ := hb
                simp only [Option.some.injEq] at h; subst h
                obtain ⟨ad, hes, hcx, had, hcap, _⟩ := fin2 ((hg id (by simp)).trans hgi)
                have hrun := fin ad len (l.cap - off) (nl.getD 0).toNat (nh.getD (len : Int)).toNat m0.toNat hcx (by simp; omega) (by omega) (by omega) (by omega) (by omega) (by omega) (fun _ => b4)
                refine ⟨_, hrun, ?_, rfl⟩
                simp only
                split
                · simp only [VR]
                  rw [show (nh.getD (len : Int)).toNat - (nl.getD 0).toNat = 0 by omega, show m0.toNat - (nl.getD 0).toNat = 0 by omega]
                  exact ⟨_, rfl⟩
                · simp [VR]
              · cases h
          · cases h
        · cases h
      · cases h
  · cases h
end
end Go.Proofs.Ytfhglldoejeedaa.Am
