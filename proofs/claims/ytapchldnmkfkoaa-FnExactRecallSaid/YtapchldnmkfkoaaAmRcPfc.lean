import Derived.Test.YtapchldnmkfkoaaAmRcNa
set_option linter.unusedVariables false
set_option linter.unusedSimpArgs false
set_option linter.unusedSectionVars false
namespace Go.Proofs.Ytapchldnmkfkoaa.Am
open Go Go.Proofs
set_option maxRecDepth 100000
set_option linter.unusedSimpArgs false
set_option linter.unusedVariables false
set_option maxHeartbeats 4000000
theorem spec_CacheOk_ok0 (hm : Try.prog.follows .mixedOrders = true) (k_spec_l01In : Sound Try.prog 71 spec_l01In_x) (k_spec_MaskOk : Sound Try.prog 72 spec_MaskOk_x) : Sound Try.prog 70 spec_CacheOk_x := by
 refine xOf_sound fun q r h => ?_
 revert h; revert r; revert q; intro a0 r h
 refine fn_ok E0 hm Try.func70 rfl (by decide +kernel) (by rfl) fun Γ hn hk => ?_
 dsimp only [spec_CacheOk_e,spec_CacheOk_v]
 replace hn : Γ.n = 60 := hn
 replace hk : Γ.k = 0 := hk
 have H : HS (spec_CacheOk a0) r := h
 clear h; unfold spec_CacheOk at H
 try simp -implicitDefEqProofs at H
 refine Tr.of_vc (cl := tabC [(71,spec_l01In_x),(72,spec_MaskOk_x)]) (E := E0) [] (tab_cons k_spec_l01In (tab_cons k_spec_MaskOk tab_nil)) hm (by rw [hn]; decide +kernel) ?_
 try simp -implicitDefEqProofs +decide (maxSteps := 999999) [-selQ_sel,hokQ_of]
 obtain ⟨v1,h_1,H⟩ := HS.bnd H
 try simp -implicitDefEqProofs +decide (maxSteps := 999999) [-selQ_sel,hokQ_of,h_1]
 refine Hid.selQ (fun h_2 => ?_) (fun h_2 => ?_)
 ·replace H := HS.cnd_t h_2 H
  try simp -implicitDefEqProofs +decide (maxSteps := 999999) [-selQ_sel,hokQ_of,h_1,h_2]
  refine Hid.brV (fun h_3 => ?_) (fun h_3 => ?_)
  ·replace H := HS.cnd_t h_3 H
   try simp -implicitDefEqProofs +decide (maxSteps := 999999) [-selQ_sel,hokQ_of,h_1,h_2,h_3]
   obtain ⟨q,h_4,H⟩ := HS.bnd H
   refine Hid.mk (Tr.weak (s' := (spec_CacheOk_l1_S a0) 0) (Wk.ofk [0] hk (by rfl) (by simp -implicitDefEqProofs [spec_CacheOk_l1_S,h_1,h_2,h_3]) (by simp -implicitDefEqProofs [spec_CacheOk_l1_S,h_1,h_2,h_3])) ?_)
   refine wp_loop_of (S := (spec_CacheOk_l1_S a0)) (f := (spec_CacheOk_l1 a0)) (xt := (spec_CacheOk_l1_X a0)) ?_ ?_ h_4 ?_
   ·intro q; rcases q with ⟨⟩ | ⟨⟩ <;> simp [spec_CacheOk_l1_X]
   ·clear H h_4 q
    rintro x5 o R hf hR
    have H : HS (spec_CacheOk_l1 a0 x5) o := hf
    clear hf; unfold spec_CacheOk_l1 at H
    try simp -implicitDefEqProofs at H
    refine Tr.of_vc (cl := tabC [(71,spec_l01In_x),(72,spec_MaskOk_x)]) (E := E0) [] (tab_cons k_spec_l01In (tab_cons k_spec_MaskOk tab_nil)) hm (by rw [hn]; decide +kernel) ?_
    try simp -implicitDefEqProofs +decide (maxSteps := 999999) [-selQ_sel,hokQ_of,spec_CacheOk_l1_S]
    refine Hid.brV (fun h_5 => ?_) (fun h_5 => ?_)
    ·replace H := HS.cnd_t h_5 H
     try simp -implicitDefEqProofs +decide (maxSteps := 999999) [-selQ_sel,hokQ_of,h_5]
     have hr := (HS.some H).symm; subst hr
     exact Hid.mk ⟨(spec_CacheOk_l1_X a0 (.inl ())).2,Wk.ofk [] hk (by rfl) (by simp -implicitDefEqProofs [spec_CacheOk_l1_X,h_5]) (by simp -implicitDefEqProofs [spec_CacheOk_l1_X,h_5]),hR⟩
    ·replace H := HS.cnd_f h_5 H
     try simp -implicitDefEqProofs +decide (maxSteps := 999999) [-selQ_sel,hokQ_of,h_5]
     obtain ⟨v6,h_6,H⟩ := HS.bnd H
     try simp -implicitDefEqProofs +decide (maxSteps := 999999) [-selQ_sel,hokQ_of,h_5,h_6]
     obtain ⟨v7,h_7,H⟩ := HS.bnd H
     try simp -implicitDefEqProofs +decide (maxSteps := 999999) [-selQ_sel,hokQ_of,h_5,h_6,h_7]
     refine Hid.selQ (fun h_8 => ?_) (fun h_8 => ?_)
     ·replace H := HS.cnd_t h_8 H
      try simp -implicitDefEqProofs +decide (maxSteps := 999999) [-selQ_sel,hokQ_of,h_5,h_6,h_7,h_8]
      obtain ⟨v8,h_9,H⟩ := HS.bnd H
      try simp -implicitDefEqProofs +decide (maxSteps := 999999) [-selQ_sel,hokQ_of,h_5,h_6,h_7,h_8,h_9]
      refine Hid.brV (fun h_10 => ?_) (fun h_10 => ?_)
      ·replace H := HS.cnd_t h_10 H
       try simp -implicitDefEqProofs +decide (maxSteps := 999999) [-selQ_sel,hokQ_of,h_5,h_6,h_7,h_8,h_9,h_10]
       obtain ⟨q,h_11,H⟩ := HS.bnd H
       refine Hid.mk (Tr.weak (s' := (spec_CacheOk_l0_S a0 x5) 0) (Wk.ofk [0] hk (by rfl) (by simp -implicitDefEqProofs [spec_CacheOk_l0_S,h_5,h_6,h_7,h_8,h_9,h_10]) (by simp -implicitDefEqProofs [spec_CacheOk_l0_S,h_5,h_6,h_7,h_8,h_9,h_10])) ?_)
       refine wp_loop_of (S := (spec_CacheOk_l0_S a0 x5)) (f := (spec_CacheOk_l0 a0 x5)) (xt := (spec_CacheOk_l0_X a0 x5)) ?_ ?_ h_11 ?_
       ·intro q; rcases q with ⟨⟩ | ⟨⟩ <;> simp [spec_CacheOk_l0_X]
       ·clear H h_11 q
        rintro x11 o R hf hR
        have H : HS (spec_CacheOk_l0 a0 x5 x11) o := hf
        clear hf; unfold spec_CacheOk_l0 at H
        try simp -implicitDefEqProofs at H
        refine Tr.of_vc (cl := tabC [(71,spec_l01In_x),(72,spec_MaskOk_x)]) (E := E0) [] (tab_cons k_spec_l01In (tab_cons k_spec_MaskOk tab_nil)) hm (by rw [hn]; decide +kernel) ?_
        try simp -implicitDefEqProofs +decide (maxSteps := 999999) [-selQ_sel,hokQ_of,spec_CacheOk_l0_S]
        refine Hid.brV (fun h_12 => ?_) (fun h_12 => ?_)
        ·replace H := HS.cnd_t h_12 H
         try simp -implicitDefEqProofs +decide (maxSteps := 999999) [-selQ_sel,hokQ_of,h_12]
         have hr := (HS.some H).symm; subst hr
         exact Hid.mk ⟨(spec_CacheOk_l0_X a0 x5 (.inl ())).2,Wk.ofk [0] hk (by rfl) (by simp -implicitDefEqProofs [spec_CacheOk_l0_X,h_12]) (by simp -implicitDefEqProofs [spec_CacheOk_l0_X,h_12]),hR⟩
        ·replace H := HS.cnd_f h_12 H
         try simp -implicitDefEqProofs +decide (maxSteps := 999999) [-selQ_sel,hokQ_of,h_12]
         obtain ⟨v12,h_13,H⟩ := HS.bnd H
         try simp -implicitDefEqProofs +decide (maxSteps := 999999) [-selQ_sel,hokQ_of,h_12,h_13]
         obtain ⟨v13,h_14,H⟩ := HS.bnd H
         try simp -implicitDefEqProofs +decide (maxSteps := 999999) [-selQ_sel,hokQ_of,h_12,h_13,h_14]
         refine Hid.brV (fun h_15 => ?_) (fun h_15 => ?_)
         ·replace H := HS.cnd_t h_15 H
          try simp -implicitDefEqProofs +decide (maxSteps := 999999) [-selQ_sel,hokQ_of,h_12,h_13,h_14,h_15]
          have hr := (HS.some H).symm; subst hr
          exact Hid.mk ⟨(spec_CacheOk_l0_X a0 x5 (.inr ())).2,Wk.ofk [] hk (by rfl) (by simp -implicitDefEqProofs [spec_CacheOk_l0_X,h_12,h_13,h_14,h_15]) (by simp -implicitDefEqProofs [spec_CacheOk_l0_X,h_12,h_13,h_14,h_15]),hR⟩
         ·replace H := HS.cnd_f h_15 H
          try simp -implicitDefEqProofs +decide (maxSteps := 999999) [-selQ_sel,hokQ_of,h_12,h_13,h_14,h_15]
          have hr := (HS.some H).symm; subst hr
          exact Hid.mk ⟨spec_CacheOk_l0_S a0 x5 (IntKind.i64.wrap (x11 + 1)),Wk.ofk [0] hk (by rfl) (by simp -implicitDefEqProofs [spec_CacheOk_l0_S,h_12,h_13,h_14,h_15]) (by simp -implicitDefEqProofs [spec_CacheOk_l0_S,h_12,h_13,h_14,h_15]),hR⟩
       ·rcases q with ⟨⟩ | ⟨⟩
        ·dsimp only at H
         try simp -implicitDefEqProofs +decide (maxSteps := 999999) [-selQ_sel,hokQ_of,h_5,h_6,h_7,h_8,h_9,h_10,spec_CacheOk_l0_X]
         have hr := (HS.some H).symm; subst hr
         exact Hid.mk ⟨spec_CacheOk_l1_S a0 (IntKind.i64.wrap (x5 + 1)),Wk.ofk [0] hk (by rfl) (by simp -implicitDefEqProofs [spec_CacheOk_l1_S,h_5,h_6,h_7,h_8,h_9,h_10]) (by simp -implicitDefEqProofs [spec_CacheOk_l1_S,h_5,h_6,h_7,h_8,h_9,h_10]),hR⟩
        ·dsimp only at H
         try simp -implicitDefEqProofs +decide (maxSteps := 999999) [-selQ_sel,hokQ_of,h_5,h_6,h_7,h_8,h_9,h_10,spec_CacheOk_l0_X]
         have hr := (HS.some H).symm; subst hr
         exact Hid.mk ⟨(spec_CacheOk_l1_X a0 (.inr ())).2,Wk.ofk [] hk (by rfl) (by simp -implicitDefEqProofs [spec_CacheOk_l1_X,h_5,h_6,h_7,h_8,h_9,h_10]) (by simp -implicitDefEqProofs [spec_CacheOk_l1_X,h_5,h_6,h_7,h_8,h_9,h_10]),hR⟩
      ·replace H := HS.cnd_f h_10 H
       try simp -implicitDefEqProofs +decide (maxSteps := 999999) [-selQ_sel,hokQ_of,h_5,h_6,h_7,h_8,h_9,h_10]
       have hr := (HS.some H).symm; subst hr
       exact Hid.mk ⟨(spec_CacheOk_l1_X a0 (.inr ())).2,Wk.ofk [] hk (by rfl) (by simp -implicitDefEqProofs [spec_CacheOk_l1_X,h_5,h_6,h_7,h_8,h_9,h_10]) (by simp -implicitDefEqProofs [spec_CacheOk_l1_X,h_5,h_6,h_7,h_8,h_9,h_10]),hR⟩
     ·replace H := HS.cnd_f h_8 H
      try simp -implicitDefEqProofs +decide (maxSteps := 999999) [-selQ_sel,hokQ_of,h_5,h_6,h_7,h_8]
      have hr := (HS.some H).symm; subst hr
      exact Hid.mk ⟨(spec_CacheOk_l1_X a0 (.inr ())).2,Wk.ofk [] hk (by rfl) (by simp -implicitDefEqProofs [spec_CacheOk_l1_X,h_5,h_6,h_7,h_8]) (by simp -implicitDefEqProofs [spec_CacheOk_l1_X,h_5,h_6,h_7,h_8]),hR⟩
   ·rcases q with ⟨⟩ | ⟨⟩
    ·dsimp only at H
     try simp -implicitDefEqProofs +decide (maxSteps := 999999) [-selQ_sel,hokQ_of,h_1,h_2,h_3,spec_CacheOk_l1_X]
     have hr := (HS.some H).symm; subst hr
     refine Hid.mk ⟨_,Wk.refl _,?_⟩
     try simp -implicitDefEqProofs +decide (maxSteps := 999999) [-selQ_sel,hokQ_of,h_1,h_2,h_3]
    ·dsimp only at H
     try simp -implicitDefEqProofs +decide (maxSteps := 999999) [-selQ_sel,hokQ_of,h_1,h_2,h_3,spec_CacheOk_l1_X]
     have hr := (HS.some H).symm; subst hr
     refine Hid.mk ⟨_,Wk.refl _,?_⟩
     try simp -implicitDefEqProofs +decide (maxSteps := 999999) [-selQ_sel,hokQ_of,h_1,h_2,h_3]
  ·replace H := HS.cnd_f h_3 H
   try simp -implicitDefEqProofs +decide (maxSteps := 999999) [-selQ_sel,hokQ_of,h_1,h_2,h_3]
   have hr := (HS.some H).symm; subst hr
   refine Hid.mk ⟨_,Wk.refl _,?_⟩
   try simp -implicitDefEqProofs +decide (maxSteps := 999999) [-selQ_sel,hokQ_of,h_1,h_2,h_3]
 ·replace H := HS.cnd_f h_2 H
  try simp -implicitDefEqProofs +decide (maxSteps := 999999) [-selQ_sel,hokQ_of,h_1,h_2]
  have hr := (HS.some H).symm; subst hr
  refine Hid.mk ⟨_,Wk.refl _,?_⟩
  try simp -implicitDefEqProofs +decide (maxSteps := 999999) [-selQ_sel,hokQ_of,h_1,h_2]
theorem slices_Delete_KeptR_ok0 (hm : Try.prog.follows .mixedOrders = true) : Sound Try.prog 123 slices_Delete_KeptR_x := by
 refine xOf_sound fun q r h => ?_
 obtain ⟨a0,a1,a2,a3⟩ := q
 refine fn_ok E0 hm Try.func123 rfl (by decide +kernel) (by rfl) fun Γ hn hk => ?_
 dsimp only [slices_Delete_KeptR_e,slices_Delete_KeptR_v]
 replace hn : Γ.n = 33 := hn
 replace hk : Γ.k = 1 := hk
 have H : HS (slices_Delete_KeptR a0 a1 a2 a3) r := h
 clear h; unfold slices_Delete_KeptR at H
 try simp -implicitDefEqProofs at H
 refine Tr.of_vc (cl := tabC []) (E := E0) [] tab_nil hm (by rw [hn]; decide +kernel) ?_
 try simp -implicitDefEqProofs +decide (maxSteps := 999999) [-selQ_sel,hokQ_of,-appO_some,appO_part,appO_whole]
 obtain ⟨h_1,H⟩ := HS.chkP H
 try simp -implicitDefEqProofs +decide (maxSteps := 999999) [-selQ_sel,hokQ_of,-appO_some,appO_part,appO_whole,h_1]
 obtain ⟨h_2,H⟩ := HS.chkP H
 try simp -implicitDefEqProofs +decide (maxSteps := 999999) [-selQ_sel,hokQ_of,-appO_some,appO_part,appO_whole,h_1,h_2]
 refine Hid.brV (fun h_3 => ?_) (fun h_3 => ?_)
 ·replace H := HS.cnd_t h_3 H
  try simp -implicitDefEqProofs +decide (maxSteps := 999999) [-selQ_sel,hokQ_of,-appO_some,appO_part,appO_whole,h_1,h_2,h_3]
  have hr := (HS.some H).symm; subst hr
  refine Hid.mk ⟨⟨[(6,AV.osl 0 0 a0 (List.length a3))],[(0,Ob.arr 6 (List.map eKeptR a3) false)],1⟩,Wk.ofk [0] hk (by rfl) (by simp -implicitDefEqProofs [h_1,h_2,h_3]) (by simp -implicitDefEqProofs [h_1,h_2,h_3]),?_⟩
  try simp -implicitDefEqProofs +decide (maxSteps := 999999) [-selQ_sel,hokQ_of,-appO_some,appO_part,appO_whole,h_1,h_2,h_3]
 ·replace H := HS.cnd_f h_3 H
  try simp -implicitDefEqProofs +decide (maxSteps := 999999) [-selQ_sel,hokQ_of,-appO_some,appO_part,appO_whole,h_1,h_2,h_3]
  obtain ⟨v1,h_4,H⟩ := HS.bnd H
  have s_5 := (slc_spec h_4).1
  have s_6 := slc_fit h_4
  have s_7 := slc_map (e := eKeptR) h_4
  have s_8 := (slc_spec h_4).2.1
  simp -implicitDefEqProofs at s_5 s_6 s_7 s_8
  try simp only [s_8] at s_6 s_7
  try simp -implicitDefEqProofs +decide (maxSteps := 999999) [-selQ_sel,hokQ_of,-appO_some,appO_part,appO_whole,h_1,h_2,h_3,h_4,s_5,s_6,s_7,s_8]
  obtain ⟨v2,h_9,H⟩ := HS.bnd H
  have s_10 := (slc_spec h_9).1
  have s_11 := slc_fit h_9
  have s_12 := slc_map (e := eKeptR) h_9
  have s_13 := (slc_spec h_9).2.1
  simp -implicitDefEqProofs at s_10 s_11 s_12 s_13
  try simp only [s_13] at s_11 s_12
  try simp -implicitDefEqProofs +decide (maxSteps := 999999) [-selQ_sel,hokQ_of,-appO_some,appO_part,appO_whole,h_1,h_2,h_3,h_4,s_5,s_6,s_7,s_8,h_9,s_10,s_11,s_12,s_13]
  obtain ⟨h_14,H⟩ := HS.chkP H
  try simp -implicitDefEqProofs +decide (maxSteps := 999999) [-selQ_sel,hokQ_of,-appO_some,appO_part,appO_whole,h_1,h_2,h_3,h_4,s_5,s_6,s_7,s_8,h_9,s_10,s_11,s_12,s_13,h_14]
  obtain ⟨h_15,H⟩ := HS.chkP H
  try simp -implicitDefEqProofs +decide (maxSteps := 999999) [-selQ_sel,hokQ_of,-appO_some,appO_part,appO_whole,h_1,h_2,h_3,h_4,s_5,s_6,s_7,s_8,h_9,s_10,s_11,s_12,s_13,h_14,h_15]
  obtain ⟨l3,h_16,H⟩ := HS.nam H
  have m_17 := congrArg (List.map eKeptR) h_16
  have q_18 := congrArg List.length h_16
  rw [ovr_len (by simp -implicitDefEqProofs [h_1,h_2,h_3,h_4,s_5,s_6,s_7,s_8,h_9,s_10,s_11,s_12,s_13,h_14,h_15])] at q_18
  simp -implicitDefEqProofs at m_17 q_18
  try simp only [q_18] at m_17
  try simp only [q_18] at h_15
  try simp only [q_18] at s_5
  try simp only [q_18] at s_6
  try simp only [q_18] at s_7
  try simp only [q_18] at s_8
  try simp only [q_18] at s_10
  try simp only [q_18] at s_11
  try simp only [q_18] at s_12
  try simp only [q_18] at s_13
  try simp -implicitDefEqProofs +decide (maxSteps := 999999) [-selQ_sel,hokQ_of,-appO_some,appO_part,appO_whole,h_1,h_2,h_3,h_4,s_5,s_6,s_7,s_8,h_9,s_10,s_11,s_12,s_13,h_14,h_15,m_17,q_18]
  obtain ⟨v4,h_19,H⟩ := HS.bnd H
  have s_20 := (slc_spec h_19).1
  have s_21 := slc_fit h_19
  have s_22 := slc_map (e := eKeptR) h_19
  have s_23 := (slc_spec h_19).2.1
  simp -implicitDefEqProofs at s_20 s_21 s_22 s_23
  try simp only [s_23] at s_21 s_22
  have s_24 := slc_hi h_19
  try simp -implicitDefEqProofs +decide (maxSteps := 999999) [-selQ_sel,hokQ_of,-appO_some,appO_part,appO_whole,h_1,h_2,h_3,h_4,s_5,s_6,s_7,s_8,h_9,s_10,s_11,s_12,s_13,h_14,h_15,m_17,q_18,h_19,s_20,s_21,s_22,s_23,s_24]
  obtain ⟨v5,h_25,H⟩ := HS.bnd H
  have s_26 := (slc_spec h_25).1
  have s_27 := slc_fit h_25
  have s_28 := slc_map (e := eKeptR) h_25
  have s_29 := (slc_spec h_25).2.1
  simp -implicitDefEqProofs at s_26 s_27 s_28 s_29
  try simp only [s_29] at s_27 s_28
  try simp -implicitDefEqProofs +decide (maxSteps := 999999) [-selQ_sel,hokQ_of,-appO_some,appO_part,appO_whole,h_1,h_2,h_3,h_4,s_5,s_6,s_7,s_8,h_9,s_10,s_11,s_12,s_13,h_14,h_15,m_17,q_18,h_19,s_20,s_21,s_22,s_23,s_24,h_25,s_26,s_27,s_28,s_29]
  obtain ⟨l6,h_30,H⟩ := HS.nam H
  have m_31 := congrArg (List.map eKeptR) h_30
  have q_32 := congrArg List.length h_30
  rw [clrL_len (by simp -implicitDefEqProofs [h_1,h_2,h_3,h_4,s_5,s_6,s_7,s_8,h_9,s_10,s_11,s_12,s_13,h_14,h_15,h_19,s_20,s_21,s_22,s_23,s_24,h_25,s_26,s_27,s_28,s_29])] at q_32
  simp -implicitDefEqProofs at m_31 q_32
  try simp only [q_32] at m_31
  try simp only [q_32] at s_29
  try simp only [q_32] at s_5
  try simp only [q_32] at s_6
  try simp only [q_32] at s_7
  try simp only [q_32] at s_8
  try simp only [q_32] at s_10
  try simp only [q_32] at s_11
  try simp only [q_32] at s_12
  try simp only [q_32] at s_13
  try simp only [q_32] at s_20
  try simp only [q_32] at s_21
  try simp only [q_32] at s_22
  try simp only [q_32] at s_23
  try simp only [q_32] at s_24
  try simp only [q_32] at s_26
  try simp only [q_32] at s_27
  try simp only [q_32] at s_28
  try simp -implicitDefEqProofs +decide (maxSteps := 999999) [-selQ_sel,hokQ_of,-appO_some,appO_part,appO_whole,h_1,h_2,h_3,h_4,s_5,s_6,s_7,s_8,h_9,s_10,s_11,s_12,s_13,h_14,h_15,m_17,q_18,h_19,s_20,s_21,s_22,s_23,s_24,h_25,s_26,s_27,s_28,s_29,m_31,q_32]
  have hr := (HS.some H).symm; subst hr
  refine Hid.mk ⟨⟨[(6,AV.osl 0 0 (List.length v4) (List.length l6))],[(0,Ob.arr 6 (List.map eKeptR l6) false)],1⟩,Wk.ofk [0] hk (by rfl) (by simp -implicitDefEqProofs [h_1,h_2,h_3,h_4,s_5,s_6,s_7,s_8,h_9,s_10,s_11,s_12,s_13,h_14,h_15,m_17,q_18,h_19,s_20,s_21,s_22,s_23,s_24,h_25,s_26,s_27,s_28,s_29,m_31,q_32]) (by simp -implicitDefEqProofs [h_1,h_2,h_3,h_4,s_5,s_6,s_7,s_8,h_9,s_10,s_11,s_12,s_13,h_14,h_15,m_17,q_18,h_19,s_20,s_21,s_22,s_23,s_24,h_25,s_26,s_27,s_28,s_29,m_31,q_32]),?_⟩
  try simp -implicitDefEqProofs +decide (maxSteps := 999999) [-selQ_sel,hokQ_of,-appO_some,appO_part,appO_whole,h_1,h_2,h_3,h_4,s_5,s_6,s_7,s_8,h_9,s_10,s_11,s_12,s_13,h_14,h_15,m_17,q_18,h_19,s_20,s_21,s_22,s_23,s_24,h_25,s_26,s_27,s_28,s_29,m_31,q_32]
theorem impl_Cache_toFrontR_ok0 (hm : Try.prog.follows .mixedOrders = true) (k_impl_Cache_keptAtR : Sound Try.prog 81 impl_Cache_keptAtR_x) (k_slices_Delete_KeptR : Sound Try.prog 123 slices_Delete_KeptR_x) (k_slices_Insert_KeptR : Sound Try.prog 124 slices_Insert_KeptR_x) : Sound Try.prog 77 impl_Cache_toFrontR_x := by
 refine xOf_sound fun q r h => ?_
 obtain ⟨a0,a1,a2,a3⟩ := q
 refine fn_ok E0 hm Try.func77 rfl (by decide +kernel) (by rfl) fun Γ hn hk => ?_
 dsimp only [impl_Cache_toFrontR_e,impl_Cache_toFrontR_v]
 replace hn : Γ.n = 59 := hn
 replace hk : Γ.k = 3 := hk
 have H : HS (impl_Cache_toFrontR a0 a1 a2 a3) r := h
 clear h; unfold impl_Cache_toFrontR at H
 try simp -implicitDefEqProofs at H
 refine Tr.of_vc (cl := tabC [(81,impl_Cache_keptAtR_x),(123,slices_Delete_KeptR_x),(124,slices_Insert_KeptR_x)]) (E := E0) [] (tab_cons k_impl_Cache_keptAtR (tab_cons k_slices_Delete_KeptR (tab_cons k_slices_Insert_KeptR tab_nil))) hm (by rw [hn]; decide +kernel) ?_
 try simp -implicitDefEqProofs +decide (maxSteps := 999999) [-selQ_sel,hokQ_of]
 obtain ⟨v1,h_1,H⟩ := HS.bnd H
 have k_2 := impl_Cache_keptAtR_k ((TCacheR.mk a1 a3).most) ((TCacheR.mk a1 a3).list) a0.id
 simp -implicitDefEqProofs [-impl_Cache_keptAtR_k] at k_2
 try simp -implicitDefEqProofs +decide (maxSteps := 999999) [-selQ_sel,hokQ_of,h_1,k_2]
 refine Hid.brV (fun h_3 => ?_) (fun h_3 => ?_)
 ·replace H := HS.cnd_t h_3 H
  try simp -implicitDefEqProofs +decide (maxSteps := 999999) [-selQ_sel,hokQ_of,h_1,k_2,h_3]
  obtain ⟨⟨w3,w4⟩,h_4,H⟩ := HS.bnd H
  dsimp only at H
  try simp -implicitDefEqProofs +decide (maxSteps := 999999) [-selQ_sel,hokQ_of,h_1,k_2,h_3,h_4]
  obtain ⟨v5,h_5,H⟩ := HS.bnd H
  have s_6 := (slc_spec h_5).1
  have s_7 := slc_fit h_5
  have s_8 := slc_map (e := eKeptR) h_5
  have s_9 := (slc_spec h_5).2.1
  simp -implicitDefEqProofs at s_6 s_7 s_8 s_9
  try simp only [s_9] at s_7 s_8
  try simp -implicitDefEqProofs +decide (maxSteps := 999999) [-selQ_sel,hokQ_of,h_1,k_2,h_3,h_4,h_5,s_6,s_7,s_8,s_9]
  obtain ⟨⟨w7,w8⟩,h_10,H⟩ := HS.bnd H
  dsimp only at H
  have k_11 := slices_Insert_KeptR_k (List.length v5) 0 w4 [a0]
  simp -implicitDefEqProofs [-slices_Insert_KeptR_k] at k_11
  try simp -implicitDefEqProofs +decide (maxSteps := 999999) [-selQ_sel,hokQ_of,h_1,k_2,h_3,h_4,h_5,s_6,s_7,s_8,s_9,h_10,k_11]
  obtain ⟨v9,h_12,H⟩ := HS.bnd H
  have s_13 := (slc_spec h_12).1
  have s_14 := slc_fit h_12
  have s_15 := slc_map (e := eKeptR) h_12
  have s_16 := (slc_spec h_12).2.1
  simp -implicitDefEqProofs at s_13 s_14 s_15 s_16
  try simp only [s_16] at s_14 s_15
  try simp -implicitDefEqProofs +decide (maxSteps := 999999) [-selQ_sel,hokQ_of,h_1,k_2,h_3,h_4,h_5,s_6,s_7,s_8,s_9,h_10,k_11,h_12,s_13,s_14,s_15,s_16]
  refine Hid.brV (fun h_17 => ?_) (fun h_17 => ?_)
  ·replace H := HS.cnd_t h_17 H
   try simp -implicitDefEqProofs +decide (maxSteps := 999999) [-selQ_sel,hokQ_of,h_1,k_2,h_3,h_4,h_5,s_6,s_7,s_8,s_9,h_10,k_11,h_12,s_13,s_14,s_15,s_16,h_17]
   have hr := (HS.some H).symm; subst hr
   refine Hid.mk ⟨_,Wk.refl _,?_⟩
   try simp -implicitDefEqProofs +decide (maxSteps := 999999) [-selQ_sel,hokQ_of,h_1,k_2,h_3,h_4,h_5,s_6,s_7,s_8,s_9,h_10,k_11,h_12,s_13,s_14,s_15,s_16,h_17]
  ·replace H := HS.cnd_f h_17 H
   try simp -implicitDefEqProofs +decide (maxSteps := 999999) [-selQ_sel,hokQ_of,h_1,k_2,h_3,h_4,h_5,s_6,s_7,s_8,s_9,h_10,k_11,h_12,s_13,s_14,s_15,s_16,h_17]
   obtain ⟨⟨w11,w12⟩,h_18,H⟩ := HS.bnd H
   dsimp only at H
   try simp -implicitDefEqProofs +decide (maxSteps := 999999) [-selQ_sel,hokQ_of,h_1,k_2,h_3,h_4,h_5,s_6,s_7,s_8,s_9,h_10,k_11,h_12,s_13,s_14,s_15,s_16,h_17,h_18]
   obtain ⟨v13,h_19,H⟩ := HS.bnd H
   have s_20 := (slc_spec h_19).1
   have s_21 := slc_fit h_19
   have s_22 := slc_map (e := eKeptR) h_19
   have s_23 := (slc_spec h_19).2.1
   simp -implicitDefEqProofs at s_20 s_21 s_22 s_23
   try simp only [s_23] at s_21 s_22
   try simp -implicitDefEqProofs +decide (maxSteps := 999999) [-selQ_sel,hokQ_of,h_1,k_2,h_3,h_4,h_5,s_6,s_7,s_8,s_9,h_10,k_11,h_12,s_13,s_14,s_15,s_16,h_17,h_18,h_19,s_20,s_21,s_22,s_23]
   have hr := (HS.some H).symm; subst hr
   refine Hid.mk ⟨_,Wk.refl _,?_⟩
   try simp -implicitDefEqProofs +decide (maxSteps := 999999) [-selQ_sel,hokQ_of,h_1,k_2,h_3,h_4,h_5,s_6,s_7,s_8,s_9,h_10,k_11,h_12,s_13,s_14,s_15,s_16,h_17,h_18,h_19,s_20,s_21,s_22,s_23]
 ·replace H := HS.cnd_f h_3 H
  try simp -implicitDefEqProofs +decide (maxSteps := 999999) [-selQ_sel,hokQ_of,h_1,k_2,h_3]
  obtain ⟨⟨w15,w16⟩,h_24,H⟩ := HS.bnd H
  dsimp only at H
  have k_25 := slices_Insert_KeptR_k (List.length a3) 0 a3 [a0]
  simp -implicitDefEqProofs [-slices_Insert_KeptR_k] at k_25
  try simp -implicitDefEqProofs +decide (maxSteps := 999999) [-selQ_sel,hokQ_of,h_1,k_2,h_3,h_24,k_25]
  obtain ⟨v17,h_26,H⟩ := HS.bnd H
  have s_27 := (slc_spec h_26).1
  have s_28 := slc_fit h_26
  have s_29 := slc_map (e := eKeptR) h_26
  have s_30 := (slc_spec h_26).2.1
  simp -implicitDefEqProofs at s_27 s_28 s_29 s_30
  try simp only [s_30] at s_28 s_29
  try simp -implicitDefEqProofs +decide (maxSteps := 999999) [-selQ_sel,hokQ_of,h_1,k_2,h_3,h_24,k_25,h_26,s_27,s_28,s_29,s_30]
  refine Hid.brV (fun h_31 => ?_) (fun h_31 => ?_)
  ·replace H := HS.cnd_t h_31 H
   try simp -implicitDefEqProofs +decide (maxSteps := 999999) [-selQ_sel,hokQ_of,h_1,k_2,h_3,h_24,k_25,h_26,s_27,s_28,s_29,s_30,h_31]
   have hr := (HS.some H).symm; subst hr
   refine Hid.mk ⟨_,Wk.refl _,?_⟩
   try simp -implicitDefEqProofs +decide (maxSteps := 999999) [-selQ_sel,hokQ_of,h_1,k_2,h_3,h_24,k_25,h_26,s_27,s_28,s_29,s_30,h_31]
  ·replace H := HS.cnd_f h_31 H
   try simp -implicitDefEqProofs +decide (maxSteps := 999999) [-selQ_sel,hokQ_of,h_1,k_2,h_3,h_24,k_25,h_26,s_27,s_28,s_29,s_30,h_31]
   obtain ⟨⟨w19,w20⟩,h_32,H⟩ := HS.bnd H
   dsimp only at H
   try simp -implicitDefEqProofs +decide (maxSteps := 999999) [-selQ_sel,hokQ_of,h_1,k_2,h_3,h_24,k_25,h_26,s_27,s_28,s_29,s_30,h_31,h_32]
   obtain ⟨v21,h_33,H⟩ := HS.bnd H
   have s_34 := (slc_spec h_33).1
   have s_35 := slc_fit h_33
   have s_36 := slc_map (e := eKeptR) h_33
   have s_37 := (slc_spec h_33).2.1
   simp -implicitDefEqProofs at s_34 s_35 s_36 s_37
   try simp only [s_37] at s_35 s_36
   try simp -implicitDefEqProofs +decide (maxSteps := 999999) [-selQ_sel,hokQ_of,h_1,k_2,h_3,h_24,k_25,h_26,s_27,s_28,s_29,s_30,h_31,h_32,h_33,s_34,s_35,s_36,s_37]
   have hr := (HS.some H).symm; subst hr
   refine Hid.mk ⟨_,Wk.refl _,?_⟩
   try simp -implicitDefEqProofs +decide (maxSteps := 999999) [-selQ_sel,hokQ_of,h_1,k_2,h_3,h_24,k_25,h_26,s_27,s_28,s_29,s_30,h_31,h_32,h_33,s_34,s_35,s_36,s_37]
theorem impl_CacheOk_ok0 (hm : Try.prog.follows .mixedOrders = true) (k_impl_inRange : Sound Try.prog 75 impl_inRange_x) (k_impl_Cache_keptAt : Sound Try.prog 81 impl_Cache_keptAt_x) (k_impl_MaskOk : Sound Try.prog 76 impl_MaskOk_x) : Sound Try.prog 37 impl_CacheOk_x := by
 refine xOf_sound fun q r h => ?_
 revert h; revert r; revert q; intro a0 r h
 refine fn_ok E0 hm Try.func37 rfl (by decide +kernel) (by rfl) fun Γ hn hk => ?_
 dsimp only [impl_CacheOk_e,impl_CacheOk_v]
 replace hn : Γ.n = 42 := hn
 replace hk : Γ.k = 0 := hk
 have H : HS (impl_CacheOk a0) r := h
 clear h; unfold impl_CacheOk at H
 try simp -implicitDefEqProofs at H
 refine Tr.of_vc (cl := tabC [(75,impl_inRange_x),(81,impl_Cache_keptAt_x),(76,impl_MaskOk_x)]) (E := E0) [] (tab_cons k_impl_inRange (tab_cons k_impl_Cache_keptAt (tab_cons k_impl_MaskOk tab_nil))) hm (by rw [hn]; decide +kernel) ?_
 try simp -implicitDefEqProofs (maxSteps := 999999) [-selQ_sel]
 obtain ⟨q,h_1,H⟩ := HS.bnd H
 refine Hid.mk (Tr.weak (s' := (impl_CacheOk_l0_S a0) 0) (Wk.ofk [0] hk (by rfl) (by simp -implicitDefEqProofs [impl_CacheOk_l0_S]) (by simp -implicitDefEqProofs [impl_CacheOk_l0_S])) ?_)
 refine wp_loop_of (S := (impl_CacheOk_l0_S a0)) (f := (impl_CacheOk_l0 a0)) (xt := (impl_CacheOk_l0_X a0)) ?_ ?_ h_1 ?_
 ·intro q; rcases q with ⟨⟩ | ⟨⟩ <;> simp [impl_CacheOk_l0_X]
 ·clear H h_1 q
  rintro x5 o R hf hR
  have H : HS (impl_CacheOk_l0 a0 x5) o := hf
  clear hf; unfold impl_CacheOk_l0 at H
  try simp -implicitDefEqProofs at H
  refine Tr.of_vc (cl := tabC [(75,impl_inRange_x),(81,impl_Cache_keptAt_x),(76,impl_MaskOk_x)]) (E := E0) [] (tab_cons k_impl_inRange (tab_cons k_impl_Cache_keptAt (tab_cons k_impl_MaskOk tab_nil))) hm (by rw [hn]; decide +kernel) ?_
  try simp -implicitDefEqProofs (maxSteps := 999999) [-selQ_sel,impl_CacheOk_l0_S]
  refine Hid.brV (fun h_2 => ?_) (fun h_2 => ?_)
  ·replace H := HS.cnd_t h_2 H
   try simp -implicitDefEqProofs (maxSteps := 999999) [-selQ_sel,h_2]
   have hr := (HS.some H).symm; subst hr
   exact Hid.mk ⟨(impl_CacheOk_l0_X a0 (.inl ())).2,Wk.ofk [0] hk (by rfl) (by simp -implicitDefEqProofs [impl_CacheOk_l0_X,h_2]) (by simp -implicitDefEqProofs [impl_CacheOk_l0_X,h_2]),hR⟩
  ·replace H := HS.cnd_f h_2 H
   try simp -implicitDefEqProofs (maxSteps := 999999) [-selQ_sel,h_2]
   obtain ⟨v6,h_3,H⟩ := HS.bnd H
   try simp -implicitDefEqProofs (maxSteps := 999999) [-selQ_sel,h_2,h_3]
   obtain ⟨v7,h_4,H⟩ := HS.bnd H
   try simp -implicitDefEqProofs (maxSteps := 999999) [-selQ_sel,h_2,h_3,h_4]
   refine Hid.selQ (fun h_5 => ?_) (fun h_5 => ?_)
   ·replace H := HS.cnd_t h_5 H
    try simp -implicitDefEqProofs (maxSteps := 999999) [-selQ_sel,h_2,h_3,h_4,h_5]
    obtain ⟨v8,h_6,H⟩ := HS.bnd H
    try simp -implicitDefEqProofs (maxSteps := 999999) [-selQ_sel,h_2,h_3,h_4,h_5,h_6]
    refine Hid.selQ (fun h_7 => ?_) (fun h_7 => ?_)
    ·replace H := HS.cnd_t h_7 H
     try simp -implicitDefEqProofs (maxSteps := 999999) [-selQ_sel,h_2,h_3,h_4,h_5,h_6,h_7]
     obtain ⟨v9,h_8,H⟩ := HS.bnd H
     try simp -implicitDefEqProofs (maxSteps := 999999) [-selQ_sel,h_2,h_3,h_4,h_5,h_6,h_7,h_8]
     refine Hid.brV (fun h_9 => ?_) (fun h_9 => ?_)
     ·replace H := HS.cnd_t h_9 H
      try simp -implicitDefEqProofs (maxSteps := 999999) [-selQ_sel,h_2,h_3,h_4,h_5,h_6,h_7,h_8,h_9]
      have hr := (HS.some H).symm; subst hr
      exact Hid.mk ⟨impl_CacheOk_l0_S a0 (IntKind.i64.wrap (x5 + 1)),Wk.ofk [0] hk (by rfl) (by simp -implicitDefEqProofs [impl_CacheOk_l0_S,h_2,h_3,h_4,h_5,h_6,h_7,h_8,h_9]) (by simp -implicitDefEqProofs [impl_CacheOk_l0_S,h_2,h_3,h_4,h_5,h_6,h_7,h_8,h_9]),hR⟩
     ·replace H := HS.cnd_f h_9 H
      try simp -implicitDefEqProofs (maxSteps := 999999) [-selQ_sel,h_2,h_3,h_4,h_5,h_6,h_7,h_8,h_9]
      have hr := (HS.some H).symm; subst hr
      exact Hid.mk ⟨(impl_CacheOk_l0_X a0 (.inr ())).2,Wk.ofk [] hk (by rfl) (by simp -implicitDefEqProofs [impl_CacheOk_l0_X,h_2,h_3,h_4,h_5,h_6,h_7,h_8,h_9]) (by simp -implicitDefEqProofs [impl_CacheOk_l0_X,h_2,h_3,h_4,h_5,h_6,h_7,h_8,h_9]),hR⟩
    ·replace H := HS.cnd_f h_7 H
     try simp -implicitDefEqProofs (maxSteps := 999999) [-selQ_sel,h_2,h_3,h_4,h_5,h_6,h_7]
     have hr := (HS.some H).symm; subst hr
     exact Hid.mk ⟨(impl_CacheOk_l0_X a0 (.inr ())).2,Wk.ofk [] hk (by rfl) (by simp -implicitDefEqProofs [impl_CacheOk_l0_X,h_2,h_3,h_4,h_5,h_6,h_7]) (by simp -implicitDefEqProofs [impl_CacheOk_l0_X,h_2,h_3,h_4,h_5,h_6,h_7]),hR⟩
   ·replace H := HS.cnd_f h_5 H
    try simp -implicitDefEqProofs (maxSteps := 999999) [-selQ_sel,h_2,h_3,h_4,h_5]
    have hr := (HS.some H).symm; subst hr
    exact Hid.mk ⟨(impl_CacheOk_l0_X a0 (.inr ())).2,Wk.ofk [] hk (by rfl) (by simp -implicitDefEqProofs [impl_CacheOk_l0_X,h_2,h_3,h_4,h_5]) (by simp -implicitDefEqProofs [impl_CacheOk_l0_X,h_2,h_3,h_4,h_5]),hR⟩
 ·rcases q with ⟨⟩ | ⟨⟩
  ·dsimp only at H
   try simp -implicitDefEqProofs (maxSteps := 999999) [-selQ_sel,impl_CacheOk_l0_X]
   obtain ⟨v10,h_10,H⟩ := HS.bnd H
   try simp -implicitDefEqProofs (maxSteps := 999999) [-selQ_sel,h_10]
   refine Hid.selQ (fun h_11 => ?_) (fun h_11 => ?_)
   ·replace H := HS.cnd_t h_11 H
    try simp -implicitDefEqProofs (maxSteps := 999999) [-selQ_sel,h_10,h_11]
    have hr := (HS.some H).symm; subst hr
    refine Hid.mk ⟨_,Wk.refl _,?_⟩
    try simp -implicitDefEqProofs (maxSteps := 999999) [-selQ_sel,h_10,h_11]
   ·replace H := HS.cnd_f h_11 H
    try simp -implicitDefEqProofs (maxSteps := 999999) [-selQ_sel,h_10,h_11]
    have hr := (HS.some H).symm; subst hr
    refine Hid.mk ⟨_,Wk.refl _,?_⟩
    try simp -implicitDefEqProofs (maxSteps := 999999) [-selQ_sel,h_10,h_11]
  ·dsimp only at H
   try simp -implicitDefEqProofs (maxSteps := 999999) [-selQ_sel,impl_CacheOk_l0_X]
   have hr := (HS.some H).symm; subst hr
   refine Hid.mk ⟨_,Wk.refl _,?_⟩
   try simp -implicitDefEqProofs (maxSteps := 999999) [-selQ_sel]
theorem impl_Recall_ok0 (hm : Try.prog.follows .mixedOrders = true) (k_impl_copyCache : Sound Try.prog 62 impl_copyCache_x) (k_impl_Cache_keptAt : Sound Try.prog 81 impl_Cache_keptAt_x) (k_impl_CacheOk : Sound Try.prog 37 impl_CacheOk_x) (k_impl_Cache_toFront_n : Sound Try.prog 77 impl_Cache_toFront_n_x) (k_impl_copyMask : Sound Try.prog 78 impl_copyMask_x) : Sound Try.prog 31 impl_Recall_x := by
 refine xOf_sound fun q r h => ?_
 obtain ⟨a0,a1⟩ := q
 refine fn_ok E0 hm Try.func31 rfl (by decide +kernel) (by rfl) fun Γ hn hk => ?_
 dsimp only [impl_Recall_e,impl_Recall_v]
 replace hn : Γ.n = 36 := hn
 replace hk : Γ.k = 0 := hk
 have H : HS (impl_Recall a0 a1) r := h
 clear h; unfold impl_Recall at H
 try simp -implicitDefEqProofs at H
 refine Tr.of_vc (cl := tabC [(62,impl_copyCache_x),(81,impl_Cache_keptAt_x),(37,impl_CacheOk_x),(77,impl_Cache_toFront_n_x),(78,impl_copyMask_x)]) (E := E0) [] (tab_cons k_impl_copyCache (tab_cons k_impl_Cache_keptAt (tab_cons k_impl_CacheOk (tab_cons k_impl_Cache_toFront_n (tab_cons k_impl_copyMask tab_nil))))) hm (by rw [hn]; decide +kernel) ?_
 try simp -implicitDefEqProofs +decide (maxSteps := 999999) [-selQ_sel,hokQ_of]
 obtain ⟨⟨w2,w3⟩,h_1,H⟩ := HS.bnd H
 dsimp only at H
 try simp -implicitDefEqProofs +decide (maxSteps := 999999) [-selQ_sel,hokQ_of,h_1]
 obtain ⟨v4,h_2,H⟩ := HS.bnd H
 try simp -implicitDefEqProofs +decide (maxSteps := 999999) [-selQ_sel,hokQ_of,h_1,h_2]
 refine Hid.selQ (fun h_3 => ?_) (fun h_3 => ?_)
 ·replace H := HS.cnd_t h_3 H
  try simp -implicitDefEqProofs +decide (maxSteps := 999999) [-selQ_sel,hokQ_of,h_1,h_2,h_3]
  obtain ⟨v5,h_4,H⟩ := HS.bnd H
  try simp -implicitDefEqProofs +decide (maxSteps := 999999) [-selQ_sel,hokQ_of,h_1,h_2,h_3,h_4]
  refine Hid.brV (fun h_5 => ?_) (fun h_5 => ?_)
  ·replace H := HS.cnd_t h_5 H
   try simp -implicitDefEqProofs +decide (maxSteps := 999999) [-selQ_sel,hokQ_of,h_1,h_2,h_3,h_4,h_5]
   obtain ⟨v6,h_6,H⟩ := HS.bnd H
   have g_7 := idx_get h_6
   have g_8 := idx_lt h_6
   have g_9 := idx_getE h_6
   try simp -implicitDefEqProofs +decide (maxSteps := 999999) [-selQ_sel,hokQ_of,h_1,h_2,h_3,h_4,h_5,h_6,g_7,g_8,g_9]
   obtain ⟨v7,h_10,H⟩ := HS.bnd H
   have k_11 := impl_Cache_toFront_n_ks v6.id v6.mask.box.x0 v6.mask.box.y0 v6.mask.box.x1 v6.mask.box.y1 w2 v6.mask.bits w3 v4 (by assumption)
   simp -implicitDefEqProofs [-impl_Cache_toFront_n_k] at k_11
   try simp -implicitDefEqProofs +decide (maxSteps := 999999) [-selQ_sel,hokQ_of,h_1,h_2,h_3,h_4,h_5,h_6,g_7,g_8,g_9,h_10,k_11]
   obtain ⟨v8,h_12,H⟩ := HS.bnd H
   try simp -implicitDefEqProofs +decide (maxSteps := 999999) [-selQ_sel,hokQ_of,h_1,h_2,h_3,h_4,h_5,h_6,g_7,g_8,g_9,h_10,k_11,h_12]
   obtain ⟨⟨w10,w11⟩,h_13,H⟩ := HS.bnd H
   dsimp only at H
   try simp -implicitDefEqProofs +decide (maxSteps := 999999) [-selQ_sel,hokQ_of,h_1,h_2,h_3,h_4,h_5,h_6,g_7,g_8,g_9,h_10,k_11,h_12,h_13]
   have hr := (HS.some H).symm; subst hr
   refine Hid.mk ⟨⟨[(4,AV.optr 0 0 2),(5,AV.optr 1 0 5),(6,AV.bool true)],[(0,Ob.box [AV.int .i64 w2,AV.osl 2 0 (List.length v7) (List.length v7)]),(1,Ob.box [AV.int .i64 w10.x0,AV.int .i64 w10.y0,AV.int .i64 w10.x1,AV.int .i64 w10.y1,AV.osl 3 0 (List.length w11) (List.length w11)]),(2,Ob.nar 6 (List.map eKept v7) [0,0,0,0,0,1]),(3,Ob.arr 1 (List.map (AV.int .i64) w11) false)],4⟩,Wk.ofk [1,2,6,7] hk (by rfl) (by simp -implicitDefEqProofs [h_1,h_2,h_3,h_4,h_5,h_6,g_7,g_8,g_9,h_10,k_11,h_12,h_13]) (by simp -implicitDefEqProofs [h_1,h_2,h_3,h_4,h_5,h_6,g_7,g_8,g_9,h_10,k_11,h_12,h_13]),?_⟩
   try simp -implicitDefEqProofs +decide (maxSteps := 999999) [-selQ_sel,hokQ_of,h_1,h_2,h_3,h_4,h_5,h_6,g_7,g_8,g_9,h_10,k_11,h_12,h_13]
  ·replace H := HS.cnd_f h_5 H
   try simp -implicitDefEqProofs +decide (maxSteps := 999999) [-selQ_sel,hokQ_of,h_1,h_2,h_3,h_4,h_5]
   have hr := (HS.some H).symm; subst hr
   refine Hid.mk ⟨⟨[(4,AV.optr 0 0 2),(5,AV.optr 1 0 5),(6,AV.bool false)],[(0,Ob.box [AV.int .i64 w2,AV.osl 2 0 (List.length w3) (List.length w3)]),(1,Ob.box [AV.int .i64 0,AV.int .i64 0,AV.int .i64 0,AV.int .i64 0,AV.osl 3 0 0 0]),(2,Ob.nar 6 (List.map eKept w3) [0,0,0,0,0,1]),(3,Ob.arr 1 (List.map (AV.int .i64) []) false)],4⟩,Wk.ofk [1,2,3,5] hk (by rfl) (by simp -implicitDefEqProofs [h_1,h_2,h_3,h_4,h_5]) (by simp -implicitDefEqProofs [h_1,h_2,h_3,h_4,h_5]),?_⟩
   try simp -implicitDefEqProofs +decide (maxSteps := 999999) [-selQ_sel,hokQ_of,h_1,h_2,h_3,h_4,h_5]
 ·replace H := HS.cnd_f h_3 H
  try simp -implicitDefEqProofs +decide (maxSteps := 999999) [-selQ_sel,hokQ_of,h_1,h_2,h_3]
  have hr := (HS.some H).symm; subst hr
  refine Hid.mk ⟨⟨[(4,AV.optr 0 0 2),(5,AV.optr 1 0 5),(6,AV.bool false)],[(0,Ob.box [AV.int .i64 w2,AV.osl 2 0 (List.length w3) (List.length w3)]),(1,Ob.box [AV.int .i64 0,AV.int .i64 0,AV.int .i64 0,AV.int .i64 0,AV.osl 3 0 0 0]),(2,Ob.nar 6 (List.map eKept w3) [0,0,0,0,0,1]),(3,Ob.arr 1 (List.map (AV.int .i64) []) false)],4⟩,Wk.ofk [1,2,3,5] hk (by rfl) (by simp -implicitDefEqProofs [h_1,h_2,h_3]) (by simp -implicitDefEqProofs [h_1,h_2,h_3]),?_⟩
  try simp -implicitDefEqProofs +decide (maxSteps := 999999) [-selQ_sel,hokQ_of,h_1,h_2,h_3]
theorem laws_eqKeptS_ok0 (hm : Try.prog.follows .mixedOrders = true) (k_laws_eqKept : Sound Try.prog 120 laws_eqKept_x) : Sound Try.prog 66 laws_eqKeptS_x := by
 refine xOf_sound fun q r h => ?_
 obtain ⟨a0,a1⟩ := q
 refine fn_ok E0 hm Try.func66 rfl (by decide +kernel) (by rfl) fun Γ hn hk => ?_
 dsimp only [laws_eqKeptS_e,laws_eqKeptS_v]
 replace hn : Γ.n = 27 := hn
 replace hk : Γ.k = 0 := hk
 have H : HS (laws_eqKeptS a0 a1) r := h
 clear h; unfold laws_eqKeptS at H
 try simp -implicitDefEqProofs at H
 refine Tr.of_vc (cl := tabC [(120,laws_eqKept_x)]) (E := E0) [] (tab_cons k_laws_eqKept tab_nil) hm (by rw [hn]; decide +kernel) ?_
 try simp -implicitDefEqProofs +decide (maxSteps := 999999) [-selQ_sel,hokQ_of]
 refine Hid.brV (fun h_1 => ?_) (fun h_1 => ?_)
 ·replace H := HS.cnd_t h_1 H
  try simp -implicitDefEqProofs +decide (maxSteps := 999999) [-selQ_sel,hokQ_of,h_1]
  obtain ⟨q,h_2,H⟩ := HS.bnd H
  refine Hid.mk (Tr.weak (s' := (laws_eqKeptS_l0_S a0 a1) 0) (Wk.ofk [] hk (by rfl) (by simp -implicitDefEqProofs [laws_eqKeptS_l0_S,h_1]) (by simp -implicitDefEqProofs [laws_eqKeptS_l0_S,h_1])) ?_)
  refine wp_loop_of (S := (laws_eqKeptS_l0_S a0 a1)) (f := (laws_eqKeptS_l0 a0 a1)) (xt := (laws_eqKeptS_l0_X a0 a1)) ?_ ?_ h_2 ?_
  ·intro q; rcases q with ⟨⟩ | ⟨⟩ <;> simp [laws_eqKeptS_l0_X]
  ·clear H h_2 q
   rintro x4 o R hf hR
   have H : HS (laws_eqKeptS_l0 a0 a1 x4) o := hf
   clear hf; unfold laws_eqKeptS_l0 at H
   try simp -implicitDefEqProofs at H
   refine Tr.of_vc (cl := tabC [(120,laws_eqKept_x)]) (E := E0) [] (tab_cons k_laws_eqKept tab_nil) hm (by rw [hn]; decide +kernel) ?_
   try simp -implicitDefEqProofs +decide (maxSteps := 999999) [-selQ_sel,hokQ_of,laws_eqKeptS_l0_S]
   refine Hid.brV (fun h_3 => ?_) (fun h_3 => ?_)
   ·replace H := HS.cnd_t h_3 H
    try simp -implicitDefEqProofs +decide (maxSteps := 999999) [-selQ_sel,hokQ_of,h_3]
    have hr := (HS.some H).symm; subst hr
    exact Hid.mk ⟨(laws_eqKeptS_l0_X a0 a1 (.inl ())).2,Wk.ofk [] hk (by rfl) (by simp -implicitDefEqProofs [laws_eqKeptS_l0_X,h_3]) (by simp -implicitDefEqProofs [laws_eqKeptS_l0_X,h_3]),hR⟩
   ·replace H := HS.cnd_f h_3 H
    try simp -implicitDefEqProofs +decide (maxSteps := 999999) [-selQ_sel,hokQ_of,h_3]
    obtain ⟨v5,h_4,H⟩ := HS.bnd H
    try simp -implicitDefEqProofs +decide (maxSteps := 999999) [-selQ_sel,hokQ_of,h_3,h_4]
    obtain ⟨v6,h_5,H⟩ := HS.bnd H
    try simp -implicitDefEqProofs +decide (maxSteps := 999999) [-selQ_sel,hokQ_of,h_3,h_4,h_5]
    obtain ⟨v7,h_6,H⟩ := HS.bnd H
    try simp -implicitDefEqProofs +decide (maxSteps := 999999) [-selQ_sel,hokQ_of,h_3,h_4,h_5,h_6]
    refine Hid.brV (fun h_7 => ?_) (fun h_7 => ?_)
    ·replace H := HS.cnd_t h_7 H
     try simp -implicitDefEqProofs +decide (maxSteps := 999999) [-selQ_sel,hokQ_of,h_3,h_4,h_5,h_6,h_7]
     have hr := (HS.some H).symm; subst hr
     exact Hid.mk ⟨laws_eqKeptS_l0_S a0 a1 (IntKind.i64.wrap (x4 + 1)),Wk.ofk [] hk (by rfl) (by simp -implicitDefEqProofs [laws_eqKeptS_l0_S,h_3,h_4,h_5,h_6,h_7]) (by simp -implicitDefEqProofs [laws_eqKeptS_l0_S,h_3,h_4,h_5,h_6,h_7]),hR⟩
    ·replace H := HS.cnd_f h_7 H
     try simp -implicitDefEqProofs +decide (maxSteps := 999999) [-selQ_sel,hokQ_of,h_3,h_4,h_5,h_6,h_7]
     have hr := (HS.some H).symm; subst hr
     exact Hid.mk ⟨(laws_eqKeptS_l0_X a0 a1 (.inr ())).2,Wk.ofk [] hk (by rfl) (by simp -implicitDefEqProofs [laws_eqKeptS_l0_X,h_3,h_4,h_5,h_6,h_7]) (by simp -implicitDefEqProofs [laws_eqKeptS_l0_X,h_3,h_4,h_5,h_6,h_7]),hR⟩
  ·rcases q with ⟨⟩ | ⟨⟩
   ·dsimp only at H
    try simp -implicitDefEqProofs +decide (maxSteps := 999999) [-selQ_sel,hokQ_of,h_1,laws_eqKeptS_l0_X]
    have hr := (HS.some H).symm; subst hr
    refine Hid.mk ⟨_,Wk.refl _,?_⟩
    try simp -implicitDefEqProofs +decide (maxSteps := 999999) [-selQ_sel,hokQ_of,h_1]
   ·dsimp only at H
    try simp -implicitDefEqProofs +decide (maxSteps := 999999) [-selQ_sel,hokQ_of,h_1,laws_eqKeptS_l0_X]
    have hr := (HS.some H).symm; subst hr
    refine Hid.mk ⟨_,Wk.refl _,?_⟩
    try simp -implicitDefEqProofs +decide (maxSteps := 999999) [-selQ_sel,hokQ_of,h_1]
 ·replace H := HS.cnd_f h_1 H
  try simp -implicitDefEqProofs +decide (maxSteps := 999999) [-selQ_sel,hokQ_of,h_1]
  have hr := (HS.some H).symm; subst hr
  refine Hid.mk ⟨_,Wk.refl _,?_⟩
  try simp -implicitDefEqProofs +decide (maxSteps := 999999) [-selQ_sel,hokQ_of,h_1]
theorem laws_eqIntS_ok0 (hm : Try.prog.follows .mixedOrders = true) : Sound Try.prog 20 laws_eqIntS_x := by
 refine xOf_sound fun q r h => ?_
 obtain ⟨a0,a1⟩ := q
 refine fn_ok E0 hm Try.func20 rfl (by decide +kernel) (by rfl) fun Γ hn hk => ?_
 dsimp only [laws_eqIntS_e,laws_eqIntS_v]
 replace hn : Γ.n = 26 := hn
 replace hk : Γ.k = 0 := hk
 have H : HS (laws_eqIntS a0 a1) r := h
 clear h; unfold laws_eqIntS at H
 try simp -implicitDefEqProofs at H
 refine Tr.of_vc (cl := tabC []) (E := E0) [] tab_nil hm (by rw [hn]; decide +kernel) ?_
 try simp -implicitDefEqProofs +decide (maxSteps := 999999) [-selQ_sel,hokQ_of]
 refine Hid.brV (fun h_1 => ?_) (fun h_1 => ?_)
 ·replace H := HS.cnd_t h_1 H
  try simp -implicitDefEqProofs +decide (maxSteps := 999999) [-selQ_sel,hokQ_of,h_1]
  obtain ⟨q,h_2,H⟩ := HS.bnd H
  refine Hid.mk (Tr.weak (s' := (laws_eqIntS_l0_S a0 a1) 0) (Wk.ofk [] hk (by rfl) (by simp -implicitDefEqProofs [laws_eqIntS_l0_S,h_1]) (by simp -implicitDefEqProofs [laws_eqIntS_l0_S,h_1])) ?_)
  refine wp_loop_of (S := (laws_eqIntS_l0_S a0 a1)) (f := (laws_eqIntS_l0 a0 a1)) (xt := (laws_eqIntS_l0_X a0 a1)) ?_ ?_ h_2 ?_
  ·intro q; rcases q with ⟨⟩ | ⟨⟩ <;> simp [laws_eqIntS_l0_X]
  ·clear H h_2 q
   rintro x3 o R hf hR
   have H : HS (laws_eqIntS_l0 a0 a1 x3) o := hf
   clear hf; unfold laws_eqIntS_l0 at H
   try simp -implicitDefEqProofs at H
   refine Tr.of_vc (cl := tabC []) (E := E0) [] tab_nil hm (by rw [hn]; decide +kernel) ?_
   try simp -implicitDefEqProofs +decide (maxSteps := 999999) [-selQ_sel,hokQ_of,laws_eqIntS_l0_S]
   refine Hid.brV (fun h_3 => ?_) (fun h_3 => ?_)
   ·replace H := HS.cnd_t h_3 H
    try simp -implicitDefEqProofs +decide (maxSteps := 999999) [-selQ_sel,hokQ_of,h_3]
    have hr := (HS.some H).symm; subst hr
    exact Hid.mk ⟨(laws_eqIntS_l0_X a0 a1 (.inl ())).2,Wk.ofk [] hk (by rfl) (by simp -implicitDefEqProofs [laws_eqIntS_l0_X,h_3]) (by simp -implicitDefEqProofs [laws_eqIntS_l0_X,h_3]),hR⟩
   ·replace H := HS.cnd_f h_3 H
    try simp -implicitDefEqProofs +decide (maxSteps := 999999) [-selQ_sel,hokQ_of,h_3]
    obtain ⟨v4,h_4,H⟩ := HS.bnd H
    try simp -implicitDefEqProofs +decide (maxSteps := 999999) [-selQ_sel,hokQ_of,h_3,h_4]
    obtain ⟨v5,h_5,H⟩ := HS.bnd H
    try simp -implicitDefEqProofs +decide (maxSteps := 999999) [-selQ_sel,hokQ_of,h_3,h_4,h_5]
    refine Hid.brV (fun h_6 => ?_) (fun h_6 => ?_)
    ·replace H := HS.cnd_t h_6 H
     try simp -implicitDefEqProofs +decide (maxSteps := 999999) [-selQ_sel,hokQ_of,h_3,h_4,h_5,h_6]
     have hr := (HS.some H).symm; subst hr
     exact Hid.mk ⟨laws_eqIntS_l0_S a0 a1 (IntKind.i64.wrap (x3 + 1)),Wk.ofk [] hk (by rfl) (by simp -implicitDefEqProofs [laws_eqIntS_l0_S,h_3,h_4,h_5,h_6]) (by simp -implicitDefEqProofs [laws_eqIntS_l0_S,h_3,h_4,h_5,h_6]),hR⟩
    ·replace H := HS.cnd_f h_6 H
     try simp -implicitDefEqProofs +decide (maxSteps := 999999) [-selQ_sel,hokQ_of,h_3,h_4,h_5,h_6]
     have hr := (HS.some H).symm; subst hr
     exact Hid.mk ⟨(laws_eqIntS_l0_X a0 a1 (.inr ())).2,Wk.ofk [] hk (by rfl) (by simp -implicitDefEqProofs [laws_eqIntS_l0_X,h_3,h_4,h_5,h_6]) (by simp -implicitDefEqProofs [laws_eqIntS_l0_X,h_3,h_4,h_5,h_6]),hR⟩
  ·rcases q with ⟨⟩ | ⟨⟩
   ·dsimp only at H
    try simp -implicitDefEqProofs +decide (maxSteps := 999999) [-selQ_sel,hokQ_of,h_1,laws_eqIntS_l0_X]
    have hr := (HS.some H).symm; subst hr
    refine Hid.mk ⟨_,Wk.refl _,?_⟩
    try simp -implicitDefEqProofs +decide (maxSteps := 999999) [-selQ_sel,hokQ_of,h_1]
   ·dsimp only at H
    try simp -implicitDefEqProofs +decide (maxSteps := 999999) [-selQ_sel,hokQ_of,h_1,laws_eqIntS_l0_X]
    have hr := (HS.some H).symm; subst hr
    refine Hid.mk ⟨_,Wk.refl _,?_⟩
    try simp -implicitDefEqProofs +decide (maxSteps := 999999) [-selQ_sel,hokQ_of,h_1]
 ·replace H := HS.cnd_f h_1 H
  try simp -implicitDefEqProofs +decide (maxSteps := 999999) [-selQ_sel,hokQ_of,h_1]
  have hr := (HS.some H).symm; subst hr
  refine Hid.mk ⟨_,Wk.refl _,?_⟩
  try simp -implicitDefEqProofs +decide (maxSteps := 999999) [-selQ_sel,hokQ_of,h_1]
theorem impl_isMaskBox_ok0 (hm : Try.prog.follows .mixedOrders = true) (k_impl_Empty : Sound Try.prog 156 impl_Empty_x) : Sound Try.prog 122 impl_isMaskBox_x := by
 refine xOf_sound fun q r h => ?_
 revert h; revert r; revert q; intro a0 r h
 refine fn_ok E0 hm Try.func122 rfl (by decide +kernel) (by rfl) fun Γ hn hk => ?_
 dsimp only [impl_isMaskBox_e,impl_isMaskBox_v]
 replace hn : Γ.n = 39 := hn
 replace hk : Γ.k = 0 := hk
 have H : HS (impl_isMaskBox a0) r := h
 clear h; unfold impl_isMaskBox at H
 try simp -implicitDefEqProofs at H
 refine Tr.of_vc (cl := tabC [(156,impl_Empty_x)]) (E := E0) [] (tab_cons k_impl_Empty tab_nil) hm (by rw [hn]; decide +kernel) ?_
 try simp -implicitDefEqProofs (maxSteps := 999999) [-selQ_sel]
 obtain ⟨v1,h_1,H⟩ := HS.bnd H
 try simp -implicitDefEqProofs (maxSteps := 999999) [-selQ_sel,h_1]
 refine Hid.selQ (fun h_2 => ?_) (fun h_2 => ?_)
 ·replace H := HS.cnd_t h_2 H
  try simp -implicitDefEqProofs (maxSteps := 999999) [-selQ_sel,h_1,h_2]
  have hr := (HS.some H).symm; subst hr
  refine Hid.mk ⟨_,Wk.refl _,?_⟩
  try simp -implicitDefEqProofs (maxSteps := 999999) [-selQ_sel,h_1,h_2]
 ·replace H := HS.cnd_f h_2 H
  try simp -implicitDefEqProofs (maxSteps := 999999) [-selQ_sel,h_1,h_2]
  refine Hid.selQ (fun h_3 => ?_) (fun h_3 => ?_)
  ·replace H := HS.cnd_t h_3 H
   try simp -implicitDefEqProofs (maxSteps := 999999) [-selQ_sel,h_1,h_2,h_3]
   refine Hid.selQ (fun h_4 => ?_) (fun h_4 => ?_)
   ·replace H := HS.cnd_t h_4 H
    try simp -implicitDefEqProofs (maxSteps := 999999) [-selQ_sel,h_1,h_2,h_3,h_4]
    refine Hid.selQ (fun h_5 => ?_) (fun h_5 => ?_)
    ·replace H := HS.cnd_t h_5 H
     try simp -implicitDefEqProofs (maxSteps := 999999) [-selQ_sel,h_1,h_2,h_3,h_4,h_5]
     refine Hid.brV (fun h_6 => ?_) (fun h_6 => ?_)
     ·replace H := HS.cnd_t h_6 H
      try simp -implicitDefEqProofs (maxSteps := 999999) [-selQ_sel,h_1,h_2,h_3,h_4,h_5,h_6]
      refine Hid.selQ (fun h_7 => ?_) (fun h_7 => ?_)
      ·replace H := HS.cnd_t h_7 H
       try simp -implicitDefEqProofs (maxSteps := 999999) [-selQ_sel,h_1,h_2,h_3,h_4,h_5,h_6,h_7]
       have hr := (HS.some H).symm; subst hr
       refine Hid.mk ⟨_,Wk.refl _,?_⟩
       try simp -implicitDefEqProofs (maxSteps := 999999) [-selQ_sel,h_1,h_2,h_3,h_4,h_5,h_6,h_7]
      ·replace H := HS.cnd_f h_7 H
       try simp -implicitDefEqProofs (maxSteps := 999999) [-selQ_sel,h_1,h_2,h_3,h_4,h_5,h_6,h_7]
       have hr := (HS.some H).symm; subst hr
       refine Hid.mk ⟨_,Wk.refl _,?_⟩
       try simp -implicitDefEqProofs (maxSteps := 999999) [-selQ_sel,h_1,h_2,h_3,h_4,h_5,h_6,h_7]
     ·replace H := HS.cnd_f h_6 H
      try simp -implicitDefEqProofs (maxSteps := 999999) [-selQ_sel,h_1,h_2,h_3,h_4,h_5,h_6]
      have hr := (HS.some H).symm; subst hr
      refine Hid.mk ⟨_,Wk.refl _,?_⟩
      try simp -implicitDefEqProofs (maxSteps := 999999) [-selQ_sel,h_1,h_2,h_3,h_4,h_5,h_6]
    ·replace H := HS.cnd_f h_5 H
     try simp -implicitDefEqProofs (maxSteps := 999999) [-selQ_sel,h_1,h_2,h_3,h_4,h_5]
     have hr := (HS.some H).symm; subst hr
     refine Hid.mk ⟨_,Wk.refl _,?_⟩
     try simp -implicitDefEqProofs (maxSteps := 999999) [-selQ_sel,h_1,h_2,h_3,h_4,h_5]
   ·replace H := HS.cnd_f h_4 H
    try simp -implicitDefEqProofs (maxSteps := 999999) [-selQ_sel,h_1,h_2,h_3,h_4]
    have hr := (HS.some H).symm; subst hr
    refine Hid.mk ⟨_,Wk.refl _,?_⟩
    try simp -implicitDefEqProofs (maxSteps := 999999) [-selQ_sel,h_1,h_2,h_3,h_4]
  ·replace H := HS.cnd_f h_3 H
   try simp -implicitDefEqProofs (maxSteps := 999999) [-selQ_sel,h_1,h_2,h_3]
   have hr := (HS.some H).symm; subst hr
   refine Hid.mk ⟨_,Wk.refl _,?_⟩
   try simp -implicitDefEqProofs (maxSteps := 999999) [-selQ_sel,h_1,h_2,h_3]
theorem laws_markKeptS_ok0 (hm : Try.prog.follows .mixedOrders = true) (k_laws_markIntS : Sound Try.prog 22 laws_markIntS_x) : Sound Try.prog 67 laws_markKeptS_x := by
 refine xOf_sound fun q r h => ?_
 obtain ⟨a0,a1⟩ := q
 refine fn_ok E0 hm Try.func67 rfl (by decide +kernel) (by rfl) fun Γ hn hk => ?_
 dsimp only [laws_markKeptS_e,laws_markKeptS_v]
 replace hn : Γ.n = 64 := hn
 replace hk : Γ.k = 1 := hk
 have H : HS (laws_markKeptS a0 a1) r := h
 clear h; unfold laws_markKeptS at H
 try simp -implicitDefEqProofs at H
 refine Tr.of_vc (cl := tabC [(22,laws_markIntS_x)]) (E := E0) [] (tab_cons k_laws_markIntS tab_nil) hm (by rw [hn]; decide +kernel) ?_
 try simp -implicitDefEqProofs (maxSteps := 999999) [-selQ_sel]
 obtain ⟨q,h_1,H⟩ := HS.bnd H
 refine Hid.mk (Tr.weak (s' := laws_markKeptS_l0_S (a0,0,a1)) (Wk.ofk [0] hk (by rfl) (by simp -implicitDefEqProofs [laws_markKeptS_l0_S]) (by simp -implicitDefEqProofs [laws_markKeptS_l0_S])) ?_)
 refine wp_loop_of (S := laws_markKeptS_l0_S) (f := laws_markKeptS_l0) (xt := laws_markKeptS_l0_X) ?_ ?_ h_1 ?_
 ·intro q; rcases q with ⟨y12,y13⟩ <;> simp [laws_markKeptS_l0_X]
 ·clear H h_1 q
  rintro ⟨x5,x6,x7⟩ o R hf hR
  have H : HS (laws_markKeptS_l0 (x5,x6,x7)) o := hf
  clear hf; unfold laws_markKeptS_l0 at H
  try simp -implicitDefEqProofs at H
  refine Tr.of_vc (cl := tabC [(22,laws_markIntS_x)]) (E := E0) [] (tab_cons k_laws_markIntS tab_nil) hm (by rw [hn]; decide +kernel) ?_
  try simp -implicitDefEqProofs (maxSteps := 999999) [-selQ_sel,laws_markKeptS_l0_S]
  refine Hid.brV (fun h_2 => ?_) (fun h_2 => ?_)
  ·replace H := HS.cnd_t h_2 H
   try simp -implicitDefEqProofs (maxSteps := 999999) [-selQ_sel,h_2]
   have hr := (HS.some H).symm; subst hr
   exact Hid.mk ⟨(laws_markKeptS_l0_X (x7,x5)).2,Wk.ofk [0] hk (by rfl) (by simp -implicitDefEqProofs [laws_markKeptS_l0_X,h_2]) (by simp -implicitDefEqProofs [laws_markKeptS_l0_X,h_2]),hR⟩
  ·replace H := HS.cnd_f h_2 H
   try simp -implicitDefEqProofs (maxSteps := 999999) [-selQ_sel,h_2]
   obtain ⟨v8,h_3,H⟩ := HS.bnd H
   have g_4 := idx_get h_3
   have g_5 := idx_lt h_3
   have g_6 := idx_getE h_3
   try simp -implicitDefEqProofs (maxSteps := 999999) [-selQ_sel,h_2,h_3,g_4,g_5,g_6]
   obtain ⟨⟨w10,w11⟩,h_7,H⟩ := HS.bnd H
   dsimp only at H
   have g_8 := laws_markIntS_n h_7
   try simp -implicitDefEqProofs (maxSteps := 999999) [-selQ_sel,h_2,h_3,g_4,g_5,g_6,h_7,g_8]
   have hr := (HS.some H).symm; subst hr
   exact Hid.mk ⟨laws_markKeptS_l0_S (w10,(IntKind.i64.wrap (x6 + 1)),(List.set x7 (Int.toNat x6) (TKept.mk x5 (TMask.mk (TBox.mk (IntKind.i64.wrap (x5 + 1)) (IntKind.i64.wrap ((IntKind.i64.wrap (x5 + 1)) + 1)) (IntKind.i64.wrap ((IntKind.i64.wrap ((IntKind.i64.wrap (x5 + 1)) + 1)) + 1)) (IntKind.i64.wrap ((IntKind.i64.wrap ((IntKind.i64.wrap ((IntKind.i64.wrap (x5 + 1)) + 1)) + 1)) + 1))) w11)))),Wk.trans (Wk.abs (id := 0) (j := 1) (js := []) (by rfl) (by rfl) (by decide) (by simp -implicitDefEqProofs [laws_markKeptS_l0_S,h_2,h_3,g_4,g_5,g_6,h_7,g_8]) (by rfl) (by simp -implicitDefEqProofs [laws_markKeptS_l0_S,h_2,h_3,g_4,g_5,g_6,h_7,g_8]) (by simp -implicitDefEqProofs [laws_markKeptS_l0_S,h_2,h_3,g_4,g_5,g_6,h_7,g_8])) (Wk.ofk [0] hk (by rfl) (by simp -implicitDefEqProofs [laws_markKeptS_l0_S,h_2,h_3,g_4,g_5,g_6,h_7,g_8]) (by simp -implicitDefEqProofs [laws_markKeptS_l0_S,h_2,h_3,g_4,g_5,g_6,h_7,g_8])),hR⟩
 ·obtain ⟨y12,y13⟩ := q
  try dsimp only at H
  try simp -implicitDefEqProofs (maxSteps := 999999) [-selQ_sel,laws_markKeptS_l0_X]
  have hr := (HS.some H).symm; subst hr
  refine Hid.mk ⟨_,Wk.refl _,?_⟩
  try simp -implicitDefEqProofs (maxSteps := 999999) [-selQ_sel]
theorem laws_markIntS_ok0 (hm : Try.prog.follows .mixedOrders = true) : Sound Try.prog 22 laws_markIntS_x := by
 refine xOf_sound fun q r h => ?_
 obtain ⟨a0,a1⟩ := q
 refine fn_ok E0 hm Try.func22 rfl (by decide +kernel) (by rfl) fun Γ hn hk => ?_
 dsimp only [laws_markIntS_e,laws_markIntS_v]
 replace hn : Γ.n = 19 := hn
 replace hk : Γ.k = 1 := hk
 have H : HS (laws_markIntS a0 a1) r := h
 clear h; unfold laws_markIntS at H
 try simp -implicitDefEqProofs at H
 refine Tr.of_vc (cl := tabC []) (E := E0) [] tab_nil hm (by rw [hn]; decide +kernel) ?_
 try simp -implicitDefEqProofs (maxSteps := 999999) [-selQ_sel]
 obtain ⟨q,h_1,H⟩ := HS.bnd H
 refine Hid.mk (Tr.weak (s' := laws_markIntS_l0_S (a0,0,a1)) (Wk.ofk [0] hk (by rfl) (by simp -implicitDefEqProofs [laws_markIntS_l0_S]) (by simp -implicitDefEqProofs [laws_markIntS_l0_S])) ?_)
 refine wp_loop_of (S := laws_markIntS_l0_S) (f := laws_markIntS_l0) (xt := laws_markIntS_l0_X) ?_ ?_ h_1 ?_
 ·intro q; rcases q with ⟨y8,y9⟩ <;> simp [laws_markIntS_l0_X]
 ·clear H h_1 q
  rintro ⟨x3,x4,x5⟩ o R hf hR
  have H : HS (laws_markIntS_l0 (x3,x4,x5)) o := hf
  clear hf; unfold laws_markIntS_l0 at H
  try simp -implicitDefEqProofs at H
  refine Tr.of_vc (cl := tabC []) (E := E0) [] tab_nil hm (by rw [hn]; decide +kernel) ?_
  try simp -implicitDefEqProofs (maxSteps := 999999) [-selQ_sel,laws_markIntS_l0_S]
  refine Hid.brV (fun h_2 => ?_) (fun h_2 => ?_)
  ·replace H := HS.cnd_t h_2 H
   try simp -implicitDefEqProofs (maxSteps := 999999) [-selQ_sel,h_2]
   have hr := (HS.some H).symm; subst hr
   exact Hid.mk ⟨(laws_markIntS_l0_X (x5,x3)).2,Wk.ofk [0] hk (by rfl) (by simp -implicitDefEqProofs [laws_markIntS_l0_X,h_2]) (by simp -implicitDefEqProofs [laws_markIntS_l0_X,h_2]),hR⟩
  ·replace H := HS.cnd_f h_2 H
   try simp -implicitDefEqProofs (maxSteps := 999999) [-selQ_sel,h_2]
   obtain ⟨v6,h_3,H⟩ := HS.bnd H
   have g_4 := idx_get h_3
   try simp -implicitDefEqProofs (maxSteps := 999999) [-selQ_sel,h_2,h_3,g_4]
   obtain ⟨l7,h_5,H⟩ := HS.nam H
   have m_6 := congrArg (List.map (AV.int .i64)) h_5
   have q_7 := congrArg List.length h_5
   simp -implicitDefEqProofs at m_6 q_7
   try simp only [q_7] at m_6
   try simp only [q_7] at g_4
   try simp -implicitDefEqProofs (maxSteps := 999999) [-selQ_sel,h_2,h_3,g_4,m_6,q_7]
   have hr := (HS.some H).symm; subst hr
   exact Hid.mk ⟨laws_markIntS_l0_S ((IntKind.i64.wrap (x3 + 1)),(IntKind.i64.wrap (x4 + 1)),l7),Wk.ofk [0] hk (by rfl) (by simp -implicitDefEqProofs [laws_markIntS_l0_S,h_2,h_3,g_4,m_6,q_7]) (by simp -implicitDefEqProofs [laws_markIntS_l0_S,h_2,h_3,g_4,m_6,q_7]),hR⟩
 ·obtain ⟨y8,y9⟩ := q
  try dsimp only at H
  try simp -implicitDefEqProofs (maxSteps := 999999) [-selQ_sel,laws_markIntS_l0_X]
  have hr := (HS.some H).symm; subst hr
  refine Hid.mk ⟨_,Wk.refl _,?_⟩
  try simp -implicitDefEqProofs (maxSteps := 999999) [-selQ_sel]
theorem laws_eqCache_ok0 (hm : Try.prog.follows .mixedOrders = true) (k_laws_eqKeptS : Sound Try.prog 66 laws_eqKeptS_x) : Sound Try.prog 19 laws_eqCache_x := by
 refine xOf_sound fun q r h => ?_
 obtain ⟨a0,a1⟩ := q
 refine fn_ok E0 hm Try.func19 rfl (by decide +kernel) (by rfl) fun Γ hn hk => ?_
 dsimp only [laws_eqCache_e,laws_eqCache_v]
 replace hn : Γ.n = 16 := hn
 replace hk : Γ.k = 0 := hk
 have H : HS (laws_eqCache a0 a1) r := h
 clear h; unfold laws_eqCache at H
 try simp -implicitDefEqProofs at H
 refine Tr.of_vc (cl := tabC [(66,laws_eqKeptS_x)]) (E := E0) [] (tab_cons k_laws_eqKeptS tab_nil) hm (by rw [hn]; decide +kernel) ?_
 try simp -implicitDefEqProofs (maxSteps := 999999) [-selQ_sel]
 refine Hid.brV (fun h_1 => ?_) (fun h_1 => ?_)
 ·replace H := HS.cnd_t h_1 H
  try simp -implicitDefEqProofs (maxSteps := 999999) [-selQ_sel,h_1]
  obtain ⟨v1,h_2,H⟩ := HS.bnd H
  try simp -implicitDefEqProofs (maxSteps := 999999) [-selQ_sel,h_1,h_2]
  refine Hid.brV (fun h_3 => ?_) (fun h_3 => ?_)
  ·replace H := HS.cnd_t h_3 H
   try simp -implicitDefEqProofs (maxSteps := 999999) [-selQ_sel,h_1,h_2,h_3]
   have hr := (HS.some H).symm; subst hr
   refine Hid.mk ⟨_,Wk.refl _,?_⟩
   try simp -implicitDefEqProofs (maxSteps := 999999) [-selQ_sel,h_1,h_2,h_3]
  ·replace H := HS.cnd_f h_3 H
   try simp -implicitDefEqProofs (maxSteps := 999999) [-selQ_sel,h_1,h_2,h_3]
   have hr := (HS.some H).symm; subst hr
   refine Hid.mk ⟨_,Wk.refl _,?_⟩
   try simp -implicitDefEqProofs (maxSteps := 999999) [-selQ_sel,h_1,h_2,h_3]
 ·replace H := HS.cnd_f h_1 H
  try simp -implicitDefEqProofs (maxSteps := 999999) [-selQ_sel,h_1]
  have hr := (HS.some H).symm; subst hr
  refine Hid.mk ⟨_,Wk.refl _,?_⟩
  try simp -implicitDefEqProofs (maxSteps := 999999) [-selQ_sel,h_1]
theorem spec_l21CopyMask_ok0 (hm : Try.prog.follows .mixedOrders = true) : Sound Try.prog 80 spec_l21CopyMask_x := by
 refine xOf_sound fun q r h => ?_
 revert h; revert r; revert q; intro a0 r h
 refine fn_ok E0 hm Try.func80 rfl (by decide +kernel) (by rfl) fun Γ hn hk => ?_
 dsimp only [spec_l21CopyMask_e,spec_l21CopyMask_v]
 replace hn : Γ.n = 10 := hn
 replace hk : Γ.k = 0 := hk
 have H : HS (spec_l21CopyMask a0) r := h
 clear h; unfold spec_l21CopyMask at H
 try simp -implicitDefEqProofs at H
 refine Tr.of_vc (cl := tabC []) (E := E0) [] tab_nil hm (by rw [hn]; decide +kernel) ?_
 try simp -implicitDefEqProofs +decide (maxSteps := 999999) [-selQ_sel,hokQ_of]
 obtain ⟨h_1,H⟩ := HS.chkP H
 try simp -implicitDefEqProofs +decide (maxSteps := 999999) [-selQ_sel,hokQ_of,h_1]
 obtain ⟨l1,h_2,H⟩ := HS.nam H
 have m_3 := congrArg (List.map (AV.int .i64)) h_2
 have q_4 := congrArg List.length h_2
 simp -implicitDefEqProofs at m_3 q_4
 try simp only [q_4] at m_3
 try simp only [q_4] at h_1
 try simp -implicitDefEqProofs +decide (maxSteps := 999999) [-selQ_sel,hokQ_of,h_1,m_3,q_4]
 have hr := (HS.some H).symm; subst hr
 refine Hid.mk ⟨⟨[(2,AV.optr 0 0 5)],[(0,Ob.box [AV.int .i64 a0.box.x0,AV.int .i64 a0.box.y0,AV.int .i64 a0.box.x1,AV.int .i64 a0.box.y1,AV.osl 1 0 (List.length l1) (List.length l1)]),(1,Ob.arr 1 (List.map (AV.int .i64) l1) false)],2⟩,Wk.ofk [1,2] hk (by rfl) (by simp -implicitDefEqProofs [h_1,m_3,q_4]) (by simp -implicitDefEqProofs [h_1,m_3,q_4]),?_⟩
 try simp -implicitDefEqProofs +decide (maxSteps := 999999) [-selQ_sel,hokQ_of,h_1,m_3,q_4]
theorem laws_heldMask_ok0 (hm : Try.prog.follows .mixedOrders = true) (k_laws_heldIntS : Sound Try.prog 82 laws_heldIntS_x) : Sound Try.prog 32 laws_heldMask_x := by
 refine xOf_sound fun q r h => ?_
 obtain ⟨a0,a1⟩ := q
 refine fn_ok E0 hm Try.func32 rfl (by decide +kernel) (by rfl) fun Γ hn hk => ?_
 dsimp only [laws_heldMask_e,laws_heldMask_v]
 replace hn : Γ.n = 12 := hn
 replace hk : Γ.k = 0 := hk
 have H : HS (laws_heldMask a0 a1) r := h
 clear h; unfold laws_heldMask at H
 try simp -implicitDefEqProofs at H
 refine Tr.of_vc (cl := tabC [(82,laws_heldIntS_x)]) (E := E0) [] (tab_cons k_laws_heldIntS tab_nil) hm (by rw [hn]; decide +kernel) ?_
 try simp -implicitDefEqProofs (maxSteps := 999999) [-selQ_sel]
 obtain ⟨v1,h_1,H⟩ := HS.bnd H
 try simp -implicitDefEqProofs (maxSteps := 999999) [-selQ_sel,h_1]
 refine Hid.brV (fun h_2 => ?_) (fun h_2 => ?_)
 ·replace H := HS.cnd_t h_2 H
  try simp -implicitDefEqProofs (maxSteps := 999999) [-selQ_sel,h_1,h_2]
  have hr := (HS.some H).symm; subst hr
  refine Hid.mk ⟨_,Wk.refl _,?_⟩
  try simp -implicitDefEqProofs (maxSteps := 999999) [-selQ_sel,h_1,h_2]
 ·replace H := HS.cnd_f h_2 H
  try simp -implicitDefEqProofs (maxSteps := 999999) [-selQ_sel,h_1,h_2]
  have hr := (HS.some H).symm; subst hr
  refine Hid.mk ⟨_,Wk.refl _,?_⟩
  try simp -implicitDefEqProofs (maxSteps := 999999) [-selQ_sel,h_1,h_2]
theorem laws_szMask_ok0 (hm : Try.prog.follows .mixedOrders = true) (k_laws_szIntS : Sound Try.prog 69 laws_szIntS_x) : Sound Try.prog 24 laws_szMask_x := by
 refine xOf_sound fun q r h => ?_
 obtain ⟨a0,a1⟩ := q
 refine fn_ok E0 hm Try.func24 rfl (by decide +kernel) (by rfl) fun Γ hn hk => ?_
 dsimp only [laws_szMask_e,laws_szMask_v]
 replace hn : Γ.n = 12 := hn
 replace hk : Γ.k = 0 := hk
 have H : HS (laws_szMask a0 a1) r := h
 clear h; unfold laws_szMask at H
 try simp -implicitDefEqProofs at H
 refine Tr.of_vc (cl := tabC [(69,laws_szIntS_x)]) (E := E0) [] (tab_cons k_laws_szIntS tab_nil) hm (by rw [hn]; decide +kernel) ?_
 try simp -implicitDefEqProofs (maxSteps := 999999) [-selQ_sel]
 obtain ⟨v1,h_1,H⟩ := HS.bnd H
 try simp -implicitDefEqProofs (maxSteps := 999999) [-selQ_sel,h_1]
 refine Hid.brV (fun h_2 => ?_) (fun h_2 => ?_)
 ·replace H := HS.cnd_t h_2 H
  try simp -implicitDefEqProofs (maxSteps := 999999) [-selQ_sel,h_1,h_2]
  have hr := (HS.some H).symm; subst hr
  refine Hid.mk ⟨_,Wk.refl _,?_⟩
  try simp -implicitDefEqProofs (maxSteps := 999999) [-selQ_sel,h_1,h_2]
 ·replace H := HS.cnd_f h_2 H
  try simp -implicitDefEqProofs (maxSteps := 999999) [-selQ_sel,h_1,h_2]
  have hr := (HS.some H).symm; subst hr
  refine Hid.mk ⟨_,Wk.refl _,?_⟩
  try simp -implicitDefEqProofs (maxSteps := 999999) [-selQ_sel,h_1,h_2]
theorem laws_toCache_ok0 (hm : Try.prog.follows .mixedOrders = true) (k_laws_toKeptS : Sound Try.prog 61 laws_toKeptS_x) : Sound Try.prog 16 laws_toCache_x := by
 refine xOf_sound fun q r h => ?_
 revert h; revert r; revert q; intro a0 r h
 refine fn_ok E0 hm Try.func16 rfl (by decide +kernel) (by rfl) fun Γ hn hk => ?_
 dsimp only [laws_toCache_e,laws_toCache_v]
 replace hn : Γ.n = 12 := hn
 replace hk : Γ.k = 0 := hk
 have H : HS (laws_toCache a0) r := h
 clear h; unfold laws_toCache at H
 try simp -implicitDefEqProofs at H
 refine Tr.of_vc (cl := tabC [(61,laws_toKeptS_x)]) (E := E0) [] (tab_cons k_laws_toKeptS tab_nil) hm (by rw [hn]; decide +kernel) ?_
 try simp -implicitDefEqProofs (maxSteps := 999999) [-selQ_sel]
 obtain ⟨v1,h_1,H⟩ := HS.bnd H
 try simp -implicitDefEqProofs (maxSteps := 999999) [-selQ_sel,h_1]
 have hr := (HS.some H).symm; subst hr
 refine Hid.mk ⟨⟨[(2,AV.optr 0 0 2)],[(0,Ob.box [AV.int .i64 a0.most,AV.osl 1 0 (List.length v1) (List.length v1)]),(1,Ob.nar 6 (List.map eKept v1) [0,0,0,0,0,1])],2⟩,Wk.ofk [1,3] hk (by rfl) (by simp -implicitDefEqProofs [h_1]) (by simp -implicitDefEqProofs [h_1]),?_⟩
 try simp -implicitDefEqProofs (maxSteps := 999999) [-selQ_sel,h_1]
theorem impl_inRange_ok0 (hm : Try.prog.follows .mixedOrders = true) : Sound Try.prog 75 impl_inRange_x := by
 refine xOf_sound fun q r h => ?_
 obtain ⟨a0,a1,a2⟩ := q
 refine fn_ok E0 hm Try.func75 rfl (by decide +kernel) (by rfl) fun Γ hn hk => ?_
 dsimp only [impl_inRange_e,impl_inRange_v]
 replace hn : Γ.n = 15 := hn
 replace hk : Γ.k = 0 := hk
 have H : HS (impl_inRange a0 a1 a2) r := h
 clear h; unfold impl_inRange at H
 try simp -implicitDefEqProofs at H
 refine Tr.of_vc (cl := tabC []) (E := E0) [] tab_nil hm (by rw [hn]; decide +kernel) ?_
 try simp -implicitDefEqProofs (maxSteps := 999999) [-selQ_sel]
 refine Hid.selQ (fun h_1 => ?_) (fun h_1 => ?_)
 ·replace H := HS.cnd_t h_1 H
  try simp -implicitDefEqProofs (maxSteps := 999999) [-selQ_sel,h_1]
  have hr := (HS.some H).symm; subst hr
  refine Hid.mk ⟨_,Wk.refl _,?_⟩
  try simp -implicitDefEqProofs (maxSteps := 999999) [-selQ_sel,h_1]
 ·replace H := HS.cnd_f h_1 H
  try simp -implicitDefEqProofs (maxSteps := 999999) [-selQ_sel,h_1]
  have hr := (HS.some H).symm; subst hr
  refine Hid.mk ⟨_,Wk.refl _,?_⟩
  try simp -implicitDefEqProofs (maxSteps := 999999) [-selQ_sel,h_1]
theorem impl_Cache_keptAtR_ok0 (hm : Try.prog.follows .mixedOrders = true) (k_slices_IndexFunc_Kept_Cache_keptAt_1R : Sound Try.prog 118 slices_IndexFunc_Kept_Cache_keptAt_1R_x) : Sound Try.prog 81 impl_Cache_keptAtR_x := by
 refine xOf_sound fun q r h => ?_
 obtain ⟨a0,a1⟩ := q
 refine fn_ok E0 hm Try.func81 rfl (by decide +kernel) (by rfl) fun Γ hn hk => ?_
 dsimp only [impl_Cache_keptAtR_e,impl_Cache_keptAtR_v]
 replace hn : Γ.n = 11 := hn
 replace hk : Γ.k = 0 := hk
 have H : HS (impl_Cache_keptAtR a0 a1) r := h
 clear h; unfold impl_Cache_keptAtR at H
 try simp -implicitDefEqProofs at H
 refine Tr.of_vc (cl := tabC [(118,slices_IndexFunc_Kept_Cache_keptAt_1R_x)]) (E := E0) [] (tab_cons k_slices_IndexFunc_Kept_Cache_keptAt_1R tab_nil) hm (by rw [hn]; decide +kernel) ?_
 try simp -implicitDefEqProofs (maxSteps := 999999) [-selQ_sel]
 obtain ⟨v1,h_1,H⟩ := HS.bnd H
 try simp -implicitDefEqProofs (maxSteps := 999999) [-selQ_sel,h_1]
 have hr := (HS.some H).symm; subst hr
 refine Hid.mk ⟨_,Wk.refl _,?_⟩
 try simp -implicitDefEqProofs (maxSteps := 999999) [-selQ_sel,h_1]
theorem laws_markMask_ok0 (hm : Try.prog.follows .mixedOrders = true) (k_laws_markIntS : Sound Try.prog 22 laws_markIntS_x) : Sound Try.prog 29 laws_markMask_x := by
 refine xOf_sound fun q r h => ?_
 obtain ⟨a0,a1,a2⟩ := q
 refine fn_ok E0 hm Try.func29 rfl (by decide +kernel) (by rfl) fun Γ hn hk => ?_
 dsimp only [laws_markMask_e,laws_markMask_v]
 replace hn : Γ.n = 10 := hn
 replace hk : Γ.k = 1 := hk
 have H : HS (laws_markMask a0 a1 a2) r := h
 clear h; unfold laws_markMask at H
 try simp -implicitDefEqProofs at H
 refine Tr.of_vc (cl := tabC [(22,laws_markIntS_x)]) (E := E0) [] (tab_cons k_laws_markIntS tab_nil) hm (by rw [hn]; decide +kernel) ?_
 try simp -implicitDefEqProofs (maxSteps := 999999) [-selQ_sel]
 obtain ⟨⟨w2,w3⟩,h_1,H⟩ := HS.bnd H
 dsimp only at H
 have g_2 := laws_markIntS_n h_1
 try simp -implicitDefEqProofs (maxSteps := 999999) [-selQ_sel,h_1,g_2]
 have hr := (HS.some H).symm; subst hr
 refine Hid.mk ⟨_,Wk.refl _,?_⟩
 try simp -implicitDefEqProofs (maxSteps := 999999) [-selQ_sel,h_1,g_2]
theorem laws_toBox_ok0 (hm : Try.prog.follows .mixedOrders = true) : Sound Try.prog 74 laws_toBox_x := by
 refine xOf_sound fun q r h => ?_
 revert h; revert r; revert q; intro a0 r h
 refine fn_ok E0 hm Try.func74 rfl (by decide +kernel) (by rfl) fun Γ hn hk => ?_
 dsimp only [laws_toBox_e,laws_toBox_v]
 replace hn : Γ.n = 17 := hn
 replace hk : Γ.k = 0 := hk
 have H : HS (laws_toBox a0) r := h
 clear h; unfold laws_toBox at H
 try simp -implicitDefEqProofs at H
 refine Tr.of_vc (cl := tabC []) (E := E0) [] tab_nil hm (by rw [hn]; decide +kernel) ?_
 try simp -implicitDefEqProofs (maxSteps := 999999) [-selQ_sel]
 have hr := (HS.some H).symm; subst hr
 refine Hid.mk ⟨_,Wk.refl _,?_⟩
 try simp -implicitDefEqProofs (maxSteps := 999999) [-selQ_sel]
end Go.Proofs.Ytapchldnmkfkoaa.Am
