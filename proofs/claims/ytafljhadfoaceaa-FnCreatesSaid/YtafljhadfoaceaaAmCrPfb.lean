import Derived.Test.YtafljhadfoaceaaAmCrMo
set_option linter.unusedVariables false
set_option linter.unusedSimpArgs false
set_option linter.unusedSectionVars false
namespace Go.Proofs.Ytafljhadfoaceaa.Am
open Go Go.Proofs
set_option maxRecDepth 100000
set_option linter.unusedSimpArgs false
set_option linter.unusedVariables false
set_option maxHeartbeats 4000000
theorem spec_l06Path_ok0 (hm : Try.prog.follows .mixedOrders = true) (k_spec_l01Once : Sound Try.prog 170 spec_l01Once_x) (k_spec_l01Below : Sound Try.prog 107 spec_l01Below_x) (k_spec_RectPath : Sound Try.prog 213 spec_RectPath_x) (k_spec_l01PickInt : Sound Try.prog 171 spec_l01PickInt_x) (k_spec_NeedOf : Sound Try.prog 212 spec_NeedOf_x) (k_spec_l04Point : Sound Try.prog 214 spec_l04Point_x) : Sound Try.prog 169 spec_l06Path_x := by
 refine xOf_sound fun q r h => ?_
 revert h; revert r; revert q; intro a0 r h
 refine fn_ok E0 hm Try.func169 rfl (by decide +kernel) (by rfl) fun Γ hn hk => ?_
 dsimp only [spec_l06Path_e, spec_l06Path_v]
 replace hn : Γ.n = 79 := hn
 replace hk : Γ.k = 1 := hk
 have H : HS (spec_l06Path a0) r := h
 clear h; unfold spec_l06Path at H
 try simp -implicitDefEqProofs at H
 refine Tr.of_vc (cl := tabC [(170, spec_l01Once_x), (107, spec_l01Below_x), (213, spec_RectPath_x), (171, spec_l01PickInt_x), (212, spec_NeedOf_x), (214, spec_l04Point_x)]) (E := E0) [] (tab_cons k_spec_l01Once (tab_cons k_spec_l01Below (tab_cons k_spec_RectPath (tab_cons k_spec_l01PickInt (tab_cons k_spec_NeedOf (tab_cons k_spec_l04Point tab_nil)))))) hm (by rw [hn]; decide +kernel) ?_
 try simp -implicitDefEqProofs +decide (maxSteps := 999999) [-selQ_sel, hokQ_of]
 obtain ⟨⟨w2, w3⟩, h_1, H⟩ := HS.bnd H
 dsimp only at H
 try simp -implicitDefEqProofs +decide (maxSteps := 999999) [-selQ_sel, hokQ_of, h_1]
 refine Hid.brV (fun h_2 => ?_) (fun h_2 => ?_)
 ·replace H := HS.cnd_t h_2 H
  try simp -implicitDefEqProofs +decide (maxSteps := 999999) [-selQ_sel, hokQ_of, h_1, h_2]
  obtain ⟨⟨w5, w6⟩, h_3, H⟩ := HS.bnd H
  dsimp only at H
  try simp -implicitDefEqProofs +decide (maxSteps := 999999) [-selQ_sel, hokQ_of, h_1, h_2, h_3]
  obtain ⟨⟨w8, w9⟩, h_4, H⟩ := HS.bnd H
  dsimp only at H
  try simp -implicitDefEqProofs +decide (maxSteps := 999999) [-selQ_sel, hokQ_of, h_1, h_2, h_3, h_4]
  obtain ⟨⟨w11, w12⟩, h_5, H⟩ := HS.bnd H
  dsimp only at H
  try simp -implicitDefEqProofs +decide (maxSteps := 999999) [-selQ_sel, hokQ_of, h_1, h_2, h_3, h_4, h_5]
  obtain ⟨⟨w14, w15⟩, h_6, H⟩ := HS.bnd H
  dsimp only at H
  try simp -implicitDefEqProofs +decide (maxSteps := 999999) [-selQ_sel, hokQ_of, h_1, h_2, h_3, h_4, h_5, h_6]
  obtain ⟨v16, h_7, H⟩ := HS.bnd H
  try simp -implicitDefEqProofs +decide (maxSteps := 999999) [-selQ_sel, hokQ_of, h_1, h_2, h_3, h_4, h_5, h_6, h_7]
  have hr := (HS.some H).symm; subst hr
  refine Hid.mk ⟨_, Wk.refl _, ?_⟩
  try simp -implicitDefEqProofs +decide (maxSteps := 999999) [-selQ_sel, hokQ_of, h_1, h_2, h_3, h_4, h_5, h_6, h_7]
 ·replace H := HS.cnd_f h_2 H
  try simp -implicitDefEqProofs +decide (maxSteps := 999999) [-selQ_sel, hokQ_of, h_1, h_2]
  obtain ⟨q, h_8, H⟩ := HS.bnd H
  refine Hid.mk (Tr.weak (s' := spec_l06Path_l3_S (0, w3.b, w3.i, w3.h, [], [])) (Wk.ofk [0, 1, 2, 3, 4] hk (by rfl) (by simp -implicitDefEqProofs [spec_l06Path_l3_S, h_1, h_2]) (by simp -implicitDefEqProofs [spec_l06Path_l3_S, h_1, h_2])) ?_)
  refine wp_loop_of (S := spec_l06Path_l3_S) (f := spec_l06Path_l3) (xt := spec_l06Path_l3_X) ?_ ?_ h_8 ?_
  ·intro q; rcases q with ⟨y118, y119, y120, y121, y122⟩ | ⟨y123, y124, y125, y126, y127⟩ <;> simp [spec_l06Path_l3_X]
  ·clear H h_8 q
   rintro ⟨x42, x43, x44, x45, x46, x47⟩ o R hf hR
   have H : HS (spec_l06Path_l3 (x42, x43, x44, x45, x46, x47)) o := hf
   clear hf; unfold spec_l06Path_l3 at H
   try simp -implicitDefEqProofs at H
   refine Tr.of_vc (cl := tabC [(170, spec_l01Once_x), (107, spec_l01Below_x), (213, spec_RectPath_x), (171, spec_l01PickInt_x), (212, spec_NeedOf_x), (214, spec_l04Point_x)]) (E := E0) [] (tab_cons k_spec_l01Once (tab_cons k_spec_l01Below (tab_cons k_spec_RectPath (tab_cons k_spec_l01PickInt (tab_cons k_spec_NeedOf (tab_cons k_spec_l04Point tab_nil)))))) hm (by rw [hn]; decide +kernel) ?_
   try simp -implicitDefEqProofs +decide (maxSteps := 999999) [-selQ_sel, hokQ_of, spec_l06Path_l3_S]
   obtain ⟨⟨w49, w50⟩, h_9, H⟩ := HS.bnd H
   dsimp only at H
   have k_10 := spec_l01Below_k 6 ((TL01Cur.mk x43 x44 x45).b) ((TL01Cur.mk x43 x44 x45).i) ((TL01Cur.mk x43 x44 x45).h)
   simp -implicitDefEqProofs [-spec_l01Below_k] at k_10
   try simp -implicitDefEqProofs +decide (maxSteps := 999999) [-selQ_sel, hokQ_of, h_9, k_10]
   refine Hid.brV (fun h_11 => ?_) (fun h_11 => ?_)
   ·replace H := HS.cnd_t h_11 H
    try simp -implicitDefEqProofs +decide (maxSteps := 999999) [-selQ_sel, hokQ_of, h_9, k_10, h_11]
    have hr := (HS.some H).symm; subst hr
    exact Hid.mk ⟨(spec_l06Path_l3_X (.inl (w50.b, w50.i, w50.h, x46, x47))).2, Wk.ofk [0, 1, 2, 3, 4] hk (by rfl) (by simp -implicitDefEqProofs [spec_l06Path_l3_X, h_9, k_10, h_11]) (by simp -implicitDefEqProofs [spec_l06Path_l3_X, h_9, k_10, h_11]), hR⟩
   ·replace H := HS.cnd_f h_11 H
    try simp -implicitDefEqProofs +decide (maxSteps := 999999) [-selQ_sel, hokQ_of, h_9, k_10, h_11]
    obtain ⟨⟨w52, w53⟩, h_12, H⟩ := HS.bnd H
    dsimp only at H
    have k_13 := spec_l01PickInt_k w50.b w50.i w50.h [2, 2, 2, 3, 4, 5, 1]
    simp -implicitDefEqProofs [-spec_l01PickInt_k] at k_13
    try simp -implicitDefEqProofs +decide (maxSteps := 999999) [-selQ_sel, hokQ_of, h_9, k_10, h_11, h_12, k_13]
    refine Hid.selQ (fun h_14 => ?_) (fun h_14 => ?_)
    ·replace H := HS.cnd_t h_14 H
     try simp -implicitDefEqProofs +decide (maxSteps := 999999) [-selQ_sel, hokQ_of, h_9, k_10, h_11, h_12, k_13, h_14]
     obtain ⟨v54, h_15, H⟩ := HS.bnd H
     try simp -implicitDefEqProofs +decide (maxSteps := 999999) [-selQ_sel, hokQ_of, h_9, k_10, h_11, h_12, k_13, h_14, h_15]
     refine Hid.brV (fun h_16 => ?_) (fun h_16 => ?_)
     ·replace H := HS.cnd_t h_16 H
      try simp -implicitDefEqProofs +decide (maxSteps := 999999) [-selQ_sel, hokQ_of, h_9, k_10, h_11, h_12, k_13, h_14, h_15, h_16]
      obtain ⟨h_17, H⟩ := HS.chkP H
      try simp -implicitDefEqProofs +decide (maxSteps := 999999) [-selQ_sel, hokQ_of, h_9, k_10, h_11, h_12, k_13, h_14, h_15, h_16, h_17]
      obtain ⟨l55, h_18, H⟩ := HS.nam H
      have m_19 := congrArg (List.map (AV.int .i64)) h_18
      have q_20 := congrArg List.length h_18
      simp -implicitDefEqProofs at m_19 q_20
      try simp only [q_20] at m_19
      try simp only [q_20] at h_17
      try simp -implicitDefEqProofs +decide (maxSteps := 999999) [-selQ_sel, hokQ_of, h_9, k_10, h_11, h_12, k_13, h_14, h_15, h_16, h_17, m_19, q_20]
      obtain ⟨q, h_21, H⟩ := HS.bnd H
      refine Hid.mk (Tr.weak (s' := (spec_l06Path_l0_S l55 x42) (0, w53.b, w53.i, w53.h, x47)) (Wk.ofk [0, 1, 2, 3, 4] hk (by rfl) (by simp -implicitDefEqProofs [spec_l06Path_l0_S, h_9, k_10, h_11, h_12, k_13, h_14, h_15, h_16, h_17, m_19, q_20]) (by simp -implicitDefEqProofs [spec_l06Path_l0_S, h_9, k_10, h_11, h_12, k_13, h_14, h_15, h_16, h_17, m_19, q_20])) ?_)
      refine wp_loop_of (S := (spec_l06Path_l0_S l55 x42)) (f := (spec_l06Path_l0 l55 x42)) (xt := (spec_l06Path_l0_X l55 x42)) ?_ ?_ h_21 ?_
      ·intro q; rcases q with ⟨y71, y72, y73, y74⟩ <;> simp [spec_l06Path_l0_X]
      ·clear H h_21 q
       rintro ⟨x61, x62, x63, x64, x65⟩ o R hf hR
       have H : HS (spec_l06Path_l0 l55 x42 (x61, x62, x63, x64, x65)) o := hf
       clear hf; unfold spec_l06Path_l0 at H
       try simp -implicitDefEqProofs at H
       refine Tr.of_vc (cl := tabC [(170, spec_l01Once_x), (107, spec_l01Below_x), (213, spec_RectPath_x), (171, spec_l01PickInt_x), (212, spec_NeedOf_x), (214, spec_l04Point_x)]) (E := E0) [] (tab_cons k_spec_l01Once (tab_cons k_spec_l01Below (tab_cons k_spec_RectPath (tab_cons k_spec_l01PickInt (tab_cons k_spec_NeedOf (tab_cons k_spec_l04Point tab_nil)))))) hm (by rw [hn]; decide +kernel) ?_
       try simp -implicitDefEqProofs +decide (maxSteps := 999999) [-selQ_sel, hokQ_of, spec_l06Path_l0_S]
       obtain ⟨v66, h_22, H⟩ := HS.bnd H
       try simp -implicitDefEqProofs +decide (maxSteps := 999999) [-selQ_sel, hokQ_of, h_22]
       refine Hid.brV (fun h_23 => ?_) (fun h_23 => ?_)
       ·replace H := HS.cnd_t h_23 H
        try simp -implicitDefEqProofs +decide (maxSteps := 999999) [-selQ_sel, hokQ_of, h_22, h_23]
        have hr := (HS.some H).symm; subst hr
        exact Hid.mk ⟨(spec_l06Path_l0_X l55 x42 (x62, x63, x64, x65)).2, Wk.ofk [0, 1, 2, 3, 4] hk (by rfl) (by simp -implicitDefEqProofs [spec_l06Path_l0_X, h_22, h_23]) (by simp -implicitDefEqProofs [spec_l06Path_l0_X, h_22, h_23]), hR⟩
       ·replace H := HS.cnd_f h_23 H
        try simp -implicitDefEqProofs +decide (maxSteps := 999999) [-selQ_sel, hokQ_of, h_22, h_23]
        obtain ⟨⟨w68, w69⟩, h_24, H⟩ := HS.bnd H
        dsimp only at H
        have k_25 := spec_l04Point_k ((TL01Cur.mk x62 x63 x64).b) ((TL01Cur.mk x62 x63 x64).i) ((TL01Cur.mk x62 x63 x64).h)
        simp -implicitDefEqProofs [-spec_l04Point_k] at k_25
        try simp -implicitDefEqProofs +decide (maxSteps := 999999) [-selQ_sel, hokQ_of, h_22, h_23, h_24, k_25]
        obtain ⟨h_26, H⟩ := HS.chkP H
        try simp -implicitDefEqProofs +decide (maxSteps := 999999) [-selQ_sel, hokQ_of, h_22, h_23, h_24, k_25, h_26]
        obtain ⟨l70, h_27, H⟩ := HS.nam H
        have m_28 := congrArg (List.map ePoint) h_27
        have q_29 := congrArg List.length h_27
        simp -implicitDefEqProofs at m_28 q_29
        try simp only [q_29] at m_28
        try simp only [q_29] at h_26
        try simp -implicitDefEqProofs +decide (maxSteps := 999999) [-selQ_sel, hokQ_of, h_22, h_23, h_24, k_25, h_26, m_28, q_29]
        have hr := (HS.some H).symm; subst hr
        exact Hid.mk ⟨spec_l06Path_l0_S l55 x42 ((IntKind.i64.wrap (x61 + 1)), w69.b, w69.i, w69.h, l70), Wk.ofk [0, 1, 2, 3, 4] hk (by rfl) (by simp -implicitDefEqProofs [spec_l06Path_l0_S, h_22, h_23, h_24, k_25, h_26, m_28, q_29]) (by simp -implicitDefEqProofs [spec_l06Path_l0_S, h_22, h_23, h_24, k_25, h_26, m_28, q_29]), hR⟩
      ·obtain ⟨y71, y72, y73, y74⟩ := q
       try dsimp only at H
       try simp -implicitDefEqProofs +decide (maxSteps := 999999) [-selQ_sel, hokQ_of, h_9, k_10, h_11, h_12, k_13, h_14, h_15, h_16, h_17, m_19, q_20, spec_l06Path_l0_X]
       have hr := (HS.some H).symm; subst hr
       exact Hid.mk ⟨spec_l06Path_l3_S ((IntKind.i64.wrap (x42 + 1)), y71, y72, y73, l55, y74), Wk.ofk [0, 1, 2, 3, 4] hk (by rfl) (by simp -implicitDefEqProofs [spec_l06Path_l3_S, h_9, k_10, h_11, h_12, k_13, h_14, h_15, h_16, h_17, m_19, q_20]) (by simp -implicitDefEqProofs [spec_l06Path_l3_S, h_9, k_10, h_11, h_12, k_13, h_14, h_15, h_16, h_17, m_19, q_20]), hR⟩
     ·replace H := HS.cnd_f h_16 H
      try simp -implicitDefEqProofs +decide (maxSteps := 999999) [-selQ_sel, hokQ_of, h_9, k_10, h_11, h_12, k_13, h_14, h_15, h_16]
      have hr := (HS.some H).symm; subst hr
      exact Hid.mk ⟨(spec_l06Path_l3_X (.inr (w53.b, w53.i, w53.h, x46, x47))).2, Wk.ofk [0, 1, 3, 4] hk (by rfl) (by simp -implicitDefEqProofs [spec_l06Path_l3_X, h_9, k_10, h_11, h_12, k_13, h_14, h_15, h_16]) (by simp -implicitDefEqProofs [spec_l06Path_l3_X, h_9, k_10, h_11, h_12, k_13, h_14, h_15, h_16]), hR⟩
    ·replace H := HS.cnd_f h_14 H
     try simp -implicitDefEqProofs +decide (maxSteps := 999999) [-selQ_sel, hokQ_of, h_9, k_10, h_11, h_12, k_13, h_14]
     obtain ⟨v75, h_30, H⟩ := HS.bnd H
     have g_31 := idx_get h_30
     try simp -implicitDefEqProofs +decide (maxSteps := 999999) [-selQ_sel, hokQ_of, h_9, k_10, h_11, h_12, k_13, h_14, h_30, g_31]
     refine Hid.brV (fun h_32 => ?_) (fun h_32 => ?_)
     ·replace H := HS.cnd_t h_32 H
      try simp -implicitDefEqProofs +decide (maxSteps := 999999) [-selQ_sel, hokQ_of, h_9, k_10, h_11, h_12, k_13, h_14, h_30, g_31, h_32]
      obtain ⟨v76, h_33, H⟩ := HS.bnd H
      try simp -implicitDefEqProofs +decide (maxSteps := 999999) [-selQ_sel, hokQ_of, h_9, k_10, h_11, h_12, k_13, h_14, h_30, g_31, h_32, h_33]
      refine Hid.brV (fun h_34 => ?_) (fun h_34 => ?_)
      ·replace H := HS.cnd_t h_34 H
       try simp -implicitDefEqProofs +decide (maxSteps := 999999) [-selQ_sel, hokQ_of, h_9, k_10, h_11, h_12, k_13, h_14, h_30, g_31, h_32, h_33, h_34]
       obtain ⟨h_35, H⟩ := HS.chkP H
       try simp -implicitDefEqProofs +decide (maxSteps := 999999) [-selQ_sel, hokQ_of, h_9, k_10, h_11, h_12, k_13, h_14, h_30, g_31, h_32, h_33, h_34, h_35]
       obtain ⟨l77, h_36, H⟩ := HS.nam H
       have m_37 := congrArg (List.map (AV.int .i64)) h_36
       have q_38 := congrArg List.length h_36
       simp -implicitDefEqProofs at m_37 q_38
       try simp only [q_38] at m_37
       try simp only [q_38] at h_35
       try simp -implicitDefEqProofs +decide (maxSteps := 999999) [-selQ_sel, hokQ_of, h_9, k_10, h_11, h_12, k_13, h_14, h_30, g_31, h_32, h_33, h_34, h_35, m_37, q_38]
       obtain ⟨q, h_39, H⟩ := HS.bnd H
       refine Hid.mk (Tr.weak (s' := (spec_l06Path_l1_S l77 x42) (0, w53.b, w53.i, w53.h, x47)) (Wk.ofk [0, 1, 2, 3, 4] hk (by rfl) (by simp -implicitDefEqProofs [spec_l06Path_l1_S, h_9, k_10, h_11, h_12, k_13, h_14, h_30, g_31, h_32, h_33, h_34, h_35, m_37, q_38]) (by simp -implicitDefEqProofs [spec_l06Path_l1_S, h_9, k_10, h_11, h_12, k_13, h_14, h_30, g_31, h_32, h_33, h_34, h_35, m_37, q_38])) ?_)
       refine wp_loop_of (S := (spec_l06Path_l1_S l77 x42)) (f := (spec_l06Path_l1 l77 x42)) (xt := (spec_l06Path_l1_X l77 x42)) ?_ ?_ h_39 ?_
       ·intro q; rcases q with ⟨y93, y94, y95, y96⟩ <;> simp [spec_l06Path_l1_X]
       ·clear H h_39 q
        rintro ⟨x83, x84, x85, x86, x87⟩ o R hf hR
        have H : HS (spec_l06Path_l1 l77 x42 (x83, x84, x85, x86, x87)) o := hf
        clear hf; unfold spec_l06Path_l1 at H
        try simp -implicitDefEqProofs at H
        refine Tr.of_vc (cl := tabC [(170, spec_l01Once_x), (107, spec_l01Below_x), (213, spec_RectPath_x), (171, spec_l01PickInt_x), (212, spec_NeedOf_x), (214, spec_l04Point_x)]) (E := E0) [] (tab_cons k_spec_l01Once (tab_cons k_spec_l01Below (tab_cons k_spec_RectPath (tab_cons k_spec_l01PickInt (tab_cons k_spec_NeedOf (tab_cons k_spec_l04Point tab_nil)))))) hm (by rw [hn]; decide +kernel) ?_
        try simp -implicitDefEqProofs +decide (maxSteps := 999999) [-selQ_sel, hokQ_of, spec_l06Path_l1_S]
        obtain ⟨v88, h_40, H⟩ := HS.bnd H
        try simp -implicitDefEqProofs +decide (maxSteps := 999999) [-selQ_sel, hokQ_of, h_40]
        refine Hid.brV (fun h_41 => ?_) (fun h_41 => ?_)
        ·replace H := HS.cnd_t h_41 H
         try simp -implicitDefEqProofs +decide (maxSteps := 999999) [-selQ_sel, hokQ_of, h_40, h_41]
         have hr := (HS.some H).symm; subst hr
         exact Hid.mk ⟨(spec_l06Path_l1_X l77 x42 (x84, x85, x86, x87)).2, Wk.ofk [0, 1, 2, 3, 4] hk (by rfl) (by simp -implicitDefEqProofs [spec_l06Path_l1_X, h_40, h_41]) (by simp -implicitDefEqProofs [spec_l06Path_l1_X, h_40, h_41]), hR⟩
        ·replace H := HS.cnd_f h_41 H
         try simp -implicitDefEqProofs +decide (maxSteps := 999999) [-selQ_sel, hokQ_of, h_40, h_41]
         obtain ⟨⟨w90, w91⟩, h_42, H⟩ := HS.bnd H
         dsimp only at H
         have k_43 := spec_l04Point_k ((TL01Cur.mk x84 x85 x86).b) ((TL01Cur.mk x84 x85 x86).i) ((TL01Cur.mk x84 x85 x86).h)
         simp -implicitDefEqProofs [-spec_l04Point_k] at k_43
         try simp -implicitDefEqProofs +decide (maxSteps := 999999) [-selQ_sel, hokQ_of, h_40, h_41, h_42, k_43]
         obtain ⟨h_44, H⟩ := HS.chkP H
         try simp -implicitDefEqProofs +decide (maxSteps := 999999) [-selQ_sel, hokQ_of, h_40, h_41, h_42, k_43, h_44]
         obtain ⟨l92, h_45, H⟩ := HS.nam H
         have m_46 := congrArg (List.map ePoint) h_45
         have q_47 := congrArg List.length h_45
         simp -implicitDefEqProofs at m_46 q_47
         try simp only [q_47] at m_46
         try simp only [q_47] at h_44
         try simp -implicitDefEqProofs +decide (maxSteps := 999999) [-selQ_sel, hokQ_of, h_40, h_41, h_42, k_43, h_44, m_46, q_47]
         have hr := (HS.some H).symm; subst hr
         exact Hid.mk ⟨spec_l06Path_l1_S l77 x42 ((IntKind.i64.wrap (x83 + 1)), w91.b, w91.i, w91.h, l92), Wk.ofk [0, 1, 2, 3, 4] hk (by rfl) (by simp -implicitDefEqProofs [spec_l06Path_l1_S, h_40, h_41, h_42, k_43, h_44, m_46, q_47]) (by simp -implicitDefEqProofs [spec_l06Path_l1_S, h_40, h_41, h_42, k_43, h_44, m_46, q_47]), hR⟩
       ·obtain ⟨y93, y94, y95, y96⟩ := q
        try dsimp only at H
        try simp -implicitDefEqProofs +decide (maxSteps := 999999) [-selQ_sel, hokQ_of, h_9, k_10, h_11, h_12, k_13, h_14, h_30, g_31, h_32, h_33, h_34, h_35, m_37, q_38, spec_l06Path_l1_X]
        have hr := (HS.some H).symm; subst hr
        exact Hid.mk ⟨spec_l06Path_l3_S ((IntKind.i64.wrap (x42 + 1)), y93, y94, y95, l77, y96), Wk.ofk [0, 1, 2, 3, 4] hk (by rfl) (by simp -implicitDefEqProofs [spec_l06Path_l3_S, h_9, k_10, h_11, h_12, k_13, h_14, h_30, g_31, h_32, h_33, h_34, h_35, m_37, q_38]) (by simp -implicitDefEqProofs [spec_l06Path_l3_S, h_9, k_10, h_11, h_12, k_13, h_14, h_30, g_31, h_32, h_33, h_34, h_35, m_37, q_38]), hR⟩
      ·replace H := HS.cnd_f h_34 H
       try simp -implicitDefEqProofs +decide (maxSteps := 999999) [-selQ_sel, hokQ_of, h_9, k_10, h_11, h_12, k_13, h_14, h_30, g_31, h_32, h_33, h_34]
       have hr := (HS.some H).symm; subst hr
       exact Hid.mk ⟨(spec_l06Path_l3_X (.inr (w53.b, w53.i, w53.h, x46, x47))).2, Wk.ofk [0, 1, 3, 4] hk (by rfl) (by simp -implicitDefEqProofs [spec_l06Path_l3_X, h_9, k_10, h_11, h_12, k_13, h_14, h_30, g_31, h_32, h_33, h_34]) (by simp -implicitDefEqProofs [spec_l06Path_l3_X, h_9, k_10, h_11, h_12, k_13, h_14, h_30, g_31, h_32, h_33, h_34]), hR⟩
     ·replace H := HS.cnd_f h_32 H
      try simp -implicitDefEqProofs +decide (maxSteps := 999999) [-selQ_sel, hokQ_of, h_9, k_10, h_11, h_12, k_13, h_14, h_30, g_31, h_32]
      obtain ⟨v97, h_48, H⟩ := HS.bnd H
      try simp -implicitDefEqProofs +decide (maxSteps := 999999) [-selQ_sel, hokQ_of, h_9, k_10, h_11, h_12, k_13, h_14, h_30, g_31, h_32, h_48]
      refine Hid.brV (fun h_49 => ?_) (fun h_49 => ?_)
      ·replace H := HS.cnd_t h_49 H
       try simp -implicitDefEqProofs +decide (maxSteps := 999999) [-selQ_sel, hokQ_of, h_9, k_10, h_11, h_12, k_13, h_14, h_30, g_31, h_32, h_48, h_49]
       obtain ⟨h_50, H⟩ := HS.chkP H
       try simp -implicitDefEqProofs +decide (maxSteps := 999999) [-selQ_sel, hokQ_of, h_9, k_10, h_11, h_12, k_13, h_14, h_30, g_31, h_32, h_48, h_49, h_50]
       obtain ⟨l98, h_51, H⟩ := HS.nam H
       have m_52 := congrArg (List.map (AV.int .i64)) h_51
       have q_53 := congrArg List.length h_51
       simp -implicitDefEqProofs at m_52 q_53
       try simp only [q_53] at m_52
       try simp only [q_53] at h_50
       try simp -implicitDefEqProofs +decide (maxSteps := 999999) [-selQ_sel, hokQ_of, h_9, k_10, h_11, h_12, k_13, h_14, h_30, g_31, h_32, h_48, h_49, h_50, m_52, q_53]
       obtain ⟨q, h_54, H⟩ := HS.bnd H
       refine Hid.mk (Tr.weak (s' := (spec_l06Path_l2_S l98 w52 x42) (0, w53.b, w53.i, w53.h, x47)) (Wk.ofk [0, 1, 2, 3, 4] hk (by rfl) (by simp -implicitDefEqProofs [spec_l06Path_l2_S, h_9, k_10, h_11, h_12, k_13, h_14, h_30, g_31, h_32, h_48, h_49, h_50, m_52, q_53]) (by simp -implicitDefEqProofs [spec_l06Path_l2_S, h_9, k_10, h_11, h_12, k_13, h_14, h_30, g_31, h_32, h_48, h_49, h_50, m_52, q_53])) ?_)
       refine wp_loop_of (S := (spec_l06Path_l2_S l98 w52 x42)) (f := (spec_l06Path_l2 l98 w52 x42)) (xt := (spec_l06Path_l2_X l98 w52 x42)) ?_ ?_ h_54 ?_
       ·intro q; rcases q with ⟨y114, y115, y116, y117⟩ <;> simp [spec_l06Path_l2_X]
       ·clear H h_54 q
        rintro ⟨x104, x105, x106, x107, x108⟩ o R hf hR
        have H : HS (spec_l06Path_l2 l98 w52 x42 (x104, x105, x106, x107, x108)) o := hf
        clear hf; unfold spec_l06Path_l2 at H
        try simp -implicitDefEqProofs at H
        refine Tr.of_vc (cl := tabC [(170, spec_l01Once_x), (107, spec_l01Below_x), (213, spec_RectPath_x), (171, spec_l01PickInt_x), (212, spec_NeedOf_x), (214, spec_l04Point_x)]) (E := E0) [] (tab_cons k_spec_l01Once (tab_cons k_spec_l01Below (tab_cons k_spec_RectPath (tab_cons k_spec_l01PickInt (tab_cons k_spec_NeedOf (tab_cons k_spec_l04Point tab_nil)))))) hm (by rw [hn]; decide +kernel) ?_
        try simp -implicitDefEqProofs +decide (maxSteps := 999999) [-selQ_sel, hokQ_of, spec_l06Path_l2_S]
        obtain ⟨v109, h_55, H⟩ := HS.bnd H
        try simp -implicitDefEqProofs +decide (maxSteps := 999999) [-selQ_sel, hokQ_of, h_55]
        refine Hid.brV (fun h_56 => ?_) (fun h_56 => ?_)
        ·replace H := HS.cnd_t h_56 H
         try simp -implicitDefEqProofs +decide (maxSteps := 999999) [-selQ_sel, hokQ_of, h_55, h_56]
         have hr := (HS.some H).symm; subst hr
         exact Hid.mk ⟨(spec_l06Path_l2_X l98 w52 x42 (x105, x106, x107, x108)).2, Wk.ofk [0, 1, 2, 3, 4] hk (by rfl) (by simp -implicitDefEqProofs [spec_l06Path_l2_X, h_55, h_56]) (by simp -implicitDefEqProofs [spec_l06Path_l2_X, h_55, h_56]), hR⟩
        ·replace H := HS.cnd_f h_56 H
         try simp -implicitDefEqProofs +decide (maxSteps := 999999) [-selQ_sel, hokQ_of, h_55, h_56]
         obtain ⟨⟨w111, w112⟩, h_57, H⟩ := HS.bnd H
         dsimp only at H
         have k_58 := spec_l04Point_k ((TL01Cur.mk x105 x106 x107).b) ((TL01Cur.mk x105 x106 x107).i) ((TL01Cur.mk x105 x106 x107).h)
         simp -implicitDefEqProofs [-spec_l04Point_k] at k_58
         try simp -implicitDefEqProofs +decide (maxSteps := 999999) [-selQ_sel, hokQ_of, h_55, h_56, h_57, k_58]
         obtain ⟨h_59, H⟩ := HS.chkP H
         try simp -implicitDefEqProofs +decide (maxSteps := 999999) [-selQ_sel, hokQ_of, h_55, h_56, h_57, k_58, h_59]
         obtain ⟨l113, h_60, H⟩ := HS.nam H
         have m_61 := congrArg (List.map ePoint) h_60
         have q_62 := congrArg List.length h_60
         simp -implicitDefEqProofs at m_61 q_62
         try simp only [q_62] at m_61
         try simp only [q_62] at h_59
         try simp -implicitDefEqProofs +decide (maxSteps := 999999) [-selQ_sel, hokQ_of, h_55, h_56, h_57, k_58, h_59, m_61, q_62]
         have hr := (HS.some H).symm; subst hr
         exact Hid.mk ⟨spec_l06Path_l2_S l98 w52 x42 ((IntKind.i64.wrap (x104 + 1)), w112.b, w112.i, w112.h, l113), Wk.ofk [0, 1, 2, 3, 4] hk (by rfl) (by simp -implicitDefEqProofs [spec_l06Path_l2_S, h_55, h_56, h_57, k_58, h_59, m_61, q_62]) (by simp -implicitDefEqProofs [spec_l06Path_l2_S, h_55, h_56, h_57, k_58, h_59, m_61, q_62]), hR⟩
       ·obtain ⟨y114, y115, y116, y117⟩ := q
        try dsimp only at H
        try simp -implicitDefEqProofs +decide (maxSteps := 999999) [-selQ_sel, hokQ_of, h_9, k_10, h_11, h_12, k_13, h_14, h_30, g_31, h_32, h_48, h_49, h_50, m_52, q_53, spec_l06Path_l2_X]
        have hr := (HS.some H).symm; subst hr
        exact Hid.mk ⟨spec_l06Path_l3_S ((IntKind.i64.wrap (x42 + 1)), y114, y115, y116, l98, y117), Wk.ofk [0, 1, 2, 3, 4] hk (by rfl) (by simp -implicitDefEqProofs [spec_l06Path_l3_S, h_9, k_10, h_11, h_12, k_13, h_14, h_30, g_31, h_32, h_48, h_49, h_50, m_52, q_53]) (by simp -implicitDefEqProofs [spec_l06Path_l3_S, h_9, k_10, h_11, h_12, k_13, h_14, h_30, g_31, h_32, h_48, h_49, h_50, m_52, q_53]), hR⟩
      ·replace H := HS.cnd_f h_49 H
       try simp -implicitDefEqProofs +decide (maxSteps := 999999) [-selQ_sel, hokQ_of, h_9, k_10, h_11, h_12, k_13, h_14, h_30, g_31, h_32, h_48, h_49]
       have hr := (HS.some H).symm; subst hr
       exact Hid.mk ⟨(spec_l06Path_l3_X (.inr (w53.b, w53.i, w53.h, x46, x47))).2, Wk.ofk [0, 1, 3, 4] hk (by rfl) (by simp -implicitDefEqProofs [spec_l06Path_l3_X, h_9, k_10, h_11, h_12, k_13, h_14, h_30, g_31, h_32, h_48, h_49]) (by simp -implicitDefEqProofs [spec_l06Path_l3_X, h_9, k_10, h_11, h_12, k_13, h_14, h_30, g_31, h_32, h_48, h_49]), hR⟩
  ·rcases q with ⟨y118, y119, y120, y121, y122⟩ | ⟨y123, y124, y125, y126, y127⟩
   ·dsimp only at H
    try simp -implicitDefEqProofs +decide (maxSteps := 999999) [-selQ_sel, hokQ_of, h_1, h_2, spec_l06Path_l3_X]
    have hr := (HS.some H).symm; subst hr
    refine Hid.mk ⟨_, Wk.refl _, ?_⟩
    try simp -implicitDefEqProofs +decide (maxSteps := 999999) [-selQ_sel, hokQ_of, h_1, h_2]
   ·dsimp only at H
    try simp -implicitDefEqProofs +decide (maxSteps := 999999) [-selQ_sel, hokQ_of, h_1, h_2, spec_l06Path_l3_X]
    have hr := (HS.some H).symm; subst hr
    refine Hid.mk ⟨_, Wk.refl _, ?_⟩
    try simp -implicitDefEqProofs +decide (maxSteps := 999999) [-selQ_sel, hokQ_of, h_1, h_2]
theorem spec_CreateNode_ok0 (hm : Try.prog.follows .mixedOrders = true) (k_spec_l15Copy : Sound Try.prog 116 spec_l15Copy_x) (k_spec_SceneOk : Sound Try.prog 117 spec_SceneOk_x) (k_spec_NodeOk : Sound Try.prog 118 spec_NodeOk_x) (k_spec_NodeAt : Sound Try.prog 119 spec_NodeAt_x) (k_spec_DepthOf : Sound Try.prog 120 spec_DepthOf_x) (k_spec_l15CopyNode : Sound Try.prog 121 spec_l15CopyNode_x) : Sound Try.prog 47 spec_CreateNode_x := by
 refine xOf_sound fun q r h => ?_
 obtain ⟨a0, a1⟩ := q
 refine fn_ok E0 hm Try.func47 rfl (by decide +kernel) (by rfl) fun Γ hn hk => ?_
 dsimp only [spec_CreateNode_e, spec_CreateNode_v]
 replace hn : Γ.n = 65 := hn
 replace hk : Γ.k = 0 := hk
 have H : HS (spec_CreateNode a0 a1) r := h
 clear h; unfold spec_CreateNode at H
 try simp -implicitDefEqProofs at H
 refine Tr.of_vc (cl := tabC [(116, spec_l15Copy_x), (117, spec_SceneOk_x), (118, spec_NodeOk_x), (119, spec_NodeAt_x), (120, spec_DepthOf_x), (121, spec_l15CopyNode_x)]) (E := E0) [] (tab_cons k_spec_l15Copy (tab_cons k_spec_SceneOk (tab_cons k_spec_NodeOk (tab_cons k_spec_NodeAt (tab_cons k_spec_DepthOf (tab_cons k_spec_l15CopyNode tab_nil)))))) hm (by rw [hn]; decide +kernel) ?_
 try simp -implicitDefEqProofs +decide (maxSteps := 999999) [-selQ_sel, hokQ_of]
 obtain ⟨v1, h_1, H⟩ := HS.bnd H
 try simp -implicitDefEqProofs +decide (maxSteps := 999999) [-selQ_sel, hokQ_of, h_1]
 obtain ⟨v2, h_2, H⟩ := HS.bnd H
 try simp -implicitDefEqProofs +decide (maxSteps := 999999) [-selQ_sel, hokQ_of, h_1, h_2]
 refine Hid.selQ (fun h_3 => ?_) (fun h_3 => ?_)
 ·replace H := HS.cnd_t h_3 H
  try simp -implicitDefEqProofs +decide (maxSteps := 999999) [-selQ_sel, hokQ_of, h_1, h_2, h_3]
  obtain ⟨v3, h_4, H⟩ := HS.bnd H
  try simp -implicitDefEqProofs +decide (maxSteps := 999999) [-selQ_sel, hokQ_of, h_1, h_2, h_3, h_4]
  refine Hid.brV (fun h_5 => ?_) (fun h_5 => ?_)
  ·replace H := HS.cnd_t h_5 H
   try simp -implicitDefEqProofs +decide (maxSteps := 999999) [-selQ_sel, hokQ_of, h_1, h_2, h_3, h_4, h_5]
   obtain ⟨v4, h_6, H⟩ := HS.bnd H
   try simp -implicitDefEqProofs +decide (maxSteps := 999999) [-selQ_sel, hokQ_of, h_1, h_2, h_3, h_4, h_5, h_6]
   refine Hid.brV (fun h_7 => ?_) (fun h_7 => ?_)
   ·replace H := HS.cnd_t h_7 H
    try simp -implicitDefEqProofs +decide (maxSteps := 999999) [-selQ_sel, hokQ_of, h_1, h_2, h_3, h_4, h_5, h_6, h_7]
    have hr := (HS.some H).symm; subst hr
    refine Hid.mk ⟨_, Wk.refl _, ?_⟩
    try simp -implicitDefEqProofs +decide (maxSteps := 999999) [-selQ_sel, hokQ_of, h_1, h_2, h_3, h_4, h_5, h_6, h_7]
   ·replace H := HS.cnd_f h_7 H
    try simp -implicitDefEqProofs +decide (maxSteps := 999999) [-selQ_sel, hokQ_of, h_1, h_2, h_3, h_4, h_5, h_6, h_7]
    obtain ⟨v5, h_8, H⟩ := HS.bnd H
    try simp -implicitDefEqProofs +decide (maxSteps := 999999) [-selQ_sel, hokQ_of, h_1, h_2, h_3, h_4, h_5, h_6, h_7, h_8]
    refine Hid.selQ (fun h_9 => ?_) (fun h_9 => ?_)
    ·replace H := HS.cnd_t h_9 H
     try simp -implicitDefEqProofs +decide (maxSteps := 999999) [-selQ_sel, hokQ_of, h_1, h_2, h_3, h_4, h_5, h_6, h_7, h_8, h_9]
     refine Hid.brV (fun h_10 => ?_) (fun h_10 => ?_)
     ·replace H := HS.cnd_t h_10 H
      try simp -implicitDefEqProofs +decide (maxSteps := 999999) [-selQ_sel, hokQ_of, h_1, h_2, h_3, h_4, h_5, h_6, h_7, h_8, h_9, h_10]
      have hr := (HS.some H).symm; subst hr
      refine Hid.mk ⟨_, Wk.refl _, ?_⟩
      try simp -implicitDefEqProofs +decide (maxSteps := 999999) [-selQ_sel, hokQ_of, h_1, h_2, h_3, h_4, h_5, h_6, h_7, h_8, h_9, h_10]
     ·replace H := HS.cnd_f h_10 H
      try simp -implicitDefEqProofs +decide (maxSteps := 999999) [-selQ_sel, hokQ_of, h_1, h_2, h_3, h_4, h_5, h_6, h_7, h_8, h_9, h_10]
      obtain ⟨v6, h_11, H⟩ := HS.bnd H
      try simp -implicitDefEqProofs +decide (maxSteps := 999999) [-selQ_sel, hokQ_of, h_1, h_2, h_3, h_4, h_5, h_6, h_7, h_8, h_9, h_10, h_11]
      refine Hid.brV (fun h_12 => ?_) (fun h_12 => ?_)
      ·replace H := HS.cnd_t h_12 H
       try simp -implicitDefEqProofs +decide (maxSteps := 999999) [-selQ_sel, hokQ_of, h_1, h_2, h_3, h_4, h_5, h_6, h_7, h_8, h_9, h_10, h_11, h_12]
       have hr := (HS.some H).symm; subst hr
       refine Hid.mk ⟨_, Wk.refl _, ?_⟩
       try simp -implicitDefEqProofs +decide (maxSteps := 999999) [-selQ_sel, hokQ_of, h_1, h_2, h_3, h_4, h_5, h_6, h_7, h_8, h_9, h_10, h_11, h_12]
      ·replace H := HS.cnd_f h_12 H
       try simp -implicitDefEqProofs +decide (maxSteps := 999999) [-selQ_sel, hokQ_of, h_1, h_2, h_3, h_4, h_5, h_6, h_7, h_8, h_9, h_10, h_11, h_12]
       obtain ⟨v7, h_13, H⟩ := HS.bnd H
       try simp -implicitDefEqProofs +decide (maxSteps := 999999) [-selQ_sel, hokQ_of, h_1, h_2, h_3, h_4, h_5, h_6, h_7, h_8, h_9, h_10, h_11, h_12, h_13]
       obtain ⟨h_14, H⟩ := HS.chkP H
       try simp -implicitDefEqProofs +decide (maxSteps := 999999) [-selQ_sel, hokQ_of, h_1, h_2, h_3, h_4, h_5, h_6, h_7, h_8, h_9, h_10, h_11, h_12, h_13, h_14]
       obtain ⟨l8, h_15, H⟩ := HS.nam H
       have m_16 := congrArg (List.map eNode) h_15
       have q_17 := congrArg List.length h_15
       simp -implicitDefEqProofs at m_16 q_17
       try simp only [q_17] at m_16
       try simp only [q_17] at h_14
       try simp -implicitDefEqProofs +decide (maxSteps := 999999) [-selQ_sel, hokQ_of, h_1, h_2, h_3, h_4, h_5, h_6, h_7, h_8, h_9, h_10, h_11, h_12, h_13, h_14, m_16, q_17]
       have hr := (HS.some H).symm; subst hr
       refine Hid.mk ⟨_, Wk.refl _, ?_⟩
       try simp -implicitDefEqProofs +decide (maxSteps := 999999) [-selQ_sel, hokQ_of, h_1, h_2, h_3, h_4, h_5, h_6, h_7, h_8, h_9, h_10, h_11, h_12, h_13, h_14, m_16, q_17]
    ·replace H := HS.cnd_f h_9 H
     try simp -implicitDefEqProofs +decide (maxSteps := 999999) [-selQ_sel, hokQ_of, h_1, h_2, h_3, h_4, h_5, h_6, h_7, h_8, h_9]
     refine Hid.selQ (fun h_18 => ?_) (fun h_18 => ?_)
     ·replace H := HS.cnd_t h_18 H
      try simp -implicitDefEqProofs +decide (maxSteps := 999999) [-selQ_sel, hokQ_of, h_1, h_2, h_3, h_4, h_5, h_6, h_7, h_8, h_9, h_18]
      obtain ⟨v9, h_19, H⟩ := HS.bnd H
      try simp -implicitDefEqProofs +decide (maxSteps := 999999) [-selQ_sel, hokQ_of, h_1, h_2, h_3, h_4, h_5, h_6, h_7, h_8, h_9, h_18, h_19]
      refine Hid.brV (fun h_20 => ?_) (fun h_20 => ?_)
      ·replace H := HS.cnd_t h_20 H
       try simp -implicitDefEqProofs +decide (maxSteps := 999999) [-selQ_sel, hokQ_of, h_1, h_2, h_3, h_4, h_5, h_6, h_7, h_8, h_9, h_18, h_19, h_20]
       refine Hid.brV (fun h_21 => ?_) (fun h_21 => ?_)
       ·replace H := HS.cnd_t h_21 H
        try simp -implicitDefEqProofs +decide (maxSteps := 999999) [-selQ_sel, hokQ_of, h_1, h_2, h_3, h_4, h_5, h_6, h_7, h_8, h_9, h_18, h_19, h_20, h_21]
        have hr := (HS.some H).symm; subst hr
        refine Hid.mk ⟨_, Wk.refl _, ?_⟩
        try simp -implicitDefEqProofs +decide (maxSteps := 999999) [-selQ_sel, hokQ_of, h_1, h_2, h_3, h_4, h_5, h_6, h_7, h_8, h_9, h_18, h_19, h_20, h_21]
       ·replace H := HS.cnd_f h_21 H
        try simp -implicitDefEqProofs +decide (maxSteps := 999999) [-selQ_sel, hokQ_of, h_1, h_2, h_3, h_4, h_5, h_6, h_7, h_8, h_9, h_18, h_19, h_20, h_21]
        obtain ⟨v10, h_22, H⟩ := HS.bnd H
        try simp -implicitDefEqProofs +decide (maxSteps := 999999) [-selQ_sel, hokQ_of, h_1, h_2, h_3, h_4, h_5, h_6, h_7, h_8, h_9, h_18, h_19, h_20, h_21, h_22]
        refine Hid.brV (fun h_23 => ?_) (fun h_23 => ?_)
        ·replace H := HS.cnd_t h_23 H
         try simp -implicitDefEqProofs +decide (maxSteps := 999999) [-selQ_sel, hokQ_of, h_1, h_2, h_3, h_4, h_5, h_6, h_7, h_8, h_9, h_18, h_19, h_20, h_21, h_22, h_23]
         have hr := (HS.some H).symm; subst hr
         refine Hid.mk ⟨_, Wk.refl _, ?_⟩
         try simp -implicitDefEqProofs +decide (maxSteps := 999999) [-selQ_sel, hokQ_of, h_1, h_2, h_3, h_4, h_5, h_6, h_7, h_8, h_9, h_18, h_19, h_20, h_21, h_22, h_23]
        ·replace H := HS.cnd_f h_23 H
         try simp -implicitDefEqProofs +decide (maxSteps := 999999) [-selQ_sel, hokQ_of, h_1, h_2, h_3, h_4, h_5, h_6, h_7, h_8, h_9, h_18, h_19, h_20, h_21, h_22, h_23]
         obtain ⟨v11, h_24, H⟩ := HS.bnd H
         try simp -implicitDefEqProofs +decide (maxSteps := 999999) [-selQ_sel, hokQ_of, h_1, h_2, h_3, h_4, h_5, h_6, h_7, h_8, h_9, h_18, h_19, h_20, h_21, h_22, h_23, h_24]
         obtain ⟨h_25, H⟩ := HS.chkP H
         try simp -implicitDefEqProofs +decide (maxSteps := 999999) [-selQ_sel, hokQ_of, h_1, h_2, h_3, h_4, h_5, h_6, h_7, h_8, h_9, h_18, h_19, h_20, h_21, h_22, h_23, h_24, h_25]
         obtain ⟨l12, h_26, H⟩ := HS.nam H
         have m_27 := congrArg (List.map eNode) h_26
         have q_28 := congrArg List.length h_26
         simp -implicitDefEqProofs at m_27 q_28
         try simp only [q_28] at m_27
         try simp only [q_28] at h_25
         try simp -implicitDefEqProofs +decide (maxSteps := 999999) [-selQ_sel, hokQ_of, h_1, h_2, h_3, h_4, h_5, h_6, h_7, h_8, h_9, h_18, h_19, h_20, h_21, h_22, h_23, h_24, h_25, m_27, q_28]
         have hr := (HS.some H).symm; subst hr
         refine Hid.mk ⟨_, Wk.refl _, ?_⟩
         try simp -implicitDefEqProofs +decide (maxSteps := 999999) [-selQ_sel, hokQ_of, h_1, h_2, h_3, h_4, h_5, h_6, h_7, h_8, h_9, h_18, h_19, h_20, h_21, h_22, h_23, h_24, h_25, m_27, q_28]
      ·replace H := HS.cnd_f h_20 H
       try simp -implicitDefEqProofs +decide (maxSteps := 999999) [-selQ_sel, hokQ_of, h_1, h_2, h_3, h_4, h_5, h_6, h_7, h_8, h_9, h_18, h_19, h_20]
       have hr := (HS.some H).symm; subst hr
       refine Hid.mk ⟨_, Wk.refl _, ?_⟩
       try simp -implicitDefEqProofs +decide (maxSteps := 999999) [-selQ_sel, hokQ_of, h_1, h_2, h_3, h_4, h_5, h_6, h_7, h_8, h_9, h_18, h_19, h_20]
     ·replace H := HS.cnd_f h_18 H
      try simp -implicitDefEqProofs +decide (maxSteps := 999999) [-selQ_sel, hokQ_of, h_1, h_2, h_3, h_4, h_5, h_6, h_7, h_8, h_9, h_18]
      have hr := (HS.some H).symm; subst hr
      refine Hid.mk ⟨_, Wk.refl _, ?_⟩
      try simp -implicitDefEqProofs +decide (maxSteps := 999999) [-selQ_sel, hokQ_of, h_1, h_2, h_3, h_4, h_5, h_6, h_7, h_8, h_9, h_18]
  ·replace H := HS.cnd_f h_5 H
   try simp -implicitDefEqProofs +decide (maxSteps := 999999) [-selQ_sel, hokQ_of, h_1, h_2, h_3, h_4, h_5]
   have hr := (HS.some H).symm; subst hr
   refine Hid.mk ⟨_, Wk.refl _, ?_⟩
   try simp -implicitDefEqProofs +decide (maxSteps := 999999) [-selQ_sel, hokQ_of, h_1, h_2, h_3, h_4, h_5]
 ·replace H := HS.cnd_f h_3 H
  try simp -implicitDefEqProofs +decide (maxSteps := 999999) [-selQ_sel, hokQ_of, h_1, h_2, h_3]
  have hr := (HS.some H).symm; subst hr
  refine Hid.mk ⟨_, Wk.refl _, ?_⟩
  try simp -implicitDefEqProofs +decide (maxSteps := 999999) [-selQ_sel, hokQ_of, h_1, h_2, h_3]
theorem spec_SceneOk_ok0 (hm : Try.prog.follows .mixedOrders = true) (k_spec_NodeOk : Sound Try.prog 118 spec_NodeOk_x) (k_spec_NodeAt : Sound Try.prog 119 spec_NodeAt_x) (k_spec_DepthOf : Sound Try.prog 120 spec_DepthOf_x) (k_spec_l01In : Sound Try.prog 91 spec_l01In_x) : Sound Try.prog 117 spec_SceneOk_x := by
 refine xOf_sound fun q r h => ?_
 revert h; revert r; revert q; intro a0 r h
 refine fn_ok E0 hm Try.func117 rfl (by decide +kernel) (by rfl) fun Γ hn hk => ?_
 dsimp only [spec_SceneOk_e, spec_SceneOk_v]
 replace hn : Γ.n = 61 := hn
 replace hk : Γ.k = 0 := hk
 have H : HS (spec_SceneOk a0) r := h
 clear h; unfold spec_SceneOk at H
 try simp -implicitDefEqProofs at H
 refine Tr.of_vc (cl := tabC [(118, spec_NodeOk_x), (119, spec_NodeAt_x), (120, spec_DepthOf_x), (91, spec_l01In_x)]) (E := E0) [] (tab_cons k_spec_NodeOk (tab_cons k_spec_NodeAt (tab_cons k_spec_DepthOf (tab_cons k_spec_l01In tab_nil)))) hm (by rw [hn]; decide +kernel) ?_
 try simp -implicitDefEqProofs (maxSteps := 999999) [-selQ_sel]
 refine Hid.brV (fun h_1 => ?_) (fun h_1 => ?_)
 ·replace H := HS.cnd_t h_1 H
  try simp -implicitDefEqProofs (maxSteps := 999999) [-selQ_sel, h_1]
  obtain ⟨q, h_2, H⟩ := HS.bnd H
  refine Hid.mk (Tr.weak (s' := (spec_SceneOk_l0_S a0) 0) (Wk.ofk [0] hk (by rfl) (by simp -implicitDefEqProofs [spec_SceneOk_l0_S, h_1]) (by simp -implicitDefEqProofs [spec_SceneOk_l0_S, h_1])) ?_)
  refine wp_loop_of (S := (spec_SceneOk_l0_S a0)) (f := (spec_SceneOk_l0 a0)) (xt := (spec_SceneOk_l0_X a0)) ?_ ?_ h_2 ?_
  ·intro q; rcases q with ⟨⟩ | ⟨⟩ <;> simp [spec_SceneOk_l0_X]
  ·clear H h_2 q
   rintro x8 o R hf hR
   have H : HS (spec_SceneOk_l0 a0 x8) o := hf
   clear hf; unfold spec_SceneOk_l0 at H
   try simp -implicitDefEqProofs at H
   refine Tr.of_vc (cl := tabC [(118, spec_NodeOk_x), (119, spec_NodeAt_x), (120, spec_DepthOf_x), (91, spec_l01In_x)]) (E := E0) [] (tab_cons k_spec_NodeOk (tab_cons k_spec_NodeAt (tab_cons k_spec_DepthOf (tab_cons k_spec_l01In tab_nil)))) hm (by rw [hn]; decide +kernel) ?_
   try simp -implicitDefEqProofs (maxSteps := 999999) [-selQ_sel, spec_SceneOk_l0_S]
   refine Hid.brV (fun h_3 => ?_) (fun h_3 => ?_)
   ·replace H := HS.cnd_t h_3 H
    try simp -implicitDefEqProofs (maxSteps := 999999) [-selQ_sel, h_3]
    have hr := (HS.some H).symm; subst hr
    exact Hid.mk ⟨(spec_SceneOk_l0_X a0 (.inl ())).2, Wk.ofk [] hk (by rfl) (by simp -implicitDefEqProofs [spec_SceneOk_l0_X, h_3]) (by simp -implicitDefEqProofs [spec_SceneOk_l0_X, h_3]), hR⟩
   ·replace H := HS.cnd_f h_3 H
    try simp -implicitDefEqProofs (maxSteps := 999999) [-selQ_sel, h_3]
    obtain ⟨v9, h_4, H⟩ := HS.bnd H
    try simp -implicitDefEqProofs (maxSteps := 999999) [-selQ_sel, h_3, h_4]
    obtain ⟨v10, h_5, H⟩ := HS.bnd H
    try simp -implicitDefEqProofs (maxSteps := 999999) [-selQ_sel, h_3, h_4, h_5]
    refine Hid.selQ (fun h_6 => ?_) (fun h_6 => ?_)
    ·replace H := HS.cnd_t h_6 H
     try simp -implicitDefEqProofs (maxSteps := 999999) [-selQ_sel, h_3, h_4, h_5, h_6]
     obtain ⟨v11, h_7, H⟩ := HS.bnd H
     try simp -implicitDefEqProofs (maxSteps := 999999) [-selQ_sel, h_3, h_4, h_5, h_6, h_7]
     refine Hid.selQ (fun h_8 => ?_) (fun h_8 => ?_)
     ·replace H := HS.cnd_t h_8 H
      try simp -implicitDefEqProofs (maxSteps := 999999) [-selQ_sel, h_3, h_4, h_5, h_6, h_7, h_8]
      obtain ⟨v12, h_9, H⟩ := HS.bnd H
      try simp -implicitDefEqProofs (maxSteps := 999999) [-selQ_sel, h_3, h_4, h_5, h_6, h_7, h_8, h_9]
      obtain ⟨v13, h_10, H⟩ := HS.bnd H
      try simp -implicitDefEqProofs (maxSteps := 999999) [-selQ_sel, h_3, h_4, h_5, h_6, h_7, h_8, h_9, h_10]
      refine Hid.brV (fun h_11 => ?_) (fun h_11 => ?_)
      ·replace H := HS.cnd_t h_11 H
       try simp -implicitDefEqProofs (maxSteps := 999999) [-selQ_sel, h_3, h_4, h_5, h_6, h_7, h_8, h_9, h_10, h_11]
       obtain ⟨v14, h_12, H⟩ := HS.bnd H
       try simp -implicitDefEqProofs (maxSteps := 999999) [-selQ_sel, h_3, h_4, h_5, h_6, h_7, h_8, h_9, h_10, h_11, h_12]
       refine Hid.selQ (fun h_13 => ?_) (fun h_13 => ?_)
       ·replace H := HS.cnd_t h_13 H
        try simp -implicitDefEqProofs (maxSteps := 999999) [-selQ_sel, h_3, h_4, h_5, h_6, h_7, h_8, h_9, h_10, h_11, h_12, h_13]
        have hr := (HS.some H).symm; subst hr
        exact Hid.mk ⟨spec_SceneOk_l0_S a0 (IntKind.i64.wrap (x8 + 1)), Wk.ofk [0] hk (by rfl) (by simp -implicitDefEqProofs [spec_SceneOk_l0_S, h_3, h_4, h_5, h_6, h_7, h_8, h_9, h_10, h_11, h_12, h_13]) (by simp -implicitDefEqProofs [spec_SceneOk_l0_S, h_3, h_4, h_5, h_6, h_7, h_8, h_9, h_10, h_11, h_12, h_13]), hR⟩
       ·replace H := HS.cnd_f h_13 H
        try simp -implicitDefEqProofs (maxSteps := 999999) [-selQ_sel, h_3, h_4, h_5, h_6, h_7, h_8, h_9, h_10, h_11, h_12, h_13]
        refine Hid.selQ (fun h_14 => ?_) (fun h_14 => ?_)
        ·replace H := HS.cnd_t h_14 H
         try simp -implicitDefEqProofs (maxSteps := 999999) [-selQ_sel, h_3, h_4, h_5, h_6, h_7, h_8, h_9, h_10, h_11, h_12, h_13, h_14]
         obtain ⟨v15, h_15, H⟩ := HS.bnd H
         try simp -implicitDefEqProofs (maxSteps := 999999) [-selQ_sel, h_3, h_4, h_5, h_6, h_7, h_8, h_9, h_10, h_11, h_12, h_13, h_14, h_15]
         refine Hid.brV (fun h_16 => ?_) (fun h_16 => ?_)
         ·replace H := HS.cnd_t h_16 H
          try simp -implicitDefEqProofs (maxSteps := 999999) [-selQ_sel, h_3, h_4, h_5, h_6, h_7, h_8, h_9, h_10, h_11, h_12, h_13, h_14, h_15, h_16]
          have hr := (HS.some H).symm; subst hr
          exact Hid.mk ⟨spec_SceneOk_l0_S a0 (IntKind.i64.wrap (x8 + 1)), Wk.ofk [0] hk (by rfl) (by simp -implicitDefEqProofs [spec_SceneOk_l0_S, h_3, h_4, h_5, h_6, h_7, h_8, h_9, h_10, h_11, h_12, h_13, h_14, h_15, h_16]) (by simp -implicitDefEqProofs [spec_SceneOk_l0_S, h_3, h_4, h_5, h_6, h_7, h_8, h_9, h_10, h_11, h_12, h_13, h_14, h_15, h_16]), hR⟩
         ·replace H := HS.cnd_f h_16 H
          try simp -implicitDefEqProofs (maxSteps := 999999) [-selQ_sel, h_3, h_4, h_5, h_6, h_7, h_8, h_9, h_10, h_11, h_12, h_13, h_14, h_15, h_16]
          have hr := (HS.some H).symm; subst hr
          exact Hid.mk ⟨(spec_SceneOk_l0_X a0 (.inr ())).2, Wk.ofk [] hk (by rfl) (by simp -implicitDefEqProofs [spec_SceneOk_l0_X, h_3, h_4, h_5, h_6, h_7, h_8, h_9, h_10, h_11, h_12, h_13, h_14, h_15, h_16]) (by simp -implicitDefEqProofs [spec_SceneOk_l0_X, h_3, h_4, h_5, h_6, h_7, h_8, h_9, h_10, h_11, h_12, h_13, h_14, h_15, h_16]), hR⟩
        ·replace H := HS.cnd_f h_14 H
         try simp -implicitDefEqProofs (maxSteps := 999999) [-selQ_sel, h_3, h_4, h_5, h_6, h_7, h_8, h_9, h_10, h_11, h_12, h_13, h_14]
         have hr := (HS.some H).symm; subst hr
         exact Hid.mk ⟨(spec_SceneOk_l0_X a0 (.inr ())).2, Wk.ofk [] hk (by rfl) (by simp -implicitDefEqProofs [spec_SceneOk_l0_X, h_3, h_4, h_5, h_6, h_7, h_8, h_9, h_10, h_11, h_12, h_13, h_14]) (by simp -implicitDefEqProofs [spec_SceneOk_l0_X, h_3, h_4, h_5, h_6, h_7, h_8, h_9, h_10, h_11, h_12, h_13, h_14]), hR⟩
      ·replace H := HS.cnd_f h_11 H
       try simp -implicitDefEqProofs (maxSteps := 999999) [-selQ_sel, h_3, h_4, h_5, h_6, h_7, h_8, h_9, h_10, h_11]
       have hr := (HS.some H).symm; subst hr
       exact Hid.mk ⟨(spec_SceneOk_l0_X a0 (.inr ())).2, Wk.ofk [] hk (by rfl) (by simp -implicitDefEqProofs [spec_SceneOk_l0_X, h_3, h_4, h_5, h_6, h_7, h_8, h_9, h_10, h_11]) (by simp -implicitDefEqProofs [spec_SceneOk_l0_X, h_3, h_4, h_5, h_6, h_7, h_8, h_9, h_10, h_11]), hR⟩
     ·replace H := HS.cnd_f h_8 H
      try simp -implicitDefEqProofs (maxSteps := 999999) [-selQ_sel, h_3, h_4, h_5, h_6, h_7, h_8]
      have hr := (HS.some H).symm; subst hr
      exact Hid.mk ⟨(spec_SceneOk_l0_X a0 (.inr ())).2, Wk.ofk [] hk (by rfl) (by simp -implicitDefEqProofs [spec_SceneOk_l0_X, h_3, h_4, h_5, h_6, h_7, h_8]) (by simp -implicitDefEqProofs [spec_SceneOk_l0_X, h_3, h_4, h_5, h_6, h_7, h_8]), hR⟩
    ·replace H := HS.cnd_f h_6 H
     try simp -implicitDefEqProofs (maxSteps := 999999) [-selQ_sel, h_3, h_4, h_5, h_6]
     have hr := (HS.some H).symm; subst hr
     exact Hid.mk ⟨(spec_SceneOk_l0_X a0 (.inr ())).2, Wk.ofk [] hk (by rfl) (by simp -implicitDefEqProofs [spec_SceneOk_l0_X, h_3, h_4, h_5, h_6]) (by simp -implicitDefEqProofs [spec_SceneOk_l0_X, h_3, h_4, h_5, h_6]), hR⟩
  ·rcases q with ⟨⟩ | ⟨⟩
   ·dsimp only at H
    try simp -implicitDefEqProofs (maxSteps := 999999) [-selQ_sel, h_1, spec_SceneOk_l0_X]
    have hr := (HS.some H).symm; subst hr
    refine Hid.mk ⟨_, Wk.refl _, ?_⟩
    try simp -implicitDefEqProofs (maxSteps := 999999) [-selQ_sel, h_1]
   ·dsimp only at H
    try simp -implicitDefEqProofs (maxSteps := 999999) [-selQ_sel, h_1, spec_SceneOk_l0_X]
    have hr := (HS.some H).symm; subst hr
    refine Hid.mk ⟨_, Wk.refl _, ?_⟩
    try simp -implicitDefEqProofs (maxSteps := 999999) [-selQ_sel, h_1]
 ·replace H := HS.cnd_f h_1 H
  try simp -implicitDefEqProofs (maxSteps := 999999) [-selQ_sel, h_1]
  have hr := (HS.some H).symm; subst hr
  refine Hid.mk ⟨_, Wk.refl _, ?_⟩
  try simp -implicitDefEqProofs (maxSteps := 999999) [-selQ_sel, h_1]
theorem impl_SceneOk_ok0 (hm : Try.prog.follows .mixedOrders = true) (k_impl_NodeOk : Sound Try.prog 112 impl_NodeOk_x) (k_impl_NodeAt : Sound Try.prog 53 impl_NodeAt_x) (k_impl_Scene_isParent : Sound Try.prog 113 impl_Scene_isParent_x) (k_impl_DepthOf : Sound Try.prog 114 impl_DepthOf_x) (k_impl_inRange : Sound Try.prog 95 impl_inRange_x) : Sound Try.prog 48 impl_SceneOk_x := by
 refine xOf_sound fun q r h => ?_
 revert h; revert r; revert q; intro a0 r h
 refine fn_ok E0 hm Try.func48 rfl (by decide +kernel) (by rfl) fun Γ hn hk => ?_
 dsimp only [impl_SceneOk_e, impl_SceneOk_v]
 replace hn : Γ.n = 43 := hn
 replace hk : Γ.k = 0 := hk
 have H : HS (impl_SceneOk a0) r := h
 clear h; unfold impl_SceneOk at H
 try simp -implicitDefEqProofs at H
 refine Tr.of_vc (cl := tabC [(112, impl_NodeOk_x), (53, impl_NodeAt_x), (113, impl_Scene_isParent_x), (114, impl_DepthOf_x), (95, impl_inRange_x)]) (E := E0) [] (tab_cons k_impl_NodeOk (tab_cons k_impl_NodeAt (tab_cons k_impl_Scene_isParent (tab_cons k_impl_DepthOf (tab_cons k_impl_inRange tab_nil))))) hm (by rw [hn]; decide +kernel) ?_
 try simp -implicitDefEqProofs (maxSteps := 999999) [-selQ_sel]
 refine Hid.brV (fun h_1 => ?_) (fun h_1 => ?_)
 ·replace H := HS.cnd_t h_1 H
  try simp -implicitDefEqProofs (maxSteps := 999999) [-selQ_sel, h_1]
  obtain ⟨q, h_2, H⟩ := HS.bnd H
  refine Hid.mk (Tr.weak (s' := (impl_SceneOk_l0_S a0) 0) (Wk.ofk [0] hk (by rfl) (by simp -implicitDefEqProofs [impl_SceneOk_l0_S, h_1]) (by simp -implicitDefEqProofs [impl_SceneOk_l0_S, h_1])) ?_)
  refine wp_loop_of (S := (impl_SceneOk_l0_S a0)) (f := (impl_SceneOk_l0 a0)) (xt := (impl_SceneOk_l0_X a0)) ?_ ?_ h_2 ?_
  ·intro q; rcases q with ⟨⟩ | ⟨⟩ <;> simp [impl_SceneOk_l0_X]
  ·clear H h_2 q
   rintro x7 o R hf hR
   have H : HS (impl_SceneOk_l0 a0 x7) o := hf
   clear hf; unfold impl_SceneOk_l0 at H
   try simp -implicitDefEqProofs at H
   refine Tr.of_vc (cl := tabC [(112, impl_NodeOk_x), (53, impl_NodeAt_x), (113, impl_Scene_isParent_x), (114, impl_DepthOf_x), (95, impl_inRange_x)]) (E := E0) [] (tab_cons k_impl_NodeOk (tab_cons k_impl_NodeAt (tab_cons k_impl_Scene_isParent (tab_cons k_impl_DepthOf (tab_cons k_impl_inRange tab_nil))))) hm (by rw [hn]; decide +kernel) ?_
   try simp -implicitDefEqProofs (maxSteps := 999999) [-selQ_sel, impl_SceneOk_l0_S]
   refine Hid.brV (fun h_3 => ?_) (fun h_3 => ?_)
   ·replace H := HS.cnd_t h_3 H
    try simp -implicitDefEqProofs (maxSteps := 999999) [-selQ_sel, h_3]
    have hr := (HS.some H).symm; subst hr
    exact Hid.mk ⟨(impl_SceneOk_l0_X a0 (.inl ())).2, Wk.ofk [] hk (by rfl) (by simp -implicitDefEqProofs [impl_SceneOk_l0_X, h_3]) (by simp -implicitDefEqProofs [impl_SceneOk_l0_X, h_3]), hR⟩
   ·replace H := HS.cnd_f h_3 H
    try simp -implicitDefEqProofs (maxSteps := 999999) [-selQ_sel, h_3]
    obtain ⟨v8, h_4, H⟩ := HS.bnd H
    try simp -implicitDefEqProofs (maxSteps := 999999) [-selQ_sel, h_3, h_4]
    obtain ⟨v9, h_5, H⟩ := HS.bnd H
    try simp -implicitDefEqProofs (maxSteps := 999999) [-selQ_sel, h_3, h_4, h_5]
    refine Hid.selQ (fun h_6 => ?_) (fun h_6 => ?_)
    ·replace H := HS.cnd_t h_6 H
     try simp -implicitDefEqProofs (maxSteps := 999999) [-selQ_sel, h_3, h_4, h_5, h_6]
     obtain ⟨v10, h_7, H⟩ := HS.bnd H
     try simp -implicitDefEqProofs (maxSteps := 999999) [-selQ_sel, h_3, h_4, h_5, h_6, h_7]
     refine Hid.selQ (fun h_8 => ?_) (fun h_8 => ?_)
     ·replace H := HS.cnd_t h_8 H
      try simp -implicitDefEqProofs (maxSteps := 999999) [-selQ_sel, h_3, h_4, h_5, h_6, h_7, h_8]
      obtain ⟨v11, h_9, H⟩ := HS.bnd H
      try simp -implicitDefEqProofs (maxSteps := 999999) [-selQ_sel, h_3, h_4, h_5, h_6, h_7, h_8, h_9]
      refine Hid.selQ (fun h_10 => ?_) (fun h_10 => ?_)
      ·replace H := HS.cnd_t h_10 H
       try simp -implicitDefEqProofs (maxSteps := 999999) [-selQ_sel, h_3, h_4, h_5, h_6, h_7, h_8, h_9, h_10]
       obtain ⟨v12, h_11, H⟩ := HS.bnd H
       try simp -implicitDefEqProofs (maxSteps := 999999) [-selQ_sel, h_3, h_4, h_5, h_6, h_7, h_8, h_9, h_10, h_11]
       obtain ⟨v13, h_12, H⟩ := HS.bnd H
       try simp -implicitDefEqProofs (maxSteps := 999999) [-selQ_sel, h_3, h_4, h_5, h_6, h_7, h_8, h_9, h_10, h_11, h_12]
       refine Hid.brV (fun h_13 => ?_) (fun h_13 => ?_)
       ·replace H := HS.cnd_t h_13 H
        try simp -implicitDefEqProofs (maxSteps := 999999) [-selQ_sel, h_3, h_4, h_5, h_6, h_7, h_8, h_9, h_10, h_11, h_12, h_13]
        have hr := (HS.some H).symm; subst hr
        exact Hid.mk ⟨impl_SceneOk_l0_S a0 (IntKind.i64.wrap (x7 + 1)), Wk.ofk [0] hk (by rfl) (by simp -implicitDefEqProofs [impl_SceneOk_l0_S, h_3, h_4, h_5, h_6, h_7, h_8, h_9, h_10, h_11, h_12, h_13]) (by simp -implicitDefEqProofs [impl_SceneOk_l0_S, h_3, h_4, h_5, h_6, h_7, h_8, h_9, h_10, h_11, h_12, h_13]), hR⟩
       ·replace H := HS.cnd_f h_13 H
        try simp -implicitDefEqProofs (maxSteps := 999999) [-selQ_sel, h_3, h_4, h_5, h_6, h_7, h_8, h_9, h_10, h_11, h_12, h_13]
        have hr := (HS.some H).symm; subst hr
        exact Hid.mk ⟨(impl_SceneOk_l0_X a0 (.inr ())).2, Wk.ofk [] hk (by rfl) (by simp -implicitDefEqProofs [impl_SceneOk_l0_X, h_3, h_4, h_5, h_6, h_7, h_8, h_9, h_10, h_11, h_12, h_13]) (by simp -implicitDefEqProofs [impl_SceneOk_l0_X, h_3, h_4, h_5, h_6, h_7, h_8, h_9, h_10, h_11, h_12, h_13]), hR⟩
      ·replace H := HS.cnd_f h_10 H
       try simp -implicitDefEqProofs (maxSteps := 999999) [-selQ_sel, h_3, h_4, h_5, h_6, h_7, h_8, h_9, h_10]
       have hr := (HS.some H).symm; subst hr
       exact Hid.mk ⟨(impl_SceneOk_l0_X a0 (.inr ())).2, Wk.ofk [] hk (by rfl) (by simp -implicitDefEqProofs [impl_SceneOk_l0_X, h_3, h_4, h_5, h_6, h_7, h_8, h_9, h_10]) (by simp -implicitDefEqProofs [impl_SceneOk_l0_X, h_3, h_4, h_5, h_6, h_7, h_8, h_9, h_10]), hR⟩
     ·replace H := HS.cnd_f h_8 H
      try simp -implicitDefEqProofs (maxSteps := 999999) [-selQ_sel, h_3, h_4, h_5, h_6, h_7, h_8]
      have hr := (HS.some H).symm; subst hr
      exact Hid.mk ⟨(impl_SceneOk_l0_X a0 (.inr ())).2, Wk.ofk [] hk (by rfl) (by simp -implicitDefEqProofs [impl_SceneOk_l0_X, h_3, h_4, h_5, h_6, h_7, h_8]) (by simp -implicitDefEqProofs [impl_SceneOk_l0_X, h_3, h_4, h_5, h_6, h_7, h_8]), hR⟩
    ·replace H := HS.cnd_f h_6 H
     try simp -implicitDefEqProofs (maxSteps := 999999) [-selQ_sel, h_3, h_4, h_5, h_6]
     have hr := (HS.some H).symm; subst hr
     exact Hid.mk ⟨(impl_SceneOk_l0_X a0 (.inr ())).2, Wk.ofk [] hk (by rfl) (by simp -implicitDefEqProofs [impl_SceneOk_l0_X, h_3, h_4, h_5, h_6]) (by simp -implicitDefEqProofs [impl_SceneOk_l0_X, h_3, h_4, h_5, h_6]), hR⟩
  ·rcases q with ⟨⟩ | ⟨⟩
   ·dsimp only at H
    try simp -implicitDefEqProofs (maxSteps := 999999) [-selQ_sel, h_1, impl_SceneOk_l0_X]
    have hr := (HS.some H).symm; subst hr
    refine Hid.mk ⟨_, Wk.refl _, ?_⟩
    try simp -implicitDefEqProofs (maxSteps := 999999) [-selQ_sel, h_1]
   ·dsimp only at H
    try simp -implicitDefEqProofs (maxSteps := 999999) [-selQ_sel, h_1, impl_SceneOk_l0_X]
    have hr := (HS.some H).symm; subst hr
    refine Hid.mk ⟨_, Wk.refl _, ?_⟩
    try simp -implicitDefEqProofs (maxSteps := 999999) [-selQ_sel, h_1]
 ·replace H := HS.cnd_f h_1 H
  try simp -implicitDefEqProofs (maxSteps := 999999) [-selQ_sel, h_1]
  have hr := (HS.some H).symm; subst hr
  refine Hid.mk ⟨_, Wk.refl _, ?_⟩
  try simp -implicitDefEqProofs (maxSteps := 999999) [-selQ_sel, h_1]
theorem impl_DepthOf_ok0 (hm : Try.prog.follows .mixedOrders = true) (k_impl_NodeAt : Sound Try.prog 53 impl_NodeAt_x) : Sound Try.prog 114 impl_DepthOf_x := by
 refine xOf_sound fun q r h => ?_
 obtain ⟨a0, a1⟩ := q
 refine fn_ok E0 hm Try.func114 rfl (by decide +kernel) (by rfl) fun Γ hn hk => ?_
 dsimp only [impl_DepthOf_e, impl_DepthOf_v]
 replace hn : Γ.n = 27 := hn
 replace hk : Γ.k = 0 := hk
 have H : HS (impl_DepthOf a0 a1) r := h
 clear h; unfold impl_DepthOf at H
 try simp -implicitDefEqProofs at H
 refine Tr.of_vc (cl := tabC [(53, impl_NodeAt_x)]) (E := E0) [] (tab_cons k_impl_NodeAt tab_nil) hm (by rw [hn]; decide +kernel) ?_
 try simp -implicitDefEqProofs (maxSteps := 999999) [-selQ_sel]
 refine Hid.brV (fun h_1 => ?_) (fun h_1 => ?_)
 ·replace H := HS.cnd_t h_1 H
  try simp -implicitDefEqProofs (maxSteps := 999999) [-selQ_sel, h_1]
  have hr := (HS.some H).symm; subst hr
  refine Hid.mk ⟨_, Wk.refl _, ?_⟩
  try simp -implicitDefEqProofs (maxSteps := 999999) [-selQ_sel, h_1]
 ·replace H := HS.cnd_f h_1 H
  try simp -implicitDefEqProofs (maxSteps := 999999) [-selQ_sel, h_1]
  obtain ⟨q, h_2, H⟩ := HS.bnd H
  refine Hid.mk (Tr.weak (s' := (impl_DepthOf_l0_S a0) (a1, 1)) (Wk.ofk [0] hk (by rfl) (by simp -implicitDefEqProofs [impl_DepthOf_l0_S, h_1]) (by simp -implicitDefEqProofs [impl_DepthOf_l0_S, h_1])) ?_)
  refine wp_loop_of (S := (impl_DepthOf_l0_S a0)) (f := (impl_DepthOf_l0 a0)) (xt := (impl_DepthOf_l0_X a0)) ?_ ?_ h_2 ?_
  ·intro q; rcases q with y7 | ⟨⟩ <;> simp [impl_DepthOf_l0_X]
  ·clear H h_2 q
   rintro ⟨x3, x4⟩ o R hf hR
   have H : HS (impl_DepthOf_l0 a0 (x3, x4)) o := hf
   clear hf; unfold impl_DepthOf_l0 at H
   try simp -implicitDefEqProofs at H
   refine Tr.of_vc (cl := tabC [(53, impl_NodeAt_x)]) (E := E0) [] (tab_cons k_impl_NodeAt tab_nil) hm (by rw [hn]; decide +kernel) ?_
   try simp -implicitDefEqProofs (maxSteps := 999999) [-selQ_sel, impl_DepthOf_l0_S]
   refine Hid.brV (fun h_3 => ?_) (fun h_3 => ?_)
   ·replace H := HS.cnd_t h_3 H
    try simp -implicitDefEqProofs (maxSteps := 999999) [-selQ_sel, h_3]
    obtain ⟨v5, h_4, H⟩ := HS.bnd H
    try simp -implicitDefEqProofs (maxSteps := 999999) [-selQ_sel, h_3, h_4]
    refine Hid.brV (fun h_5 => ?_) (fun h_5 => ?_)
    ·replace H := HS.cnd_t h_5 H
     try simp -implicitDefEqProofs (maxSteps := 999999) [-selQ_sel, h_3, h_4, h_5]
     obtain ⟨v6, h_6, H⟩ := HS.bnd H
     try simp -implicitDefEqProofs (maxSteps := 999999) [-selQ_sel, h_3, h_4, h_5, h_6]
     refine Hid.brV (fun h_7 => ?_) (fun h_7 => ?_)
     ·replace H := HS.cnd_t h_7 H
      try simp -implicitDefEqProofs (maxSteps := 999999) [-selQ_sel, h_3, h_4, h_5, h_6, h_7]
      have hr := (HS.some H).symm; subst hr
      exact Hid.mk ⟨(impl_DepthOf_l0_X a0 (.inl x4)).2, Wk.ofk [] hk (by rfl) (by simp -implicitDefEqProofs [impl_DepthOf_l0_X, h_3, h_4, h_5, h_6, h_7]) (by simp -implicitDefEqProofs [impl_DepthOf_l0_X, h_3, h_4, h_5, h_6, h_7]), hR⟩
     ·replace H := HS.cnd_f h_7 H
      try simp -implicitDefEqProofs (maxSteps := 999999) [-selQ_sel, h_3, h_4, h_5, h_6, h_7]
      have hr := (HS.some H).symm; subst hr
      exact Hid.mk ⟨impl_DepthOf_l0_S a0 (v6.parent, (IntKind.i64.wrap (x4 + 1))), Wk.ofk [0] hk (by rfl) (by simp -implicitDefEqProofs [impl_DepthOf_l0_S, h_3, h_4, h_5, h_6, h_7]) (by simp -implicitDefEqProofs [impl_DepthOf_l0_S, h_3, h_4, h_5, h_6, h_7]), hR⟩
    ·replace H := HS.cnd_f h_5 H
     try simp -implicitDefEqProofs (maxSteps := 999999) [-selQ_sel, h_3, h_4, h_5]
     have hr := (HS.some H).symm; subst hr
     exact Hid.mk ⟨(impl_DepthOf_l0_X a0 (.inl 0)).2, Wk.ofk [] hk (by rfl) (by simp -implicitDefEqProofs [impl_DepthOf_l0_X, h_3, h_4, h_5]) (by simp -implicitDefEqProofs [impl_DepthOf_l0_X, h_3, h_4, h_5]), hR⟩
   ·replace H := HS.cnd_f h_3 H
    try simp -implicitDefEqProofs (maxSteps := 999999) [-selQ_sel, h_3]
    have hr := (HS.some H).symm; subst hr
    exact Hid.mk ⟨(impl_DepthOf_l0_X a0 (.inr ())).2, Wk.ofk [] hk (by rfl) (by simp -implicitDefEqProofs [impl_DepthOf_l0_X, h_3]) (by simp -implicitDefEqProofs [impl_DepthOf_l0_X, h_3]), hR⟩
  ·rcases q with y7 | ⟨⟩
   ·dsimp only at H
    try simp -implicitDefEqProofs (maxSteps := 999999) [-selQ_sel, h_1, impl_DepthOf_l0_X]
    have hr := (HS.some H).symm; subst hr
    refine Hid.mk ⟨_, Wk.refl _, ?_⟩
    try simp -implicitDefEqProofs (maxSteps := 999999) [-selQ_sel, h_1]
   ·dsimp only at H
    try simp -implicitDefEqProofs (maxSteps := 999999) [-selQ_sel, h_1, impl_DepthOf_l0_X]
    have hr := (HS.some H).symm; subst hr
    refine Hid.mk ⟨_, Wk.refl _, ?_⟩
    try simp -implicitDefEqProofs (maxSteps := 999999) [-selQ_sel, h_1]
theorem laws_samePoints_ok0 (hm : Try.prog.follows .mixedOrders = true) : Sound Try.prog 191 laws_samePoints_x := by
 refine xOf_sound fun q r h => ?_
 obtain ⟨a0, a1⟩ := q
 refine fn_ok E0 hm Try.func191 rfl (by decide +kernel) (by rfl) fun Γ hn hk => ?_
 dsimp only [laws_samePoints_e, laws_samePoints_v]
 replace hn : Γ.n = 26 := hn
 replace hk : Γ.k = 0 := hk
 have H : HS (laws_samePoints a0 a1) r := h
 clear h; unfold laws_samePoints at H
 try simp -implicitDefEqProofs at H
 refine Tr.of_vc (cl := tabC []) (E := E0) [] tab_nil hm (by rw [hn]; decide +kernel) ?_
 try simp -implicitDefEqProofs +decide (maxSteps := 999999) [-selQ_sel, hokQ_of]
 refine Hid.brV (fun h_1 => ?_) (fun h_1 => ?_)
 ·replace H := HS.cnd_t h_1 H
  try simp -implicitDefEqProofs +decide (maxSteps := 999999) [-selQ_sel, hokQ_of, h_1]
  obtain ⟨q, h_2, H⟩ := HS.bnd H
  refine Hid.mk (Tr.weak (s' := (laws_samePoints_l0_S a0 a1) 0) (Wk.ofk [] hk (by rfl) (by simp -implicitDefEqProofs [laws_samePoints_l0_S, h_1]) (by simp -implicitDefEqProofs [laws_samePoints_l0_S, h_1])) ?_)
  refine wp_loop_of (S := (laws_samePoints_l0_S a0 a1)) (f := (laws_samePoints_l0 a0 a1)) (xt := (laws_samePoints_l0_X a0 a1)) ?_ ?_ h_2 ?_
  ·intro q; rcases q with ⟨⟩ | ⟨⟩ <;> simp [laws_samePoints_l0_X]
  ·clear H h_2 q
   rintro x3 o R hf hR
   have H : HS (laws_samePoints_l0 a0 a1 x3) o := hf
   clear hf; unfold laws_samePoints_l0 at H
   try simp -implicitDefEqProofs at H
   refine Tr.of_vc (cl := tabC []) (E := E0) [] tab_nil hm (by rw [hn]; decide +kernel) ?_
   try simp -implicitDefEqProofs +decide (maxSteps := 999999) [-selQ_sel, hokQ_of, laws_samePoints_l0_S]
   refine Hid.brV (fun h_3 => ?_) (fun h_3 => ?_)
   ·replace H := HS.cnd_t h_3 H
    try simp -implicitDefEqProofs +decide (maxSteps := 999999) [-selQ_sel, hokQ_of, h_3]
    have hr := (HS.some H).symm; subst hr
    exact Hid.mk ⟨(laws_samePoints_l0_X a0 a1 (.inl ())).2, Wk.ofk [] hk (by rfl) (by simp -implicitDefEqProofs [laws_samePoints_l0_X, h_3]) (by simp -implicitDefEqProofs [laws_samePoints_l0_X, h_3]), hR⟩
   ·replace H := HS.cnd_f h_3 H
    try simp -implicitDefEqProofs +decide (maxSteps := 999999) [-selQ_sel, hokQ_of, h_3]
    obtain ⟨v4, h_4, H⟩ := HS.bnd H
    try simp -implicitDefEqProofs +decide (maxSteps := 999999) [-selQ_sel, hokQ_of, h_3, h_4]
    obtain ⟨v5, h_5, H⟩ := HS.bnd H
    try simp -implicitDefEqProofs +decide (maxSteps := 999999) [-selQ_sel, hokQ_of, h_3, h_4, h_5]
    refine Hid.brV (fun h_6 => ?_) (fun h_6 => ?_)
    ·replace H := HS.cnd_t h_6 H
     try simp -implicitDefEqProofs +decide (maxSteps := 999999) [-selQ_sel, hokQ_of, h_3, h_4, h_5, h_6]
     have hr := (HS.some H).symm; subst hr
     exact Hid.mk ⟨laws_samePoints_l0_S a0 a1 (IntKind.i64.wrap (x3 + 1)), Wk.ofk [] hk (by rfl) (by simp -implicitDefEqProofs [laws_samePoints_l0_S, h_3, h_4, h_5, h_6]) (by simp -implicitDefEqProofs [laws_samePoints_l0_S, h_3, h_4, h_5, h_6]), hR⟩
    ·replace H := HS.cnd_f h_6 H
     try simp -implicitDefEqProofs +decide (maxSteps := 999999) [-selQ_sel, hokQ_of, h_3, h_4, h_5, h_6]
     have hr := (HS.some H).symm; subst hr
     exact Hid.mk ⟨(laws_samePoints_l0_X a0 a1 (.inr ())).2, Wk.ofk [] hk (by rfl) (by simp -implicitDefEqProofs [laws_samePoints_l0_X, h_3, h_4, h_5, h_6]) (by simp -implicitDefEqProofs [laws_samePoints_l0_X, h_3, h_4, h_5, h_6]), hR⟩
  ·rcases q with ⟨⟩ | ⟨⟩
   ·dsimp only at H
    try simp -implicitDefEqProofs +decide (maxSteps := 999999) [-selQ_sel, hokQ_of, h_1, laws_samePoints_l0_X]
    have hr := (HS.some H).symm; subst hr
    refine Hid.mk ⟨_, Wk.refl _, ?_⟩
    try simp -implicitDefEqProofs +decide (maxSteps := 999999) [-selQ_sel, hokQ_of, h_1]
   ·dsimp only at H
    try simp -implicitDefEqProofs +decide (maxSteps := 999999) [-selQ_sel, hokQ_of, h_1, laws_samePoints_l0_X]
    have hr := (HS.some H).symm; subst hr
    refine Hid.mk ⟨_, Wk.refl _, ?_⟩
    try simp -implicitDefEqProofs +decide (maxSteps := 999999) [-selQ_sel, hokQ_of, h_1]
 ·replace H := HS.cnd_f h_1 H
  try simp -implicitDefEqProofs +decide (maxSteps := 999999) [-selQ_sel, hokQ_of, h_1]
  have hr := (HS.some H).symm; subst hr
  refine Hid.mk ⟨_, Wk.refl _, ?_⟩
  try simp -implicitDefEqProofs +decide (maxSteps := 999999) [-selQ_sel, hokQ_of, h_1]
theorem spec_DepthOf_ok0 (hm : Try.prog.follows .mixedOrders = true) (k_spec_NodeAt : Sound Try.prog 119 spec_NodeAt_x) : Sound Try.prog 120 spec_DepthOf_x := by
 refine xOf_sound fun q r h => ?_
 obtain ⟨a0, a1⟩ := q
 refine fn_ok E0 hm Try.func120 rfl (by decide +kernel) (by rfl) fun Γ hn hk => ?_
 dsimp only [spec_DepthOf_e, spec_DepthOf_v]
 replace hn : Γ.n = 28 := hn
 replace hk : Γ.k = 0 := hk
 have H : HS (spec_DepthOf a0 a1) r := h
 clear h; unfold spec_DepthOf at H
 try simp -implicitDefEqProofs at H
 refine Tr.of_vc (cl := tabC [(119, spec_NodeAt_x)]) (E := E0) [] (tab_cons k_spec_NodeAt tab_nil) hm (by rw [hn]; decide +kernel) ?_
 try simp -implicitDefEqProofs (maxSteps := 999999) [-selQ_sel]
 obtain ⟨q, h_1, H⟩ := HS.bnd H
 refine Hid.mk (Tr.weak (s' := (spec_DepthOf_l0_S a0) (a1, 0, 0)) (Wk.ofk [0] hk (by rfl) (by simp -implicitDefEqProofs [spec_DepthOf_l0_S]) (by simp -implicitDefEqProofs [spec_DepthOf_l0_S])) ?_)
 refine wp_loop_of (S := (spec_DepthOf_l0_S a0)) (f := (spec_DepthOf_l0 a0)) (xt := (spec_DepthOf_l0_X a0)) ?_ ?_ h_1 ?_
 ·intro q; rcases q with y8 | ⟨⟩ <;> simp [spec_DepthOf_l0_X]
 ·clear H h_1 q
  rintro ⟨x3, x4, x5⟩ o R hf hR
  have H : HS (spec_DepthOf_l0 a0 (x3, x4, x5)) o := hf
  clear hf; unfold spec_DepthOf_l0 at H
  try simp -implicitDefEqProofs at H
  refine Tr.of_vc (cl := tabC [(119, spec_NodeAt_x)]) (E := E0) [] (tab_cons k_spec_NodeAt tab_nil) hm (by rw [hn]; decide +kernel) ?_
  try simp -implicitDefEqProofs (maxSteps := 999999) [-selQ_sel, spec_DepthOf_l0_S]
  refine Hid.brV (fun h_2 => ?_) (fun h_2 => ?_)
  ·replace H := HS.cnd_t h_2 H
   try simp -implicitDefEqProofs (maxSteps := 999999) [-selQ_sel, h_2]
   refine Hid.brV (fun h_3 => ?_) (fun h_3 => ?_)
   ·replace H := HS.cnd_t h_3 H
    try simp -implicitDefEqProofs (maxSteps := 999999) [-selQ_sel, h_2, h_3]
    have hr := (HS.some H).symm; subst hr
    exact Hid.mk ⟨(spec_DepthOf_l0_X a0 (.inl x4)).2, Wk.ofk [] hk (by rfl) (by simp -implicitDefEqProofs [spec_DepthOf_l0_X, h_2, h_3]) (by simp -implicitDefEqProofs [spec_DepthOf_l0_X, h_2, h_3]), hR⟩
   ·replace H := HS.cnd_f h_3 H
    try simp -implicitDefEqProofs (maxSteps := 999999) [-selQ_sel, h_2, h_3]
    obtain ⟨v6, h_4, H⟩ := HS.bnd H
    try simp -implicitDefEqProofs (maxSteps := 999999) [-selQ_sel, h_2, h_3, h_4]
    refine Hid.brV (fun h_5 => ?_) (fun h_5 => ?_)
    ·replace H := HS.cnd_t h_5 H
     try simp -implicitDefEqProofs (maxSteps := 999999) [-selQ_sel, h_2, h_3, h_4, h_5]
     obtain ⟨v7, h_6, H⟩ := HS.bnd H
     try simp -implicitDefEqProofs (maxSteps := 999999) [-selQ_sel, h_2, h_3, h_4, h_5, h_6]
     have hr := (HS.some H).symm; subst hr
     exact Hid.mk ⟨spec_DepthOf_l0_S a0 (v7.parent, (IntKind.i64.wrap (x4 + 1)), (IntKind.i64.wrap (x5 + 1))), Wk.ofk [0] hk (by rfl) (by simp -implicitDefEqProofs [spec_DepthOf_l0_S, h_2, h_3, h_4, h_5, h_6]) (by simp -implicitDefEqProofs [spec_DepthOf_l0_S, h_2, h_3, h_4, h_5, h_6]), hR⟩
    ·replace H := HS.cnd_f h_5 H
     try simp -implicitDefEqProofs (maxSteps := 999999) [-selQ_sel, h_2, h_3, h_4, h_5]
     have hr := (HS.some H).symm; subst hr
     exact Hid.mk ⟨(spec_DepthOf_l0_X a0 (.inl 0)).2, Wk.ofk [] hk (by rfl) (by simp -implicitDefEqProofs [spec_DepthOf_l0_X, h_2, h_3, h_4, h_5]) (by simp -implicitDefEqProofs [spec_DepthOf_l0_X, h_2, h_3, h_4, h_5]), hR⟩
  ·replace H := HS.cnd_f h_2 H
   try simp -implicitDefEqProofs (maxSteps := 999999) [-selQ_sel, h_2]
   have hr := (HS.some H).symm; subst hr
   exact Hid.mk ⟨(spec_DepthOf_l0_X a0 (.inr ())).2, Wk.ofk [] hk (by rfl) (by simp -implicitDefEqProofs [spec_DepthOf_l0_X, h_2]) (by simp -implicitDefEqProofs [spec_DepthOf_l0_X, h_2]), hR⟩
 ·rcases q with y8 | ⟨⟩
  ·dsimp only at H
   try simp -implicitDefEqProofs (maxSteps := 999999) [-selQ_sel, spec_DepthOf_l0_X]
   have hr := (HS.some H).symm; subst hr
   refine Hid.mk ⟨_, Wk.refl _, ?_⟩
   try simp -implicitDefEqProofs (maxSteps := 999999) [-selQ_sel]
  ·dsimp only at H
   try simp -implicitDefEqProofs (maxSteps := 999999) [-selQ_sel, spec_DepthOf_l0_X]
   have hr := (HS.some H).symm; subst hr
   refine Hid.mk ⟨_, Wk.refl _, ?_⟩
   try simp -implicitDefEqProofs (maxSteps := 999999) [-selQ_sel]
theorem slices_IndexFunc_Node_NodeAt_1_ok0 (hm : Try.prog.follows .mixedOrders = true) (k_impl_NodeAt_1 : Sound Try.prog 128 impl_NodeAt_1_x) : Sound Try.prog 127 slices_IndexFunc_Node_NodeAt_1_x := by
 refine xOf_sound fun q r h => ?_
 obtain ⟨a0, a1⟩ := q
 refine fn_ok E0 hm Try.func127 rfl (by decide +kernel) (by rfl) fun Γ hn hk => ?_
 dsimp only [slices_IndexFunc_Node_NodeAt_1_e, slices_IndexFunc_Node_NodeAt_1_v]
 replace hn : Γ.n = 19 := hn
 replace hk : Γ.k = 0 := hk
 have H : HS (slices_IndexFunc_Node_NodeAt_1 a0 a1) r := h
 clear h; unfold slices_IndexFunc_Node_NodeAt_1 at H
 try simp -implicitDefEqProofs at H
 refine Tr.of_vc (cl := tabC [(128, impl_NodeAt_1_x)]) (E := E0) [] (tab_cons k_impl_NodeAt_1 tab_nil) hm (by rw [hn]; decide +kernel) ?_
 try simp -implicitDefEqProofs (maxSteps := 999999) [-selQ_sel]
 obtain ⟨q, h_1, H⟩ := HS.bnd H
 refine Hid.mk (Tr.weak (s' := (slices_IndexFunc_Node_NodeAt_1_l0_S a0 a1) 0) (Wk.ofk [] hk (by rfl) (by simp -implicitDefEqProofs [slices_IndexFunc_Node_NodeAt_1_l0_S]) (by simp -implicitDefEqProofs [slices_IndexFunc_Node_NodeAt_1_l0_S])) ?_)
 refine wp_loop_of (S := (slices_IndexFunc_Node_NodeAt_1_l0_S a0 a1)) (f := (slices_IndexFunc_Node_NodeAt_1_l0 a0 a1)) (xt := (slices_IndexFunc_Node_NodeAt_1_l0_X a0 a1)) ?_ ?_ h_1 ?_
 ·intro q; rcases q with ⟨⟩ | y6 <;> simp [slices_IndexFunc_Node_NodeAt_1_l0_X]
 ·clear H h_1 q
  rintro x3 o R hf hR
  have H : HS (slices_IndexFunc_Node_NodeAt_1_l0 a0 a1 x3) o := hf
  clear hf; unfold slices_IndexFunc_Node_NodeAt_1_l0 at H
  try simp -implicitDefEqProofs at H
  refine Tr.of_vc (cl := tabC [(128, impl_NodeAt_1_x)]) (E := E0) [] (tab_cons k_impl_NodeAt_1 tab_nil) hm (by rw [hn]; decide +kernel) ?_
  try simp -implicitDefEqProofs (maxSteps := 999999) [-selQ_sel, slices_IndexFunc_Node_NodeAt_1_l0_S]
  refine Hid.brV (fun h_2 => ?_) (fun h_2 => ?_)
  ·replace H := HS.cnd_t h_2 H
   try simp -implicitDefEqProofs (maxSteps := 999999) [-selQ_sel, h_2]
   have hr := (HS.some H).symm; subst hr
   exact Hid.mk ⟨(slices_IndexFunc_Node_NodeAt_1_l0_X a0 a1 (.inl ())).2, Wk.ofk [] hk (by rfl) (by simp -implicitDefEqProofs [slices_IndexFunc_Node_NodeAt_1_l0_X, h_2]) (by simp -implicitDefEqProofs [slices_IndexFunc_Node_NodeAt_1_l0_X, h_2]), hR⟩
  ·replace H := HS.cnd_f h_2 H
   try simp -implicitDefEqProofs (maxSteps := 999999) [-selQ_sel, h_2]
   obtain ⟨v4, h_3, H⟩ := HS.bnd H
   try simp -implicitDefEqProofs (maxSteps := 999999) [-selQ_sel, h_2, h_3]
   obtain ⟨v5, h_4, H⟩ := HS.bnd H
   try simp -implicitDefEqProofs (maxSteps := 999999) [-selQ_sel, h_2, h_3, h_4]
   refine Hid.brV (fun h_5 => ?_) (fun h_5 => ?_)
   ·replace H := HS.cnd_t h_5 H
    try simp -implicitDefEqProofs (maxSteps := 999999) [-selQ_sel, h_2, h_3, h_4, h_5]
    have hr := (HS.some H).symm; subst hr
    exact Hid.mk ⟨(slices_IndexFunc_Node_NodeAt_1_l0_X a0 a1 (.inr x3)).2, Wk.ofk [] hk (by rfl) (by simp -implicitDefEqProofs [slices_IndexFunc_Node_NodeAt_1_l0_X, h_2, h_3, h_4, h_5]) (by simp -implicitDefEqProofs [slices_IndexFunc_Node_NodeAt_1_l0_X, h_2, h_3, h_4, h_5]), hR⟩
   ·replace H := HS.cnd_f h_5 H
    try simp -implicitDefEqProofs (maxSteps := 999999) [-selQ_sel, h_2, h_3, h_4, h_5]
    have hr := (HS.some H).symm; subst hr
    exact Hid.mk ⟨slices_IndexFunc_Node_NodeAt_1_l0_S a0 a1 (IntKind.i64.wrap (x3 + 1)), Wk.ofk [] hk (by rfl) (by simp -implicitDefEqProofs [slices_IndexFunc_Node_NodeAt_1_l0_S, h_2, h_3, h_4, h_5]) (by simp -implicitDefEqProofs [slices_IndexFunc_Node_NodeAt_1_l0_S, h_2, h_3, h_4, h_5]), hR⟩
 ·rcases q with ⟨⟩ | y6
  ·dsimp only at H
   try simp -implicitDefEqProofs (maxSteps := 999999) [-selQ_sel, slices_IndexFunc_Node_NodeAt_1_l0_X]
   have hr := (HS.some H).symm; subst hr
   refine Hid.mk ⟨_, Wk.refl _, ?_⟩
   try simp -implicitDefEqProofs (maxSteps := 999999) [-selQ_sel]
  ·dsimp only at H
   try simp -implicitDefEqProofs (maxSteps := 999999) [-selQ_sel, slices_IndexFunc_Node_NodeAt_1_l0_X]
   have hr := (HS.some H).symm; subst hr
   refine Hid.mk ⟨_, Wk.refl _, ?_⟩
   try simp -implicitDefEqProofs (maxSteps := 999999) [-selQ_sel]
theorem slices_Index_int_ok0 (hm : Try.prog.follows .mixedOrders = true) : Sound Try.prog 159 slices_Index_int_x := by
 refine xOf_sound fun q r h => ?_
 obtain ⟨a0, a1⟩ := q
 refine fn_ok E0 hm Try.func159 rfl (by decide +kernel) (by rfl) fun Γ hn hk => ?_
 dsimp only [slices_Index_int_e, slices_Index_int_v]
 replace hn : Γ.n = 19 := hn
 replace hk : Γ.k = 0 := hk
 have H : HS (slices_Index_int a0 a1) r := h
 clear h; unfold slices_Index_int at H
 try simp -implicitDefEqProofs at H
 refine Tr.of_vc (cl := tabC []) (E := E0) [] tab_nil hm (by rw [hn]; decide +kernel) ?_
 try simp -implicitDefEqProofs (maxSteps := 999999) [-selQ_sel]
 obtain ⟨q, h_1, H⟩ := HS.bnd H
 refine Hid.mk (Tr.weak (s' := (slices_Index_int_l0_S a0 a1) 0) (Wk.ofk [] hk (by rfl) (by simp -implicitDefEqProofs [slices_Index_int_l0_S]) (by simp -implicitDefEqProofs [slices_Index_int_l0_S])) ?_)
 refine wp_loop_of (S := (slices_Index_int_l0_S a0 a1)) (f := (slices_Index_int_l0 a0 a1)) (xt := (slices_Index_int_l0_X a0 a1)) ?_ ?_ h_1 ?_
 ·intro q; rcases q with ⟨⟩ | y4 <;> simp [slices_Index_int_l0_X]
 ·clear H h_1 q
  rintro x2 o R hf hR
  have H : HS (slices_Index_int_l0 a0 a1 x2) o := hf
  clear hf; unfold slices_Index_int_l0 at H
  try simp -implicitDefEqProofs at H
  refine Tr.of_vc (cl := tabC []) (E := E0) [] tab_nil hm (by rw [hn]; decide +kernel) ?_
  try simp -implicitDefEqProofs (maxSteps := 999999) [-selQ_sel, slices_Index_int_l0_S]
  refine Hid.brV (fun h_2 => ?_) (fun h_2 => ?_)
  ·replace H := HS.cnd_t h_2 H
   try simp -implicitDefEqProofs (maxSteps := 999999) [-selQ_sel, h_2]
   have hr := (HS.some H).symm; subst hr
   exact Hid.mk ⟨(slices_Index_int_l0_X a0 a1 (.inl ())).2, Wk.ofk [] hk (by rfl) (by simp -implicitDefEqProofs [slices_Index_int_l0_X, h_2]) (by simp -implicitDefEqProofs [slices_Index_int_l0_X, h_2]), hR⟩
  ·replace H := HS.cnd_f h_2 H
   try simp -implicitDefEqProofs (maxSteps := 999999) [-selQ_sel, h_2]
   obtain ⟨v3, h_3, H⟩ := HS.bnd H
   try simp -implicitDefEqProofs (maxSteps := 999999) [-selQ_sel, h_2, h_3]
   refine Hid.brV (fun h_4 => ?_) (fun h_4 => ?_)
   ·replace H := HS.cnd_t h_4 H
    try simp -implicitDefEqProofs (maxSteps := 999999) [-selQ_sel, h_2, h_3, h_4]
    have hr := (HS.some H).symm; subst hr
    exact Hid.mk ⟨(slices_Index_int_l0_X a0 a1 (.inr x2)).2, Wk.ofk [] hk (by rfl) (by simp -implicitDefEqProofs [slices_Index_int_l0_X, h_2, h_3, h_4]) (by simp -implicitDefEqProofs [slices_Index_int_l0_X, h_2, h_3, h_4]), hR⟩
   ·replace H := HS.cnd_f h_4 H
    try simp -implicitDefEqProofs (maxSteps := 999999) [-selQ_sel, h_2, h_3, h_4]
    have hr := (HS.some H).symm; subst hr
    exact Hid.mk ⟨slices_Index_int_l0_S a0 a1 (IntKind.i64.wrap (x2 + 1)), Wk.ofk [] hk (by rfl) (by simp -implicitDefEqProofs [slices_Index_int_l0_S, h_2, h_3, h_4]) (by simp -implicitDefEqProofs [slices_Index_int_l0_S, h_2, h_3, h_4]), hR⟩
 ·rcases q with ⟨⟩ | y4
  ·dsimp only at H
   try simp -implicitDefEqProofs (maxSteps := 999999) [-selQ_sel, slices_Index_int_l0_X]
   have hr := (HS.some H).symm; subst hr
   refine Hid.mk ⟨_, Wk.refl _, ?_⟩
   try simp -implicitDefEqProofs (maxSteps := 999999) [-selQ_sel]
  ·dsimp only at H
   try simp -implicitDefEqProofs (maxSteps := 999999) [-selQ_sel, slices_Index_int_l0_X]
   have hr := (HS.some H).symm; subst hr
   refine Hid.mk ⟨_, Wk.refl _, ?_⟩
   try simp -implicitDefEqProofs (maxSteps := 999999) [-selQ_sel]
theorem spec_l01New_ok0 (hm : Try.prog.follows .mixedOrders = true) : Sound Try.prog 104 spec_l01New_x := by
 refine xOf_sound fun q r h => ?_
 revert h; revert r; revert q; intro a0 r h
 refine fn_ok E0 hm Try.func104 rfl (by decide +kernel) (by rfl) fun Γ hn hk => ?_
 dsimp only [spec_l01New_e, spec_l01New_v]
 replace hn : Γ.n = 32 := hn
 replace hk : Γ.k = 0 := hk
 have H : HS (spec_l01New a0) r := h
 clear h; unfold spec_l01New at H
 try simp -implicitDefEqProofs at H
 refine Tr.of_vc (cl := tabC []) (E := E0) [] tab_nil hm (by rw [hn]; decide +kernel) ?_
 try simp -implicitDefEqProofs (maxSteps := 999999) [-selQ_sel]
 obtain ⟨q, h_1, H⟩ := HS.bnd H
 refine Hid.mk (Tr.weak (s' := (spec_l01New_l0_S a0) ((IntKind.i64.wrap (28001 + (List.length a0 : Int))), 0)) (Wk.ofk [] hk (by rfl) (by simp -implicitDefEqProofs [spec_l01New_l0_S]) (by simp -implicitDefEqProofs [spec_l01New_l0_S])) ?_)
 refine wp_loop_of (S := (spec_l01New_l0_S a0)) (f := (spec_l01New_l0 a0)) (xt := (spec_l01New_l0_X a0)) ?_ ?_ h_1 ?_
 ·intro q; simp [spec_l01New_l0_X]
 ·clear H h_1 q
  rintro ⟨x2, x3⟩ o R hf hR
  have H : HS (spec_l01New_l0 a0 (x2, x3)) o := hf
  clear hf; unfold spec_l01New_l0 at H
  try simp -implicitDefEqProofs at H
  refine Tr.of_vc (cl := tabC []) (E := E0) [] tab_nil hm (by rw [hn]; decide +kernel) ?_
  try simp -implicitDefEqProofs (maxSteps := 999999) [-selQ_sel, spec_l01New_l0_S]
  refine Hid.selQ (fun h_2 => ?_) (fun h_2 => ?_)
  ·replace H := HS.cnd_t h_2 H
   try simp -implicitDefEqProofs (maxSteps := 999999) [-selQ_sel, h_2]
   have hr := (HS.some H).symm; subst hr
   exact Hid.mk ⟨(spec_l01New_l0_X a0 x2).2, Wk.ofk [] hk (by rfl) (by simp -implicitDefEqProofs [spec_l01New_l0_X, h_2]) (by simp -implicitDefEqProofs [spec_l01New_l0_X, h_2]), hR⟩
  ·replace H := HS.cnd_f h_2 H
   try simp -implicitDefEqProofs (maxSteps := 999999) [-selQ_sel, h_2]
   refine Hid.brV (fun h_3 => ?_) (fun h_3 => ?_)
   ·replace H := HS.cnd_t h_3 H
    try simp -implicitDefEqProofs (maxSteps := 999999) [-selQ_sel, h_2, h_3]
    have hr := (HS.some H).symm; subst hr
    exact Hid.mk ⟨(spec_l01New_l0_X a0 x2).2, Wk.ofk [] hk (by rfl) (by simp -implicitDefEqProofs [spec_l01New_l0_X, h_2, h_3]) (by simp -implicitDefEqProofs [spec_l01New_l0_X, h_2, h_3]), hR⟩
   ·replace H := HS.cnd_f h_3 H
    try simp -implicitDefEqProofs (maxSteps := 999999) [-selQ_sel, h_2, h_3]
    obtain ⟨v4, h_4, H⟩ := HS.bnd H
    try simp -implicitDefEqProofs (maxSteps := 999999) [-selQ_sel, h_2, h_3, h_4]
    have hr := (HS.some H).symm; subst hr
    exact Hid.mk ⟨spec_l01New_l0_S a0 ((andI .i64 (IntKind.i64.wrap ((IntKind.i64.wrap ((IntKind.i64.wrap (x2 * 131)) + (IntKind.i64.wrap v4))) + 7)) 1073741823), (IntKind.i64.wrap (x3 + 1))), Wk.ofk [] hk (by rfl) (by simp -implicitDefEqProofs [spec_l01New_l0_S, h_2, h_3, h_4]) (by simp -implicitDefEqProofs [spec_l01New_l0_S, h_2, h_3, h_4]), hR⟩
 ·revert H h_1; revert q; intro y5 h_1 H
  try dsimp only at H
  try simp -implicitDefEqProofs (maxSteps := 999999) [-selQ_sel, spec_l01New_l0_X]
  have hr := (HS.some H).symm; subst hr
  refine Hid.mk ⟨⟨[(2, AV.optr 0 0 3)], [(0, Ob.box [AV.fsl (List.map (AV.int .u8) a0), AV.int .i64 0, AV.int .i64 y5])], 1⟩, Wk.ofk [0] hk (by rfl) (by simp -implicitDefEqProofs []) (by simp -implicitDefEqProofs []), ?_⟩
  try simp -implicitDefEqProofs (maxSteps := 999999) [-selQ_sel]
theorem spec_l12Paint_ok0 (hm : Try.prog.follows .mixedOrders = true) (k_spec_l12Color : Sound Try.prog 216 spec_l12Color_x) (k_spec_l01Once : Sound Try.prog 170 spec_l01Once_x) (k_spec_l04Point : Sound Try.prog 214 spec_l04Point_x) : Sound Try.prog 174 spec_l12Paint_x := by
 refine xOf_sound fun q r h => ?_
 revert h; revert r; revert q; intro a0 r h
 refine fn_ok E0 hm Try.func174 rfl (by decide +kernel) (by rfl) fun Γ hn hk => ?_
 dsimp only [spec_l12Paint_e, spec_l12Paint_v]
 replace hn : Γ.n = 31 := hn
 replace hk : Γ.k = 1 := hk
 have H : HS (spec_l12Paint a0) r := h
 clear h; unfold spec_l12Paint at H
 try simp -implicitDefEqProofs at H
 refine Tr.of_vc (cl := tabC [(216, spec_l12Color_x), (170, spec_l01Once_x), (214, spec_l04Point_x)]) (E := E0) [] (tab_cons k_spec_l12Color (tab_cons k_spec_l01Once (tab_cons k_spec_l04Point tab_nil))) hm (by rw [hn]; decide +kernel) ?_
 try simp -implicitDefEqProofs (maxSteps := 999999) [-selQ_sel]
 obtain ⟨⟨w2, w3⟩, h_1, H⟩ := HS.bnd H
 dsimp only at H
 try simp -implicitDefEqProofs (maxSteps := 999999) [-selQ_sel, h_1]
 obtain ⟨⟨w5, w6⟩, h_2, H⟩ := HS.bnd H
 dsimp only at H
 try simp -implicitDefEqProofs (maxSteps := 999999) [-selQ_sel, h_1, h_2]
 refine Hid.brV (fun h_3 => ?_) (fun h_3 => ?_)
 ·replace H := HS.cnd_t h_3 H
  try simp -implicitDefEqProofs (maxSteps := 999999) [-selQ_sel, h_1, h_2, h_3]
  obtain ⟨⟨w8, w9⟩, h_4, H⟩ := HS.bnd H
  dsimp only at H
  try simp -implicitDefEqProofs (maxSteps := 999999) [-selQ_sel, h_1, h_2, h_3, h_4]
  obtain ⟨⟨w11, w12⟩, h_5, H⟩ := HS.bnd H
  dsimp only at H
  try simp -implicitDefEqProofs (maxSteps := 999999) [-selQ_sel, h_1, h_2, h_3, h_4, h_5]
  obtain ⟨⟨w14, w15⟩, h_6, H⟩ := HS.bnd H
  dsimp only at H
  try simp -implicitDefEqProofs (maxSteps := 999999) [-selQ_sel, h_1, h_2, h_3, h_4, h_5, h_6]
  refine Hid.brV (fun h_7 => ?_) (fun h_7 => ?_)
  ·replace H := HS.cnd_t h_7 H
   try simp -implicitDefEqProofs (maxSteps := 999999) [-selQ_sel, h_1, h_2, h_3, h_4, h_5, h_6, h_7]
   have hr := (HS.some H).symm; subst hr
   refine Hid.mk ⟨_, Wk.refl _, ?_⟩
   try simp -implicitDefEqProofs (maxSteps := 999999) [-selQ_sel, h_1, h_2, h_3, h_4, h_5, h_6, h_7]
  ·replace H := HS.cnd_f h_7 H
   try simp -implicitDefEqProofs (maxSteps := 999999) [-selQ_sel, h_1, h_2, h_3, h_4, h_5, h_6, h_7]
   have hr := (HS.some H).symm; subst hr
   refine Hid.mk ⟨_, Wk.refl _, ?_⟩
   try simp -implicitDefEqProofs (maxSteps := 999999) [-selQ_sel, h_1, h_2, h_3, h_4, h_5, h_6, h_7]
 ·replace H := HS.cnd_f h_3 H
  try simp -implicitDefEqProofs (maxSteps := 999999) [-selQ_sel, h_1, h_2, h_3]
  have hr := (HS.some H).symm; subst hr
  refine Hid.mk ⟨_, Wk.refl _, ?_⟩
  try simp -implicitDefEqProofs (maxSteps := 999999) [-selQ_sel, h_1, h_2, h_3]
theorem spec_l15CopyPath_ok0 (hm : Try.prog.follows .mixedOrders = true) : Sound Try.prog 189 spec_l15CopyPath_x := by
 refine xOf_sound fun q r h => ?_
 revert h; revert r; revert q; intro a0 r h
 refine fn_ok E0 hm Try.func189 rfl (by decide +kernel) (by rfl) fun Γ hn hk => ?_
 dsimp only [spec_l15CopyPath_e, spec_l15CopyPath_v]
 replace hn : Γ.n = 12 := hn
 replace hk : Γ.k = 0 := hk
 have H : HS (spec_l15CopyPath a0) r := h
 clear h; unfold spec_l15CopyPath at H
 try simp -implicitDefEqProofs at H
 refine Tr.of_vc (cl := tabC []) (E := E0) [] tab_nil hm (by rw [hn]; decide +kernel) ?_
 try simp -implicitDefEqProofs +decide (maxSteps := 999999) [-selQ_sel, hokQ_of]
 obtain ⟨h_1, H⟩ := HS.chkP H
 try simp -implicitDefEqProofs +decide (maxSteps := 999999) [-selQ_sel, hokQ_of, h_1]
 obtain ⟨l1, h_2, H⟩ := HS.nam H
 have m_3 := congrArg (List.map (AV.int .i64)) h_2
 have q_4 := congrArg List.length h_2
 simp -implicitDefEqProofs at m_3 q_4
 try simp only [q_4] at m_3
 try simp only [q_4] at h_1
 try simp -implicitDefEqProofs +decide (maxSteps := 999999) [-selQ_sel, hokQ_of, h_1, m_3, q_4]
 obtain ⟨h_5, H⟩ := HS.chkP H
 try simp -implicitDefEqProofs +decide (maxSteps := 999999) [-selQ_sel, hokQ_of, h_1, m_3, q_4, h_5]
 obtain ⟨l2, h_6, H⟩ := HS.nam H
 have m_7 := congrArg (List.map ePoint) h_6
 have q_8 := congrArg List.length h_6
 simp -implicitDefEqProofs at m_7 q_8
 try simp only [q_8] at m_7
 try simp only [q_8] at h_5
 try simp -implicitDefEqProofs +decide (maxSteps := 999999) [-selQ_sel, hokQ_of, h_1, m_3, q_4, h_5, m_7, q_8]
 have hr := (HS.some H).symm; subst hr
 refine Hid.mk ⟨_, Wk.refl _, ?_⟩
 try simp -implicitDefEqProofs +decide (maxSteps := 999999) [-selQ_sel, hokQ_of, h_1, m_3, q_4, h_5, m_7, q_8]
theorem laws_samePath_ok0 (hm : Try.prog.follows .mixedOrders = true) (k_laws_sameInts : Sound Try.prog 108 laws_sameInts_x) (k_laws_samePoints : Sound Try.prog 191 laws_samePoints_x) : Sound Try.prog 125 laws_samePath_x := by
 refine xOf_sound fun q r h => ?_
 obtain ⟨a0, a1⟩ := q
 refine fn_ok E0 hm Try.func125 rfl (by decide +kernel) (by rfl) fun Γ hn hk => ?_
 dsimp only [laws_samePath_e, laws_samePath_v]
 replace hn : Γ.n = 17 := hn
 replace hk : Γ.k = 0 := hk
 have H : HS (laws_samePath a0 a1) r := h
 clear h; unfold laws_samePath at H
 try simp -implicitDefEqProofs at H
 refine Tr.of_vc (cl := tabC [(108, laws_sameInts_x), (191, laws_samePoints_x)]) (E := E0) [] (tab_cons k_laws_sameInts (tab_cons k_laws_samePoints tab_nil)) hm (by rw [hn]; decide +kernel) ?_
 try simp -implicitDefEqProofs (maxSteps := 999999) [-selQ_sel]
 obtain ⟨v1, h_1, H⟩ := HS.bnd H
 try simp -implicitDefEqProofs (maxSteps := 999999) [-selQ_sel, h_1]
 refine Hid.selQ (fun h_2 => ?_) (fun h_2 => ?_)
 ·replace H := HS.cnd_t h_2 H
  try simp -implicitDefEqProofs (maxSteps := 999999) [-selQ_sel, h_1, h_2]
  obtain ⟨v2, h_3, H⟩ := HS.bnd H
  try simp -implicitDefEqProofs (maxSteps := 999999) [-selQ_sel, h_1, h_2, h_3]
  have hr := (HS.some H).symm; subst hr
  refine Hid.mk ⟨_, Wk.refl _, ?_⟩
  try simp -implicitDefEqProofs (maxSteps := 999999) [-selQ_sel, h_1, h_2, h_3]
 ·replace H := HS.cnd_f h_2 H
  try simp -implicitDefEqProofs (maxSteps := 999999) [-selQ_sel, h_1, h_2]
  have hr := (HS.some H).symm; subst hr
  refine Hid.mk ⟨_, Wk.refl _, ?_⟩
  try simp -implicitDefEqProofs (maxSteps := 999999) [-selQ_sel, h_1, h_2]
theorem spec_PointOk_ok0 (hm : Try.prog.follows .mixedOrders = true) (k_spec_l01In : Sound Try.prog 91 spec_l01In_x) : Sound Try.prog 222 spec_PointOk_x := by
 refine xOf_sound fun q r h => ?_
 revert h; revert r; revert q; intro a0 r h
 refine fn_ok E0 hm Try.func222 rfl (by decide +kernel) (by rfl) fun Γ hn hk => ?_
 dsimp only [spec_PointOk_e, spec_PointOk_v]
 replace hn : Γ.n = 11 := hn
 replace hk : Γ.k = 0 := hk
 have H : HS (spec_PointOk a0) r := h
 clear h; unfold spec_PointOk at H
 try simp -implicitDefEqProofs at H
 refine Tr.of_vc (cl := tabC [(91, spec_l01In_x)]) (E := E0) [] (tab_cons k_spec_l01In tab_nil) hm (by rw [hn]; decide +kernel) ?_
 try simp -implicitDefEqProofs (maxSteps := 999999) [-selQ_sel]
 obtain ⟨v1, h_1, H⟩ := HS.bnd H
 try simp -implicitDefEqProofs (maxSteps := 999999) [-selQ_sel, h_1]
 refine Hid.selQ (fun h_2 => ?_) (fun h_2 => ?_)
 ·replace H := HS.cnd_t h_2 H
  try simp -implicitDefEqProofs (maxSteps := 999999) [-selQ_sel, h_1, h_2]
  obtain ⟨v2, h_3, H⟩ := HS.bnd H
  try simp -implicitDefEqProofs (maxSteps := 999999) [-selQ_sel, h_1, h_2, h_3]
  have hr := (HS.some H).symm; subst hr
  refine Hid.mk ⟨_, Wk.refl _, ?_⟩
  try simp -implicitDefEqProofs (maxSteps := 999999) [-selQ_sel, h_1, h_2, h_3]
 ·replace H := HS.cnd_f h_2 H
  try simp -implicitDefEqProofs (maxSteps := 999999) [-selQ_sel, h_1, h_2]
  have hr := (HS.some H).symm; subst hr
  refine Hid.mk ⟨_, Wk.refl _, ?_⟩
  try simp -implicitDefEqProofs (maxSteps := 999999) [-selQ_sel, h_1, h_2]
theorem spec_l01Byte_ok0 (hm : Try.prog.follows .mixedOrders = true) : Sound Try.prog 106 spec_l01Byte_x := by
 refine xOf_sound fun q r h => ?_
 revert h; revert r; revert q; intro a0 r h
 refine fn_ok E0 hm Try.func106 rfl (by decide +kernel) (by rfl) fun Γ hn hk => ?_
 dsimp only [spec_l01Byte_e, spec_l01Byte_v]
 replace hn : Γ.n = 58 := hn
 replace hk : Γ.k = 1 := hk
 have H : HS (spec_l01Byte a0) r := h
 clear h; unfold spec_l01Byte at H
 try simp -implicitDefEqProofs at H
 refine Tr.of_vc (cl := tabC []) (E := E0) [] tab_nil hm (by rw [hn]; decide +kernel) ?_
 try simp -implicitDefEqProofs +decide (maxSteps := 999999) [-selQ_sel, hokQ_of]
 refine Hid.brV (fun h_1 => ?_) (fun h_1 => ?_)
 ·replace H := HS.cnd_t h_1 H
  try simp -implicitDefEqProofs +decide (maxSteps := 999999) [-selQ_sel, hokQ_of, h_1]
  have hr := (HS.some H).symm; subst hr
  refine Hid.mk ⟨_, Wk.refl _, ?_⟩
  try simp -implicitDefEqProofs +decide (maxSteps := 999999) [-selQ_sel, hokQ_of, h_1]
 ·replace H := HS.cnd_f h_1 H
  try simp -implicitDefEqProofs +decide (maxSteps := 999999) [-selQ_sel, hokQ_of, h_1]
  obtain ⟨v1, h_2, H⟩ := HS.bnd H
  try simp -implicitDefEqProofs +decide (maxSteps := 999999) [-selQ_sel, hokQ_of, h_1, h_2]
  have hr := (HS.some H).symm; subst hr
  refine Hid.mk ⟨_, Wk.refl _, ?_⟩
  try simp -implicitDefEqProofs +decide (maxSteps := 999999) [-selQ_sel, hokQ_of, h_1, h_2]
theorem impl_Path_isNone_ok0 (hm : Try.prog.follows .mixedOrders = true) : Sound Try.prog 180 impl_Path_isNone_x := by
 refine xOf_sound fun q r h => ?_
 revert h; revert r; revert q; intro a0 r h
 refine fn_ok E0 hm Try.func180 rfl (by decide +kernel) (by rfl) fun Γ hn hk => ?_
 dsimp only [impl_Path_isNone_e, impl_Path_isNone_v]
 replace hn : Γ.n = 13 := hn
 replace hk : Γ.k = 0 := hk
 have H : HS (impl_Path_isNone a0) r := h
 clear h; unfold impl_Path_isNone at H
 try simp -implicitDefEqProofs at H
 refine Tr.of_vc (cl := tabC []) (E := E0) [] tab_nil hm (by rw [hn]; decide +kernel) ?_
 try simp -implicitDefEqProofs (maxSteps := 999999) [-selQ_sel]
 refine Hid.selQ (fun h_1 => ?_) (fun h_1 => ?_)
 ·replace H := HS.cnd_t h_1 H
  try simp -implicitDefEqProofs (maxSteps := 999999) [-selQ_sel, h_1]
  have hr := (HS.some H).symm; subst hr
  refine Hid.mk ⟨_, Wk.refl _, ?_⟩
  try simp -implicitDefEqProofs (maxSteps := 999999) [-selQ_sel, h_1]
 ·replace H := HS.cnd_f h_1 H
  try simp -implicitDefEqProofs (maxSteps := 999999) [-selQ_sel, h_1]
  have hr := (HS.some H).symm; subst hr
  refine Hid.mk ⟨_, Wk.refl _, ?_⟩
  try simp -implicitDefEqProofs (maxSteps := 999999) [-selQ_sel, h_1]
theorem spec_l01In_ok0 (hm : Try.prog.follows .mixedOrders = true) : Sound Try.prog 91 spec_l01In_x := by
 refine xOf_sound fun q r h => ?_
 obtain ⟨a0, a1, a2⟩ := q
 refine fn_ok E0 hm Try.func91 rfl (by decide +kernel) (by rfl) fun Γ hn hk => ?_
 dsimp only [spec_l01In_e, spec_l01In_v]
 replace hn : Γ.n = 15 := hn
 replace hk : Γ.k = 0 := hk
 have H : HS (spec_l01In a0 a1 a2) r := h
 clear h; unfold spec_l01In at H
 try simp -implicitDefEqProofs at H
 refine Tr.of_vc (cl := tabC []) (E := E0) [] tab_nil hm (by rw [hn]; decide +kernel) ?_
 try simp -implicitDefEqProofs (maxSteps := 999999) [-selQ_sel]
 refine Hid.selQ (fun h_1 => ?_) (fun h_1 => ?_)
 ·replace H := HS.cnd_t h_1 H
  try simp -implicitDefEqProofs (maxSteps := 999999) [-selQ_sel, h_1]
  have hr := (HS.some H).symm; subst hr
  refine Hid.mk ⟨_, Wk.refl _, ?_⟩
  try simp -implicitDefEqProofs (maxSteps := 999999) [-selQ_sel, h_1]
 ·replace H := HS.cnd_f h_1 H
  try simp -implicitDefEqProofs (maxSteps := 999999) [-selQ_sel, h_1]
  have hr := (HS.some H).symm; subst hr
  refine Hid.mk ⟨_, Wk.refl _, ?_⟩
  try simp -implicitDefEqProofs (maxSteps := 999999) [-selQ_sel, h_1]
theorem impl_DropNode_1_ok0 (hm : Try.prog.follows .mixedOrders = true) (k_slices_Contains_int : Sound Try.prog 85 slices_Contains_int_x) : Sound Try.prog 124 impl_DropNode_1_x := by
 refine xOf_sound fun q r h => ?_
 obtain ⟨a0, a1⟩ := q
 refine fn_ok E0 hm Try.func124 rfl (by decide +kernel) (by rfl) fun Γ hn hk => ?_
 dsimp only [impl_DropNode_1_e, impl_DropNode_1_v]
 replace hn : Γ.n = 8 := hn
 replace hk : Γ.k = 0 := hk
 have H : HS (impl_DropNode_1 a0 a1) r := h
 clear h; unfold impl_DropNode_1 at H
 try simp -implicitDefEqProofs at H
 refine Tr.of_vc (cl := tabC [(85, slices_Contains_int_x)]) (E := E0) [] (tab_cons k_slices_Contains_int tab_nil) hm (by rw [hn]; decide +kernel) ?_
 try simp -implicitDefEqProofs (maxSteps := 999999) [-selQ_sel]
 obtain ⟨v1, h_1, H⟩ := HS.bnd H
 try simp -implicitDefEqProofs (maxSteps := 999999) [-selQ_sel, h_1]
 have hr := (HS.some H).symm; subst hr
 refine Hid.mk ⟨_, Wk.refl _, ?_⟩
 try simp -implicitDefEqProofs (maxSteps := 999999) [-selQ_sel, h_1]
theorem impl_isFar_ok0 (hm : Try.prog.follows .mixedOrders = true) (k_impl_inRange : Sound Try.prog 95 impl_inRange_x) : Sound Try.prog 217 impl_isFar_x := by
 refine xOf_sound fun q r h => ?_
 revert h; revert r; revert q; intro a0 r h
 refine fn_ok E0 hm Try.func217 rfl (by decide +kernel) (by rfl) fun Γ hn hk => ?_
 dsimp only [impl_isFar_e, impl_isFar_v]
 replace hn : Γ.n = 5 := hn
 replace hk : Γ.k = 0 := hk
 have H : HS (impl_isFar a0) r := h
 clear h; unfold impl_isFar at H
 try simp -implicitDefEqProofs at H
 refine Tr.of_vc (cl := tabC [(95, impl_inRange_x)]) (E := E0) [] (tab_cons k_impl_inRange tab_nil) hm (by rw [hn]; decide +kernel) ?_
 try simp -implicitDefEqProofs (maxSteps := 999999) [-selQ_sel]
 obtain ⟨v1, h_1, H⟩ := HS.bnd H
 try simp -implicitDefEqProofs (maxSteps := 999999) [-selQ_sel, h_1]
 have hr := (HS.some H).symm; subst hr
 refine Hid.mk ⟨_, Wk.refl _, ?_⟩
 try simp -implicitDefEqProofs (maxSteps := 999999) [-selQ_sel, h_1]
theorem spec_Shift_ok0 (hm : Try.prog.follows .mixedOrders = true) : Sound Try.prog 215 spec_Shift_x := by
 refine xOf_sound fun q r h => ?_
 obtain ⟨a0, a1⟩ := q
 refine fn_ok E0 hm Try.func215 rfl (by decide +kernel) (by rfl) fun Γ hn hk => ?_
 dsimp only [spec_Shift_e, spec_Shift_v]
 replace hn : Γ.n = 8 := hn
 replace hk : Γ.k = 0 := hk
 have H : HS (spec_Shift a0 a1) r := h
 clear h; unfold spec_Shift at H
 try simp -implicitDefEqProofs at H
 refine Tr.of_vc (cl := tabC []) (E := E0) [] tab_nil hm (by rw [hn]; decide +kernel) ?_
 try simp -implicitDefEqProofs (maxSteps := 999999) [-selQ_sel]
 have hr := (HS.some H).symm; subst hr
 refine Hid.mk ⟨_, Wk.refl _, ?_⟩
 try simp -implicitDefEqProofs (maxSteps := 999999) [-selQ_sel]
end Go.Proofs.Ytafljhadfoaceaa.Am
