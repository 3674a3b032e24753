import Derived.Test.YtafljhadfoaceaaAmPlMo
set_option linter.unusedVariables false
set_option linter.unusedSimpArgs false
set_option linter.unusedSectionVars false
namespace Go.Proofs.Ytafljhadfoaceaa.Am
open Go Go.Proofs
set_option maxRecDepth 100000
set_option linter.unusedSimpArgs false
set_option linter.unusedVariables false
set_option maxHeartbeats 4000000
theorem spec_l06Path_ok0 (hm : Try.prog.follows .mixedOrders = true) (k_spec_l01Once : Sound Try.prog 170 spec_l01Once_x) (k_spec_l01Below : Sound Try.prog 107 spec_l01Below_x) (k_spec_RectPath : Sound Try.prog 213 spec_RectPath_x) (k_spec_l01PickInt : Sound Try.prog 171 spec_l01PickInt_x) (k_spec_NeedOf : Sound Try.prog 212 spec_NeedOf_x) (k_spec_l04Point : Sound Try.prog 214 spec_l04Point_x) : Sound Try.prog 169 spec_l06Path_x := by
 refine xOf_sound fun q r h => ?_
 revert h; revert r; revert q; intro a0 r h
 refine fn_ok E0 hm Try.func169 rfl (by decide +kernel) (by rfl) fun Γ hn hk => ?_
 dsimp only [spec_l06Path_e, spec_l06Path_v]
 replace hn : Γ.n = 79 := hn
 replace hk : Γ.k = 1 := hk
 have H : HS (spec_l06Path a0) r := h
 clear h; unfold spec_l06Path at H
 try simp -implicitDefEqProofs at H
 refine Tr.of_vc (cl := tabC [(170, spec_l01Once_x), (107, spec_l01Below_x), (213, spec_RectPath_x), (171, spec_l01PickInt_x), (212, spec_NeedOf_x), (214, spec_l04Point_x)]) (E := E0) [] (tab_cons k_spec_l01Once (tab_cons k_spec_l01Below (tab_cons k_spec_RectPath (tab_cons k_spec_l01PickInt (tab_cons k_spec_NeedOf (tab_cons k_spec_l04Point tab_nil)))))) hm (by rw [hn]; decide +kernel) ?_
 try simp -implicitDefEqProofs +decide (maxSteps := 999999) [-selQ_sel, hokQ_of]
 obtain ⟨⟨w2, w3⟩, h_1, H⟩ := HS.bnd H
 dsimp only at H
 try simp -implicitDefEqProofs +decide (maxSteps := 999999) [-selQ_sel, hokQ_of, h_1]
 refine Hid.brV (fun h_2 => ?_) (fun h_2 => ?_)
 ·replace H := HS.cnd_t h_2 H
  try simp -implicitDefEqProofs +decide (maxSteps := 999999) [-selQ_sel, hokQ_of, h_1, h_2]
  obtain ⟨⟨w5, w6⟩, h_3, H⟩ := HS.bnd H
  dsimp only at H
  try simp -implicitDefEqProofs +decide (maxSteps := 999999) [-selQ_sel, hokQ_of, h_1, h_2, h_3]
  obtain ⟨⟨w8, w9⟩, h_4, H⟩ := HS.bnd H
  dsimp only at H
  try simp -implicitDefEqProofs +decide (maxSteps := 999999) [-selQ_sel, hokQ_of, h_1, h_2, h_3, h_4]
  obtain ⟨⟨w11, w12⟩, h_5, H⟩ := HS.bnd H
  dsimp only at H
  try simp -implicitDefEqProofs +decide (maxSteps := 999999) [-selQ_sel, hokQ_of, h_1, h_2, h_3, h_4, h_5]
  obtain ⟨⟨w14, w15⟩, h_6, H⟩ := HS.bnd H
  dsimp only at H
  try simp -implicitDefEqProofs +decide (maxSteps := 999999) [-selQ_sel, hokQ_of, h_1, h_2, h_3, h_4, h_5, h_6]
  obtain ⟨⟨w17, w18⟩, h_7, H⟩ := HS.bnd H
  dsimp only at H
  try simp -implicitDefEqProofs +decide (maxSteps := 999999) [-selQ_sel, hokQ_of, h_1, h_2, h_3, h_4, h_5, h_6, h_7]
  have hr := (HS.some H).symm; subst hr
  refine Hid.mk ⟨⟨[(2, AV.optr 1 0 2)], [(0, Ob.box [AV.fsl (List.map (AV.int .u8) w15.b), AV.int .i64 w15.i, AV.int .i64 w15.h]), (1, Ob.box [AV.osl 2 0 (List.length w17) (List.length w17), AV.osl 3 0 (List.length w18) (List.length w18)]), (2, Ob.arr 1 (List.map (AV.int .i64) w17) false), (3, Ob.arr 2 (List.map ePoint w18) false)], 4⟩, Wk.ofk [0, 1, 2, 3] hk (by rfl) (by simp -implicitDefEqProofs [h_1, h_2, h_3, h_4, h_5, h_6, h_7]) (by simp -implicitDefEqProofs [h_1, h_2, h_3, h_4, h_5, h_6, h_7]), ?_⟩
  try simp -implicitDefEqProofs +decide (maxSteps := 999999) [-selQ_sel, hokQ_of, h_1, h_2, h_3, h_4, h_5, h_6, h_7]
 ·replace H := HS.cnd_f h_2 H
  try simp -implicitDefEqProofs +decide (maxSteps := 999999) [-selQ_sel, hokQ_of, h_1, h_2]
  obtain ⟨q, h_8, H⟩ := HS.bnd H
  refine Hid.mk (Tr.weak (s' := spec_l06Path_l3_S (0, w3.b, w3.i, w3.h, [], [])) (Wk.ofk [0, 1, 2, 3, 4] hk (by rfl) (by simp -implicitDefEqProofs [spec_l06Path_l3_S, h_1, h_2]) (by simp -implicitDefEqProofs [spec_l06Path_l3_S, h_1, h_2])) ?_)
  refine wp_loop_of (S := spec_l06Path_l3_S) (f := spec_l06Path_l3) (xt := spec_l06Path_l3_X) ?_ ?_ h_8 ?_
  ·intro q; rcases q with ⟨y120, y121, y122, y123, y124⟩ | ⟨y125, y126, y127, y128, y129⟩ <;> simp [spec_l06Path_l3_X]
  ·clear H h_8 q
   rintro ⟨x44, x45, x46, x47, x48, x49⟩ o R hf hR
   have H : HS (spec_l06Path_l3 (x44, x45, x46, x47, x48, x49)) o := hf
   clear hf; unfold spec_l06Path_l3 at H
   try simp -implicitDefEqProofs at H
   refine Tr.of_vc (cl := tabC [(170, spec_l01Once_x), (107, spec_l01Below_x), (213, spec_RectPath_x), (171, spec_l01PickInt_x), (212, spec_NeedOf_x), (214, spec_l04Point_x)]) (E := E0) [] (tab_cons k_spec_l01Once (tab_cons k_spec_l01Below (tab_cons k_spec_RectPath (tab_cons k_spec_l01PickInt (tab_cons k_spec_NeedOf (tab_cons k_spec_l04Point tab_nil)))))) hm (by rw [hn]; decide +kernel) ?_
   try simp -implicitDefEqProofs +decide (maxSteps := 999999) [-selQ_sel, hokQ_of, spec_l06Path_l3_S]
   obtain ⟨⟨w51, w52⟩, h_9, H⟩ := HS.bnd H
   dsimp only at H
   have k_10 := spec_l01Below_k 6 ((TL01Cur.mk x45 x46 x47).b) ((TL01Cur.mk x45 x46 x47).i) ((TL01Cur.mk x45 x46 x47).h)
   simp -implicitDefEqProofs [-spec_l01Below_k] at k_10
   try simp -implicitDefEqProofs +decide (maxSteps := 999999) [-selQ_sel, hokQ_of, h_9, k_10]
   refine Hid.brV (fun h_11 => ?_) (fun h_11 => ?_)
   ·replace H := HS.cnd_t h_11 H
    try simp -implicitDefEqProofs +decide (maxSteps := 999999) [-selQ_sel, hokQ_of, h_9, k_10, h_11]
    have hr := (HS.some H).symm; subst hr
    exact Hid.mk ⟨(spec_l06Path_l3_X (.inl (w52.b, w52.i, w52.h, x48, x49))).2, Wk.ofk [0, 1, 2, 3, 4] hk (by rfl) (by simp -implicitDefEqProofs [spec_l06Path_l3_X, h_9, k_10, h_11]) (by simp -implicitDefEqProofs [spec_l06Path_l3_X, h_9, k_10, h_11]), hR⟩
   ·replace H := HS.cnd_f h_11 H
    try simp -implicitDefEqProofs +decide (maxSteps := 999999) [-selQ_sel, hokQ_of, h_9, k_10, h_11]
    obtain ⟨⟨w54, w55⟩, h_12, H⟩ := HS.bnd H
    dsimp only at H
    have k_13 := spec_l01PickInt_k w52.b w52.i w52.h [2, 2, 2, 3, 4, 5, 1]
    simp -implicitDefEqProofs [-spec_l01PickInt_k] at k_13
    try simp -implicitDefEqProofs +decide (maxSteps := 999999) [-selQ_sel, hokQ_of, h_9, k_10, h_11, h_12, k_13]
    refine Hid.selQ (fun h_14 => ?_) (fun h_14 => ?_)
    ·replace H := HS.cnd_t h_14 H
     try simp -implicitDefEqProofs +decide (maxSteps := 999999) [-selQ_sel, hokQ_of, h_9, k_10, h_11, h_12, k_13, h_14]
     obtain ⟨v56, h_15, H⟩ := HS.bnd H
     try simp -implicitDefEqProofs +decide (maxSteps := 999999) [-selQ_sel, hokQ_of, h_9, k_10, h_11, h_12, k_13, h_14, h_15]
     refine Hid.brV (fun h_16 => ?_) (fun h_16 => ?_)
     ·replace H := HS.cnd_t h_16 H
      try simp -implicitDefEqProofs +decide (maxSteps := 999999) [-selQ_sel, hokQ_of, h_9, k_10, h_11, h_12, k_13, h_14, h_15, h_16]
      obtain ⟨h_17, H⟩ := HS.chkP H
      try simp -implicitDefEqProofs +decide (maxSteps := 999999) [-selQ_sel, hokQ_of, h_9, k_10, h_11, h_12, k_13, h_14, h_15, h_16, h_17]
      obtain ⟨l57, h_18, H⟩ := HS.nam H
      have m_19 := congrArg (List.map (AV.int .i64)) h_18
      have q_20 := congrArg List.length h_18
      simp -implicitDefEqProofs at m_19 q_20
      try simp only [q_20] at m_19
      try simp only [q_20] at h_17
      try simp -implicitDefEqProofs +decide (maxSteps := 999999) [-selQ_sel, hokQ_of, h_9, k_10, h_11, h_12, k_13, h_14, h_15, h_16, h_17, m_19, q_20]
      obtain ⟨q, h_21, H⟩ := HS.bnd H
      refine Hid.mk (Tr.weak (s' := (spec_l06Path_l0_S l57 x44) (0, w55.b, w55.i, w55.h, x49)) (Wk.ofk [0, 1, 2, 3, 4] hk (by rfl) (by simp -implicitDefEqProofs [spec_l06Path_l0_S, h_9, k_10, h_11, h_12, k_13, h_14, h_15, h_16, h_17, m_19, q_20]) (by simp -implicitDefEqProofs [spec_l06Path_l0_S, h_9, k_10, h_11, h_12, k_13, h_14, h_15, h_16, h_17, m_19, q_20])) ?_)
      refine wp_loop_of (S := (spec_l06Path_l0_S l57 x44)) (f := (spec_l06Path_l0 l57 x44)) (xt := (spec_l06Path_l0_X l57 x44)) ?_ ?_ h_21 ?_
      ·intro q; rcases q with ⟨y73, y74, y75, y76⟩ <;> simp [spec_l06Path_l0_X]
      ·clear H h_21 q
       rintro ⟨x63, x64, x65, x66, x67⟩ o R hf hR
       have H : HS (spec_l06Path_l0 l57 x44 (x63, x64, x65, x66, x67)) o := hf
       clear hf; unfold spec_l06Path_l0 at H
       try simp -implicitDefEqProofs at H
       refine Tr.of_vc (cl := tabC [(170, spec_l01Once_x), (107, spec_l01Below_x), (213, spec_RectPath_x), (171, spec_l01PickInt_x), (212, spec_NeedOf_x), (214, spec_l04Point_x)]) (E := E0) [] (tab_cons k_spec_l01Once (tab_cons k_spec_l01Below (tab_cons k_spec_RectPath (tab_cons k_spec_l01PickInt (tab_cons k_spec_NeedOf (tab_cons k_spec_l04Point tab_nil)))))) hm (by rw [hn]; decide +kernel) ?_
       try simp -implicitDefEqProofs +decide (maxSteps := 999999) [-selQ_sel, hokQ_of, spec_l06Path_l0_S]
       obtain ⟨v68, h_22, H⟩ := HS.bnd H
       try simp -implicitDefEqProofs +decide (maxSteps := 999999) [-selQ_sel, hokQ_of, h_22]
       refine Hid.brV (fun h_23 => ?_) (fun h_23 => ?_)
       ·replace H := HS.cnd_t h_23 H
        try simp -implicitDefEqProofs +decide (maxSteps := 999999) [-selQ_sel, hokQ_of, h_22, h_23]
        have hr := (HS.some H).symm; subst hr
        exact Hid.mk ⟨(spec_l06Path_l0_X l57 x44 (x64, x65, x66, x67)).2, Wk.ofk [0, 1, 2, 3, 4] hk (by rfl) (by simp -implicitDefEqProofs [spec_l06Path_l0_X, h_22, h_23]) (by simp -implicitDefEqProofs [spec_l06Path_l0_X, h_22, h_23]), hR⟩
       ·replace H := HS.cnd_f h_23 H
        try simp -implicitDefEqProofs +decide (maxSteps := 999999) [-selQ_sel, hokQ_of, h_22, h_23]
        obtain ⟨⟨w70, w71⟩, h_24, H⟩ := HS.bnd H
        dsimp only at H
        have k_25 := spec_l04Point_k ((TL01Cur.mk x64 x65 x66).b) ((TL01Cur.mk x64 x65 x66).i) ((TL01Cur.mk x64 x65 x66).h)
        simp -implicitDefEqProofs [-spec_l04Point_k] at k_25
        try simp -implicitDefEqProofs +decide (maxSteps := 999999) [-selQ_sel, hokQ_of, h_22, h_23, h_24, k_25]
        obtain ⟨h_26, H⟩ := HS.chkP H
        try simp -implicitDefEqProofs +decide (maxSteps := 999999) [-selQ_sel, hokQ_of, h_22, h_23, h_24, k_25, h_26]
        obtain ⟨l72, h_27, H⟩ := HS.nam H
        have m_28 := congrArg (List.map ePoint) h_27
        have q_29 := congrArg List.length h_27
        simp -implicitDefEqProofs at m_28 q_29
        try simp only [q_29] at m_28
        try simp only [q_29] at h_26
        try simp -implicitDefEqProofs +decide (maxSteps := 999999) [-selQ_sel, hokQ_of, h_22, h_23, h_24, k_25, h_26, m_28, q_29]
        have hr := (HS.some H).symm; subst hr
        exact Hid.mk ⟨spec_l06Path_l0_S l57 x44 ((IntKind.i64.wrap (x63 + 1)), w71.b, w71.i, w71.h, l72), Wk.ofk [0, 1, 2, 3, 4] hk (by rfl) (by simp -implicitDefEqProofs [spec_l06Path_l0_S, h_22, h_23, h_24, k_25, h_26, m_28, q_29]) (by simp -implicitDefEqProofs [spec_l06Path_l0_S, h_22, h_23, h_24, k_25, h_26, m_28, q_29]), hR⟩
      ·obtain ⟨y73, y74, y75, y76⟩ := q
       try dsimp only at H
       try simp -implicitDefEqProofs +decide (maxSteps := 999999) [-selQ_sel, hokQ_of, h_9, k_10, h_11, h_12, k_13, h_14, h_15, h_16, h_17, m_19, q_20, spec_l06Path_l0_X]
       have hr := (HS.some H).symm; subst hr
       exact Hid.mk ⟨spec_l06Path_l3_S ((IntKind.i64.wrap (x44 + 1)), y73, y74, y75, l57, y76), Wk.ofk [0, 1, 2, 3, 4] hk (by rfl) (by simp -implicitDefEqProofs [spec_l06Path_l3_S, h_9, k_10, h_11, h_12, k_13, h_14, h_15, h_16, h_17, m_19, q_20]) (by simp -implicitDefEqProofs [spec_l06Path_l3_S, h_9, k_10, h_11, h_12, k_13, h_14, h_15, h_16, h_17, m_19, q_20]), hR⟩
     ·replace H := HS.cnd_f h_16 H
      try simp -implicitDefEqProofs +decide (maxSteps := 999999) [-selQ_sel, hokQ_of, h_9, k_10, h_11, h_12, k_13, h_14, h_15, h_16]
      have hr := (HS.some H).symm; subst hr
      exact Hid.mk ⟨(spec_l06Path_l3_X (.inr (w55.b, w55.i, w55.h, x48, x49))).2, Wk.ofk [0, 1, 3, 4] hk (by rfl) (by simp -implicitDefEqProofs [spec_l06Path_l3_X, h_9, k_10, h_11, h_12, k_13, h_14, h_15, h_16]) (by simp -implicitDefEqProofs [spec_l06Path_l3_X, h_9, k_10, h_11, h_12, k_13, h_14, h_15, h_16]), hR⟩
    ·replace H := HS.cnd_f h_14 H
     try simp -implicitDefEqProofs +decide (maxSteps := 999999) [-selQ_sel, hokQ_of, h_9, k_10, h_11, h_12, k_13, h_14]
     obtain ⟨v77, h_30, H⟩ := HS.bnd H
     have g_31 := idx_get h_30
     try simp -implicitDefEqProofs +decide (maxSteps := 999999) [-selQ_sel, hokQ_of, h_9, k_10, h_11, h_12, k_13, h_14, h_30, g_31]
     refine Hid.brV (fun h_32 => ?_) (fun h_32 => ?_)
     ·replace H := HS.cnd_t h_32 H
      try simp -implicitDefEqProofs +decide (maxSteps := 999999) [-selQ_sel, hokQ_of, h_9, k_10, h_11, h_12, k_13, h_14, h_30, g_31, h_32]
      obtain ⟨v78, h_33, H⟩ := HS.bnd H
      try simp -implicitDefEqProofs +decide (maxSteps := 999999) [-selQ_sel, hokQ_of, h_9, k_10, h_11, h_12, k_13, h_14, h_30, g_31, h_32, h_33]
      refine Hid.brV (fun h_34 => ?_) (fun h_34 => ?_)
      ·replace H := HS.cnd_t h_34 H
       try simp -implicitDefEqProofs +decide (maxSteps := 999999) [-selQ_sel, hokQ_of, h_9, k_10, h_11, h_12, k_13, h_14, h_30, g_31, h_32, h_33, h_34]
       obtain ⟨h_35, H⟩ := HS.chkP H
       try simp -implicitDefEqProofs +decide (maxSteps := 999999) [-selQ_sel, hokQ_of, h_9, k_10, h_11, h_12, k_13, h_14, h_30, g_31, h_32, h_33, h_34, h_35]
       obtain ⟨l79, h_36, H⟩ := HS.nam H
       have m_37 := congrArg (List.map (AV.int .i64)) h_36
       have q_38 := congrArg List.length h_36
       simp -implicitDefEqProofs at m_37 q_38
       try simp only [q_38] at m_37
       try simp only [q_38] at h_35
       try simp -implicitDefEqProofs +decide (maxSteps := 999999) [-selQ_sel, hokQ_of, h_9, k_10, h_11, h_12, k_13, h_14, h_30, g_31, h_32, h_33, h_34, h_35, m_37, q_38]
       obtain ⟨q, h_39, H⟩ := HS.bnd H
       refine Hid.mk (Tr.weak (s' := (spec_l06Path_l1_S l79 x44) (0, w55.b, w55.i, w55.h, x49)) (Wk.ofk [0, 1, 2, 3, 4] hk (by rfl) (by simp -implicitDefEqProofs [spec_l06Path_l1_S, h_9, k_10, h_11, h_12, k_13, h_14, h_30, g_31, h_32, h_33, h_34, h_35, m_37, q_38]) (by simp -implicitDefEqProofs [spec_l06Path_l1_S, h_9, k_10, h_11, h_12, k_13, h_14, h_30, g_31, h_32, h_33, h_34, h_35, m_37, q_38])) ?_)
       refine wp_loop_of (S := (spec_l06Path_l1_S l79 x44)) (f := (spec_l06Path_l1 l79 x44)) (xt := (spec_l06Path_l1_X l79 x44)) ?_ ?_ h_39 ?_
       ·intro q; rcases q with ⟨y95, y96, y97, y98⟩ <;> simp [spec_l06Path_l1_X]
       ·clear H h_39 q
        rintro ⟨x85, x86, x87, x88, x89⟩ o R hf hR
        have H : HS (spec_l06Path_l1 l79 x44 (x85, x86, x87, x88, x89)) o := hf
        clear hf; unfold spec_l06Path_l1 at H
        try simp -implicitDefEqProofs at H
        refine Tr.of_vc (cl := tabC [(170, spec_l01Once_x), (107, spec_l01Below_x), (213, spec_RectPath_x), (171, spec_l01PickInt_x), (212, spec_NeedOf_x), (214, spec_l04Point_x)]) (E := E0) [] (tab_cons k_spec_l01Once (tab_cons k_spec_l01Below (tab_cons k_spec_RectPath (tab_cons k_spec_l01PickInt (tab_cons k_spec_NeedOf (tab_cons k_spec_l04Point tab_nil)))))) hm (by rw [hn]; decide +kernel) ?_
        try simp -implicitDefEqProofs +decide (maxSteps := 999999) [-selQ_sel, hokQ_of, spec_l06Path_l1_S]
        obtain ⟨v90, h_40, H⟩ := HS.bnd H
        try simp -implicitDefEqProofs +decide (maxSteps := 999999) [-selQ_sel, hokQ_of, h_40]
        refine Hid.brV (fun h_41 => ?_) (fun h_41 => ?_)
        ·replace H := HS.cnd_t h_41 H
         try simp -implicitDefEqProofs +decide (maxSteps := 999999) [-selQ_sel, hokQ_of, h_40, h_41]
         have hr := (HS.some H).symm; subst hr
         exact Hid.mk ⟨(spec_l06Path_l1_X l79 x44 (x86, x87, x88, x89)).2, Wk.ofk [0, 1, 2, 3, 4] hk (by rfl) (by simp -implicitDefEqProofs [spec_l06Path_l1_X, h_40, h_41]) (by simp -implicitDefEqProofs [spec_l06Path_l1_X, h_40, h_41]), hR⟩
        ·replace H := HS.cnd_f h_41 H
         try simp -implicitDefEqProofs +decide (maxSteps := 999999) [-selQ_sel, hokQ_of, h_40, h_41]
         obtain ⟨⟨w92, w93⟩, h_42, H⟩ := HS.bnd H
         dsimp only at H
         have k_43 := spec_l04Point_k ((TL01Cur.mk x86 x87 x88).b) ((TL01Cur.mk x86 x87 x88).i) ((TL01Cur.mk x86 x87 x88).h)
         simp -implicitDefEqProofs [-spec_l04Point_k] at k_43
         try simp -implicitDefEqProofs +decide (maxSteps := 999999) [-selQ_sel, hokQ_of, h_40, h_41, h_42, k_43]
         obtain ⟨h_44, H⟩ := HS.chkP H
         try simp -implicitDefEqProofs +decide (maxSteps := 999999) [-selQ_sel, hokQ_of, h_40, h_41, h_42, k_43, h_44]
         obtain ⟨l94, h_45, H⟩ := HS.nam H
         have m_46 := congrArg (List.map ePoint) h_45
         have q_47 := congrArg List.length h_45
         simp -implicitDefEqProofs at m_46 q_47
         try simp only [q_47] at m_46
         try simp only [q_47] at h_44
         try simp -implicitDefEqProofs +decide (maxSteps := 999999) [-selQ_sel, hokQ_of, h_40, h_41, h_42, k_43, h_44, m_46, q_47]
         have hr := (HS.some H).symm; subst hr
         exact Hid.mk ⟨spec_l06Path_l1_S l79 x44 ((IntKind.i64.wrap (x85 + 1)), w93.b, w93.i, w93.h, l94), Wk.ofk [0, 1, 2, 3, 4] hk (by rfl) (by simp -implicitDefEqProofs [spec_l06Path_l1_S, h_40, h_41, h_42, k_43, h_44, m_46, q_47]) (by simp -implicitDefEqProofs [spec_l06Path_l1_S, h_40, h_41, h_42, k_43, h_44, m_46, q_47]), hR⟩
       ·obtain ⟨y95, y96, y97, y98⟩ := q
        try dsimp only at H
        try simp -implicitDefEqProofs +decide (maxSteps := 999999) [-selQ_sel, hokQ_of, h_9, k_10, h_11, h_12, k_13, h_14, h_30, g_31, h_32, h_33, h_34, h_35, m_37, q_38, spec_l06Path_l1_X]
        have hr := (HS.some H).symm; subst hr
        exact Hid.mk ⟨spec_l06Path_l3_S ((IntKind.i64.wrap (x44 + 1)), y95, y96, y97, l79, y98), Wk.ofk [0, 1, 2, 3, 4] hk (by rfl) (by simp -implicitDefEqProofs [spec_l06Path_l3_S, h_9, k_10, h_11, h_12, k_13, h_14, h_30, g_31, h_32, h_33, h_34, h_35, m_37, q_38]) (by simp -implicitDefEqProofs [spec_l06Path_l3_S, h_9, k_10, h_11, h_12, k_13, h_14, h_30, g_31, h_32, h_33, h_34, h_35, m_37, q_38]), hR⟩
      ·replace H := HS.cnd_f h_34 H
       try simp -implicitDefEqProofs +decide (maxSteps := 999999) [-selQ_sel, hokQ_of, h_9, k_10, h_11, h_12, k_13, h_14, h_30, g_31, h_32, h_33, h_34]
       have hr := (HS.some H).symm; subst hr
       exact Hid.mk ⟨(spec_l06Path_l3_X (.inr (w55.b, w55.i, w55.h, x48, x49))).2, Wk.ofk [0, 1, 3, 4] hk (by rfl) (by simp -implicitDefEqProofs [spec_l06Path_l3_X, h_9, k_10, h_11, h_12, k_13, h_14, h_30, g_31, h_32, h_33, h_34]) (by simp -implicitDefEqProofs [spec_l06Path_l3_X, h_9, k_10, h_11, h_12, k_13, h_14, h_30, g_31, h_32, h_33, h_34]), hR⟩
     ·replace H := HS.cnd_f h_32 H
      try simp -implicitDefEqProofs +decide (maxSteps := 999999) [-selQ_sel, hokQ_of, h_9, k_10, h_11, h_12, k_13, h_14, h_30, g_31, h_32]
      obtain ⟨v99, h_48, H⟩ := HS.bnd H
      try simp -implicitDefEqProofs +decide (maxSteps := 999999) [-selQ_sel, hokQ_of, h_9, k_10, h_11, h_12, k_13, h_14, h_30, g_31, h_32, h_48]
      refine Hid.brV (fun h_49 => ?_) (fun h_49 => ?_)
      ·replace H := HS.cnd_t h_49 H
       try simp -implicitDefEqProofs +decide (maxSteps := 999999) [-selQ_sel, hokQ_of, h_9, k_10, h_11, h_12, k_13, h_14, h_30, g_31, h_32, h_48, h_49]
       obtain ⟨h_50, H⟩ := HS.chkP H
       try simp -implicitDefEqProofs +decide (maxSteps := 999999) [-selQ_sel, hokQ_of, h_9, k_10, h_11, h_12, k_13, h_14, h_30, g_31, h_32, h_48, h_49, h_50]
       obtain ⟨l100, h_51, H⟩ := HS.nam H
       have m_52 := congrArg (List.map (AV.int .i64)) h_51
       have q_53 := congrArg List.length h_51
       simp -implicitDefEqProofs at m_52 q_53
       try simp only [q_53] at m_52
       try simp only [q_53] at h_50
       try simp -implicitDefEqProofs +decide (maxSteps := 999999) [-selQ_sel, hokQ_of, h_9, k_10, h_11, h_12, k_13, h_14, h_30, g_31, h_32, h_48, h_49, h_50, m_52, q_53]
       obtain ⟨q, h_54, H⟩ := HS.bnd H
       refine Hid.mk (Tr.weak (s' := (spec_l06Path_l2_S l100 w54 x44) (0, w55.b, w55.i, w55.h, x49)) (Wk.ofk [0, 1, 2, 3, 4] hk (by rfl) (by simp -implicitDefEqProofs [spec_l06Path_l2_S, h_9, k_10, h_11, h_12, k_13, h_14, h_30, g_31, h_32, h_48, h_49, h_50, m_52, q_53]) (by simp -implicitDefEqProofs [spec_l06Path_l2_S, h_9, k_10, h_11, h_12, k_13, h_14, h_30, g_31, h_32, h_48, h_49, h_50, m_52, q_53])) ?_)
       refine wp_loop_of (S := (spec_l06Path_l2_S l100 w54 x44)) (f := (spec_l06Path_l2 l100 w54 x44)) (xt := (spec_l06Path_l2_X l100 w54 x44)) ?_ ?_ h_54 ?_
       ·intro q; rcases q with ⟨y116, y117, y118, y119⟩ <;> simp [spec_l06Path_l2_X]
       ·clear H h_54 q
        rintro ⟨x106, x107, x108, x109, x110⟩ o R hf hR
        have H : HS (spec_l06Path_l2 l100 w54 x44 (x106, x107, x108, x109, x110)) o := hf
        clear hf; unfold spec_l06Path_l2 at H
        try simp -implicitDefEqProofs at H
        refine Tr.of_vc (cl := tabC [(170, spec_l01Once_x), (107, spec_l01Below_x), (213, spec_RectPath_x), (171, spec_l01PickInt_x), (212, spec_NeedOf_x), (214, spec_l04Point_x)]) (E := E0) [] (tab_cons k_spec_l01Once (tab_cons k_spec_l01Below (tab_cons k_spec_RectPath (tab_cons k_spec_l01PickInt (tab_cons k_spec_NeedOf (tab_cons k_spec_l04Point tab_nil)))))) hm (by rw [hn]; decide +kernel) ?_
        try simp -implicitDefEqProofs +decide (maxSteps := 999999) [-selQ_sel, hokQ_of, spec_l06Path_l2_S]
        obtain ⟨v111, h_55, H⟩ := HS.bnd H
        try simp -implicitDefEqProofs +decide (maxSteps := 999999) [-selQ_sel, hokQ_of, h_55]
        refine Hid.brV (fun h_56 => ?_) (fun h_56 => ?_)
        ·replace H := HS.cnd_t h_56 H
         try simp -implicitDefEqProofs +decide (maxSteps := 999999) [-selQ_sel, hokQ_of, h_55, h_56]
         have hr := (HS.some H).symm; subst hr
         exact Hid.mk ⟨(spec_l06Path_l2_X l100 w54 x44 (x107, x108, x109, x110)).2, Wk.ofk [0, 1, 2, 3, 4] hk (by rfl) (by simp -implicitDefEqProofs [spec_l06Path_l2_X, h_55, h_56]) (by simp -implicitDefEqProofs [spec_l06Path_l2_X, h_55, h_56]), hR⟩
        ·replace H := HS.cnd_f h_56 H
         try simp -implicitDefEqProofs +decide (maxSteps := 999999) [-selQ_sel, hokQ_of, h_55, h_56]
         obtain ⟨⟨w113, w114⟩, h_57, H⟩ := HS.bnd H
         dsimp only at H
         have k_58 := spec_l04Point_k ((TL01Cur.mk x107 x108 x109).b) ((TL01Cur.mk x107 x108 x109).i) ((TL01Cur.mk x107 x108 x109).h)
         simp -implicitDefEqProofs [-spec_l04Point_k] at k_58
         try simp -implicitDefEqProofs +decide (maxSteps := 999999) [-selQ_sel, hokQ_of, h_55, h_56, h_57, k_58]
         obtain ⟨h_59, H⟩ := HS.chkP H
         try simp -implicitDefEqProofs +decide (maxSteps := 999999) [-selQ_sel, hokQ_of, h_55, h_56, h_57, k_58, h_59]
         obtain ⟨l115, h_60, H⟩ := HS.nam H
         have m_61 := congrArg (List.map ePoint) h_60
         have q_62 := congrArg List.length h_60
         simp -implicitDefEqProofs at m_61 q_62
         try simp only [q_62] at m_61
         try simp only [q_62] at h_59
         try simp -implicitDefEqProofs +decide (maxSteps := 999999) [-selQ_sel, hokQ_of, h_55, h_56, h_57, k_58, h_59, m_61, q_62]
         have hr := (HS.some H).symm; subst hr
         exact Hid.mk ⟨spec_l06Path_l2_S l100 w54 x44 ((IntKind.i64.wrap (x106 + 1)), w114.b, w114.i, w114.h, l115), Wk.ofk [0, 1, 2, 3, 4] hk (by rfl) (by simp -implicitDefEqProofs [spec_l06Path_l2_S, h_55, h_56, h_57, k_58, h_59, m_61, q_62]) (by simp -implicitDefEqProofs [spec_l06Path_l2_S, h_55, h_56, h_57, k_58, h_59, m_61, q_62]), hR⟩
       ·obtain ⟨y116, y117, y118, y119⟩ := q
        try dsimp only at H
        try simp -implicitDefEqProofs +decide (maxSteps := 999999) [-selQ_sel, hokQ_of, h_9, k_10, h_11, h_12, k_13, h_14, h_30, g_31, h_32, h_48, h_49, h_50, m_52, q_53, spec_l06Path_l2_X]
        have hr := (HS.some H).symm; subst hr
        exact Hid.mk ⟨spec_l06Path_l3_S ((IntKind.i64.wrap (x44 + 1)), y116, y117, y118, l100, y119), Wk.ofk [0, 1, 2, 3, 4] hk (by rfl) (by simp -implicitDefEqProofs [spec_l06Path_l3_S, h_9, k_10, h_11, h_12, k_13, h_14, h_30, g_31, h_32, h_48, h_49, h_50, m_52, q_53]) (by simp -implicitDefEqProofs [spec_l06Path_l3_S, h_9, k_10, h_11, h_12, k_13, h_14, h_30, g_31, h_32, h_48, h_49, h_50, m_52, q_53]), hR⟩
      ·replace H := HS.cnd_f h_49 H
       try simp -implicitDefEqProofs +decide (maxSteps := 999999) [-selQ_sel, hokQ_of, h_9, k_10, h_11, h_12, k_13, h_14, h_30, g_31, h_32, h_48, h_49]
       have hr := (HS.some H).symm; subst hr
       exact Hid.mk ⟨(spec_l06Path_l3_X (.inr (w55.b, w55.i, w55.h, x48, x49))).2, Wk.ofk [0, 1, 3, 4] hk (by rfl) (by simp -implicitDefEqProofs [spec_l06Path_l3_X, h_9, k_10, h_11, h_12, k_13, h_14, h_30, g_31, h_32, h_48, h_49]) (by simp -implicitDefEqProofs [spec_l06Path_l3_X, h_9, k_10, h_11, h_12, k_13, h_14, h_30, g_31, h_32, h_48, h_49]), hR⟩
  ·rcases q with ⟨y120, y121, y122, y123, y124⟩ | ⟨y125, y126, y127, y128, y129⟩
   ·dsimp only at H
    try simp -implicitDefEqProofs +decide (maxSteps := 999999) [-selQ_sel, hokQ_of, h_1, h_2, spec_l06Path_l3_X]
    have hr := (HS.some H).symm; subst hr
    refine Hid.mk ⟨⟨[(2, AV.optr 1 0 2)], [(0, Ob.box [AV.fsl (List.map (AV.int .u8) y120), AV.int .i64 y121, AV.int .i64 y122]), (1, Ob.box [AV.osl 2 0 (List.length y123) (List.length y123), AV.osl 3 0 (List.length y124) (List.length y124)]), (2, Ob.arr 1 (List.map (AV.int .i64) y123) false), (3, Ob.arr 2 (List.map ePoint y124) false)], 4⟩, Wk.ofk [0, 1, 3, 4] hk (by rfl) (by simp -implicitDefEqProofs [h_1, h_2]) (by simp -implicitDefEqProofs [h_1, h_2]), ?_⟩
    try simp -implicitDefEqProofs +decide (maxSteps := 999999) [-selQ_sel, hokQ_of, h_1, h_2]
   ·dsimp only at H
    try simp -implicitDefEqProofs +decide (maxSteps := 999999) [-selQ_sel, hokQ_of, h_1, h_2, spec_l06Path_l3_X]
    have hr := (HS.some H).symm; subst hr
    refine Hid.mk ⟨⟨[(2, AV.optr 1 0 2)], [(0, Ob.box [AV.fsl (List.map (AV.int .u8) y125), AV.int .i64 y126, AV.int .i64 y127]), (1, Ob.box [AV.osl 2 0 (List.length y128) (List.length y128), AV.osl 3 0 (List.length y129) (List.length y129)]), (2, Ob.arr 1 (List.map (AV.int .i64) y128) false), (3, Ob.arr 2 (List.map ePoint y129) false)], 4⟩, Wk.ofk [0, 1, 2, 3] hk (by rfl) (by simp -implicitDefEqProofs [h_1, h_2]) (by simp -implicitDefEqProofs [h_1, h_2]), ?_⟩
    try simp -implicitDefEqProofs +decide (maxSteps := 999999) [-selQ_sel, hokQ_of, h_1, h_2]
theorem slices_Insert_Node_shift (mixed : Try.prog.follows .mixedOrders = true) (b n c i vb m vc : Nat) (cur : Array Value) (te : TypeId) (vs : List Value) (va : Array Value) (tv : TypeId) (w : World) (hi : i < n) (hm : 0 < m) (hroom : n + m ≤ c) (hbig : (n + m) * 328 ≤ 17592186044416) (hvb : vb ≠ b)
  (hh : w.heap[b]? = some (.cells cur te (0, 0))) (hsz : cur.size = c * 31) (hvl : vs.length = m * 31) (hvh : w.heap[vb]? = some (.cells va tv (0, 0)))
  (hvs : ∀ j v, vs[j]? = some v → w.cell? ⟨vb, 0 + j, none⟩ = some v) (h1c : ∀ v ∈ mid 31 cur.toList i n, v.oneCell' = true) (h1v : ∀ v ∈ vs, v.oneCell' = true) :
  Calls Try.prog 133 #[.slice (some ⟨b, 0, none⟩) n c, .int .i64 i, .slice (some ⟨vb, 0, none⟩) m vc] w fun e w' =>
   e = .returned (.slice (some ⟨b, 0, none⟩) (n + m) c) ∧ ∃ w1, w1 = w.drew.setRow b (spl1 31 cur.toList i m n).toArray ∧ w' = w1.setRow b (spl2 31 cur.toList i m n vs).toArray := by
 have uS : ∀ w, (underlying 74).run Try.prog w = .ok (.slice 90) w := fun w => run_underlying (by kernel_rfl) w
 have zE : ∀ w, (sizeOf 90).run Try.prog w = .ok 31 w := fun w => rfl
 have hz1 : ¬ ((m : Int) = 0) := by omega
 have hz2 : ¬ ((i : Int) = (n : Int)) := by omega
 have hw1 : IntKind.i64.wrap ((i : Int) + (m : Int)) = (i : Int) + (m : Int) := by rw [IntKind.wrap_i64]; omega
 have hw2 : IntKind.i64.wrap ((n : Int) + (m : Int)) = (n : Int) + (m : Int) := by rw [IntKind.wrap_i64]; omega
 have hb1 : (0 : Int) ≤ (i : Int) + (m : Int) := by omega
 have hin : i ≤ n := by omega
 have htn : ((i : Int) + (m : Int)).toNat = i + m := by omega
 have htn2 : ((n : Int) + (m : Int)).toNat = n + m := by omega
 have hb2 : ¬ (c = i + m) := by omega
 have hb3 : (i : Int) ≤ (n : Int) + (m : Int) := by omega
 have hb4 : ¬ (c = i) := by omega
 have hov : ∀ lb cb, (callFunc 193 #[.slice (some ⟨vb, 0, none⟩) m vc, .slice (some ⟨b, (i + m) * 31, none⟩) lb cb]).run Try.prog w = .ok (.value (.bool false)) w := fun lb cb => by
  rw [run_callFunc_extern Try.func193 (by kernel_rfl) (by kernel_rfl) (by kernel_rfl) (e := Extern.SlicesOverlaps.overlaps #[74, 74] #[4]) (by kernel_rfl),
   Lib.run_overlaps_apart w 74 4 90 (by kernel_rfl) 31 zE ⟨vb, 0, none⟩ ⟨b, (i + m) * 31, none⟩ m vc lb cb hvb tv te va.size cur.size (by simp [World.shape?, hvh]) (by simp [World.shape?, hh]) (by rw [hsz]; omega) (by simp [World.frozen?, hvh]) (by simp [World.frozen?, hvh])]
  rfl
 have hcl : cur.toList.length = c * 31 := by simpa using hsz
 have hml : (mid 31 cur.toList i n).length = (n - i) * 31 := mid_len (c := c) (by omega) hcl
 have hs1 : (spl1 31 cur.toList i m n).length = c * 31 := by
  simp only [spl1, List.length_append, List.length_take, List.length_drop, hml, hcl]; omega
 obtain ⟨i0, hi0, hs0⟩ : ∃ i0, Try.prog.info? 90 = some i0 ∧ i0.size = 31 := ⟨_, rfl, rfl⟩
 have hcp1 : ∀ (W : World), W.heap[b]? = some (.cells cur te (0, 0)) → ∀ ty dc sc, (Builtin.copy_ #[74, 74] ty #[.slice (some ⟨b, (i + m) * 31, none⟩) (n + m - (i + m)) dc, .slice (some ⟨b, i * 31, none⟩) (n + m - i) sc]).run Try.prog W = .ok (goInt (n - i : Nat)) (W.setRow b (spl1 31 cur.toList i m n).toArray) := fun W hW ty dc sc => by
  refine run_copy_at (i := i0) W (elem := 90) (by kernel_rfl) hi0 (by simp only [Nat.min_def]; split <;> omega) ?_ hW (by rw [hml]; omega) h1c
  rw [hs0]
  refine run_firstCells_some W 31 (n - i) ⟨b, i * 31, none⟩ _ _ _ hml (fun j v hj => ?_)
  rw [Addr.add_lit, cell_at hW]
  unfold mid at hj
  rw [List.getElem?_take] at hj
  split at hj
  ·rw [List.getElem?_drop] at hj; simpa using hj
  ·cases hj
 have hcp2 : ∀ (W : World), W.heap[b]? = some (.cells (spl1 31 cur.toList i m n).toArray te (0, 0)) → (∀ j v, vs[j]? = some v → W.cell? ⟨vb, 0 + j, none⟩ = some v) → ∀ ty dc, (Builtin.copy_ #[74, 74] ty #[.slice (some ⟨b, i * 31, none⟩) (n + m - i) dc, .slice (some ⟨vb, 0, none⟩) m vc]).run Try.prog W = .ok (goInt m) (W.setRow b (spl2 31 cur.toList i m n vs).toArray) := fun W hW hv ty dc => by
  refine run_copy_at (i := i0) W (elem := 90) (by kernel_rfl) hi0 (by simp only [Nat.min_def]; split <;> omega) ?_ hW (by rw [List.size_toArray, hvl]; have h9 := hs1; unfold spl1 at h9; rw [h9]; have : (i + m) * 31 ≤ c * 31 := Nat.mul_le_mul_right _ (by omega); omega) h1v
  rw [hs0]
  exact run_firstCells_some W 31 m ⟨vb, 0, none⟩ _ _ _ hvl (fun j v hj => by rw [Addr.add_lit]; exact hv j v hj)
 have hWh : (w.drew.setRow b (spl1 31 cur.toList i m n).toArray).heap[b]? = some (.cells (spl1 31 cur.toList i m n).toArray te (0, 0)) := setRow_heap' (w := w.drew) hh _
 have hcp1' := hcp1 w.drew hh
 have hvs' : ∀ j v, vs[j]? = some v → (w.drew.setRow b (spl1 31 cur.toList i m n).toArray).cell? ⟨vb, 0 + j, none⟩ = some v := fun j v hj => by
  rw [← hvs j v hj]
  simp only [World.cell?]
  rw [show (w.drew.setRow b (spl1 31 cur.toList i m n).toArray).heap[vb]? = w.heap[vb]? from setRow_other w.drew b _ hvb]
 have e2 := hcp2 _ hWh hvs'
 clear hcp1 hcp2 hWh hvs'
 go_enter Try.func133, Try.ntmps133
 go_wp2_with (simp only [hov])
 go_region_law_o (refine step_copy_run rfl _ _ 74 74 rfl _ _ (by simp [Act.eval, Act.put]) (by simp [Act.eval, Act.put]) (hcp1' _ _ _) ?_)
 clear hcp1' hov
 go_wp2
 go_ret
 exact ⟨rfl, _, rfl, rfl⟩
theorem slices_Insert_Node_grow (mixed : Try.prog.follows .mixedOrders = true) (b n c i vb m vc : Nat) (cur : Array Value) (te : TypeId) (vs : List Value) (w : World) (hi : i < n) (hm : 0 < m) (hnc : n ≤ c) (hroom : c < n + m) (hbig : (n + m) * 328 ≤ 17592186044416)
  (hh : w.heap[b]? = some (.cells cur te (0, 0))) (hsz : cur.size = c * 31) (hvl : vs.length = m * 31)
  (hvs : ∀ j v, vs[j]? = some v → w.cell? ⟨vb, 0 + j, none⟩ = some v) (h1c : ∀ v ∈ mid 31 cur.toList i n, v.oneCell' = true) (h1v : ∀ v ∈ vs, v.oneCell' = true) :
  Calls Try.prog 133 #[.slice (some ⟨b, 0, none⟩) n c, .int .i64 i, .slice (some ⟨vb, 0, none⟩) m vc] w fun e w' => ∃ (te : TypeId) (G : Nat) (ROW : Array Value) (w1 w2 : World),
   e = .returned (.slice (some ⟨w.heap.size, 0, none⟩) (n + m) G) ∧ n + m ≤ G ∧ ROW.size = G * 31 ∧ ROW.toList.take (i * 31) = cur.toList.take (i * 31) ∧
   w1 = (w.alloc (.cells ROW te)).drew ∧ w2 = (w1.setRow w.heap.size (gr1 31 ROW.toList i vs).toArray).drew ∧ w' = w2.setRow w.heap.size (gr2 31 ROW.toList cur.toList i m n vs).toArray := by
 have uS : ∀ w, (underlying 74).run Try.prog w = .ok (.slice 90) w := fun w => run_underlying (by kernel_rfl) w
 have zE : ∀ w, (sizeOf 90).run Try.prog w = .ok 31 w := fun w => rfl
 obtain ⟨i0, hi0, hs0, hb0, z, hz, hzc⟩ : ∃ i0, Try.prog.info? 90 = some i0 ∧ i0.size = 31 ∧ i0.bytes = 328 ∧ ∃ z, i0.zero = some z ∧ z.cells.size = 31 := ⟨_, rfl, rfl, rfl, _, rfl, rfl⟩
 have hz1 : ¬ ((m : Int) = 0) := by omega
 have hz2 : ¬ ((i : Int) = (n : Int)) := by omega
 have hz3 : (c : Int) < (n : Int) + (m : Int) := by omega
 have hkk : (n : Int) + (m : Int) - (i : Int) = ((n + m - i : Nat) : Int) := by omega
 have hik : i + (n + m - i) = n + m := by omega
 have hw1 : IntKind.i64.wrap ((i : Int) + (m : Int)) = (i : Int) + (m : Int) := by rw [IntKind.wrap_i64]; omega
 have hw2 : IntKind.i64.wrap ((n : Int) + (m : Int)) = (n : Int) + (m : Int) := by rw [IntKind.wrap_i64]; omega
 have hw3 : IntKind.i64.wrap ((n : Int) + (m : Int) - (i : Int)) = (n : Int) + (m : Int) - (i : Int) := by rw [IntKind.wrap_i64]; omega
 have hb1 : (0 : Int) ≤ (i : Int) + (m : Int) := by omega
 have hin : i ≤ n := by omega
 have htn : ((i : Int) + (m : Int)).toNat = i + m := by omega
 have hb3 : (i : Int) ≤ (n : Int) := by omega
 have hcl : cur.toList.length = c * 31 := by simpa using hsz
 have hml : (mid 31 cur.toList i n).length = (n - i) * 31 := mid_len (c := c) (by omega) hcl
 have hold : (Builtin.firstCells i0.size i (.slice (some ⟨b, 0, none⟩) i c)).run Try.prog w.drew = .ok (cur.toList.take (i * 31)).toArray w.drew := by
  rw [hs0]
  refine run_firstCells_some w.drew 31 i ⟨b, 0, none⟩ i c (cur.toList.take (i * 31)) (by rw [List.length_take, hcl]; have : i * 31 ≤ c * 31 := Nat.mul_le_mul_right _ (by omega); omega) fun j v hj => ?_
  rw [Addr.add_lit, cell_at (w := w.drew) hh, Nat.zero_add]
  rw [List.getElem?_take] at hj
  split at hj
  ·simpa using hj
  ·cases hj
 obtain ⟨G, hG⟩ : ∃ G, G = grownCap w (n + m) c 90 := ⟨_, rfl⟩
 obtain ⟨ROW, hROW⟩ : ∃ ROW : Array Value, ROW = (cur.toList.take (i * 31)).toArray ++ Builtin.zeroCells z.cells (n + m - i) ++ Builtin.zeroCells z.cells (G - (n + m)) := ⟨_, rfl⟩
 have hrz : ∀ ty, (Builtin.append_ #[74, 3] ty #[.slice (some ⟨b, 0, none⟩) i c, .int .i64 ((n : Int) + (m : Int) - (i : Int))]).run Try.prog w = .ok (.slice (some ⟨w.heap.size, 0, none⟩) (n + m) G) (w.drew.alloc (.cells ROW 90)) := fun ty => by
  have h := Lib.run_append_grow_zeros w 74 3 ty 90 i0 z .i64 .i64 (by kernel_rfl) (by kernel_rfl) hi0 hz (some ⟨b, 0, none⟩) i c (cur.toList.take (i * 31)) hold (n + m - i) (by omega) (by omega) (by omega) (by omega) (by rw [hb0]; omega) (by rw [hb0, hik]; exact fit_of (by unfold room; omega) hroom (by omega))
  rw [hik] at h
  rw [hkk, hROW, hG]
  exact h
 have hGn : n + m ≤ G := by rw [hG]; unfold grownCap; simp [Question.cut]
 have hG63 : G ≤ 9223372036854775807 := by
  have := grownCap_le_maxLen w (n + m) c 90 (by unfold maxLen; omega)
  rw [← hG] at this
  unfold maxLen at this
  omega
 have hRs : ROW.size = G * 31 := by
  have : i * 31 ≤ c * 31 := Nat.mul_le_mul_right _ (by omega)
  rw [hROW]; simp only [Array.size_append, List.size_toArray, List.length_take, hcl, Builtin.zeroCells, Array.size_map, Array.size_range, hzc]; omega
 have hRt : ROW.toList.take (i * 31) = cur.toList.take (i * 31) := by
  have : i * 31 ≤ c * 31 := Nat.mul_le_mul_right _ (by omega)
  have hl : (cur.toList.take (i * 31)).length = i * 31 := by rw [List.length_take, hcl]; omega
  rw [hROW]; simp only [Array.toList_append, List.append_assoc]
  rw [List.take_append_of_le_length (by omega)]; exact List.take_of_length_le (by omega)
 have hGi : ¬ (G = i) := by omega
 have hGim : ¬ (G = i + m) := by omega
 have hci : ¬ (c = i) := by omega
 clear hROW hG
 have hg1 : (gr1 31 ROW.toList i vs).length = G * 31 := by
  simp only [gr1, List.length_append, List.length_take, List.length_drop, Array.length_toList, hRs, hvl]; omega
 have hN : ∀ W : World, (W.alloc (.cells ROW 90)).heap[W.heap.size]? = some (.cells ROW 90 (0, 0)) := fun W => by show (W.heap.push _)[W.heap.size]? = _; simp
 have hbw : b < w.heap.size := (Array.getElem?_eq_some_iff.1 hh).1
 have hcpA : ∀ (W : World), W.heap[w.heap.size]? = some (.cells ROW 90 (0, 0)) → (∀ j v, vs[j]? = some v → W.cell? ⟨vb, 0 + j, none⟩ = some v) → ∀ ty dc, (Builtin.copy_ #[74, 74] ty #[.slice (some ⟨w.heap.size, i * 31, none⟩) (n + m - i) dc, .slice (some ⟨vb, 0, none⟩) m vc]).run Try.prog W = .ok (goInt m) (W.setRow w.heap.size (gr1 31 ROW.toList i vs).toArray) := fun W hW hv ty dc => by
  refine run_copy_at (i := i0) W (elem := 90) (by kernel_rfl) hi0 (by simp only [Nat.min_def]; split <;> omega) ?_ hW (by rw [hvl, hRs]; omega) h1v
  rw [hs0]
  exact run_firstCells_some W 31 m ⟨vb, 0, none⟩ _ _ _ hvl (fun j v hj => by rw [Addr.add_lit]; exact hv j v hj)
 have hcpB : ∀ (W : World), W.heap[w.heap.size]? = some (.cells (gr1 31 ROW.toList i vs).toArray 90 (0, 0)) → W.heap[b]? = some (.cells cur te (0, 0)) → ∀ ty dc sc, (Builtin.copy_ #[74, 74] ty #[.slice (some ⟨w.heap.size, (i + m) * 31, none⟩) (n + m - (i + m)) dc, .slice (some ⟨b, i * 31, none⟩) (n - i) sc]).run Try.prog W = .ok (goInt (n - i : Nat)) (W.setRow w.heap.size (gr2 31 ROW.toList cur.toList i m n vs).toArray) := fun W hW hv ty dc sc => by
  refine run_copy_at (i := i0) W (elem := 90) (by kernel_rfl) hi0 (by simp only [Nat.min_def]; split <;> omega) ?_ hW (by rw [List.size_toArray, hml]; have h9 := hg1; unfold gr1 at h9; rw [h9]; omega) h1c
  rw [hs0]
  refine run_firstCells_some W 31 (n - i) ⟨b, i * 31, none⟩ _ _ _ hml (fun j v hj => ?_)
  rw [Addr.add_lit, cell_at hv]
  unfold mid at hj
  rw [List.getElem?_take] at hj
  split at hj
  ·rw [List.getElem?_drop] at hj; simpa using hj
  ·cases hj
 have hvw : ∀ j v, vs[j]? = some v → vb < w.heap.size := fun j v hj => by
  have := hvs j v hj
  simp only [World.cell?] at this
  rcases Nat.lt_or_ge vb w.heap.size with h | h
  ·exact h
  ·rw [Array.getElem?_eq_none h] at this; cases this
 have eA := hcpA ((w.alloc (.cells ROW 90)).drew) (hN w) (fun j v hj => by
  rw [← hvs j v hj]
  have := hvw j v hj
  show World.cell? (w.alloc _) _ = _
  simp only [World.cell?, World.alloc]
  rw [Array.getElem?_push, if_neg (by show ¬ vb = w.heap.size; omega)])
 have hWB : ∀ W : World, W.heap = ((w.alloc (.cells ROW 90)).drew.setRow w.heap.size (gr1 31 ROW.toList i vs).toArray).heap → W.heap[w.heap.size]? = some (.cells (gr1 31 ROW.toList i vs).toArray 90 (0, 0)) ∧ W.heap[b]? = some (.cells cur te (0, 0)) := fun W hW => by
  constructor
  ·rw [hW]; exact setRow_heap' (w := (w.alloc (.cells ROW 90)).drew) (hN w) _
  ·rw [hW, setRow_other _ _ _ (by omega : b ≠ w.heap.size), ← hh]
   show (w.heap.push _)[b]? = _
   rw [Array.getElem?_push, if_neg (by omega)]
 have eB := hcpB (((w.alloc (.cells ROW 90)).drew.setRow w.heap.size (gr1 31 ROW.toList i vs).toArray).drew) (hWB _ rfl).1 (hWB _ rfl).2
 clear hcpA hcpB hWB hN hold hkk hik hvw
 go_enter Try.func133, Try.ntmps133
 go_wp2_with (at_builtin; refine Lib.wpList_append_run _ rfl _ _ _ _ rfl _ _ rfl rfl _ _ (hrz _) ?_)
 go_wp2
 go_region_law_o (refine step_copy_run rfl _ _ 74 74 rfl _ _ (by simp [Act.eval, Act.put]) (by simp [Act.eval, Act.put]) (eB _ _ _) ?_)
 go_wp2
 go_ret
 exact ⟨_, G, ROW, _, _, rfl, hGn, hRs, hRt, rfl, rfl, rfl⟩
theorem slices_Insert_Node_ok0 (hm : Try.prog.follows .mixedOrders = true) : Sound Try.prog 133 slices_Insert_Node_x := by
 refine xOf_sound fun q r h => ?_
 obtain ⟨a0, a1, a2, a3⟩ := q
 have H : HS (slices_Insert_Node a0 a1 a2 a3) r := h
 clear h; unfold slices_Insert_Node at H
 cases hq : (ieq a1 (a0 : Int)) with
 | false =>
  replace H := HS.cnd_f hq H
  obtain ⟨⟨h1, h2, h3, h4, h5⟩, H⟩ := HS.chkP H
  have hr := (HS.some H).symm; subst hr
  dsimp only [slices_Insert_Node_e, slices_Insert_Node_v]
  refine ⟨⟨Try.f133, _, Try.func133, rfl, by decide +kernel⟩, ?_⟩
  have hh := ins_ok (P := Try.prog) (f := 133) (K := 31) (B := 328) (by decide) (slices_Insert_Node_shift hm) (slices_Insert_Node_grow hm) (es := List.map eNode a2) (vs := List.map eNode a3) (k := a0) (i := a1) (ro := false) (by simpa using h3) h1 h2 (by simpa using h4) (by simpa using h5)
  have e1 := insR_len (c := a2) (v := a3) (k := a0) (i := a1) (by omega) h3
  have e2 := insL_len (c := a2) (v := a3) (k := a0) (i := a1) (by omega) h3
  simp only [List.length_map, ← insR_map, ← insL_map] at hh ⊢
  simp only [e1, e2] at hh ⊢
  first | exact hh | simpa using hh
 | true =>
 replace H := HS.cnd_t hq H
 refine fn_ok E0 hm Try.func133 rfl (by decide +kernel) (by rfl) fun Γ hn hk => ?_
 dsimp only [slices_Insert_Node_e, slices_Insert_Node_v]
 replace hn : Γ.n = 95 := hn
 replace hk : Γ.k = 2 := hk
 try simp -implicitDefEqProofs at H
 refine Tr.of_vc (cl := tabC []) (E := E0) [] tab_nil hm (by rw [hn]; decide +kernel) ?_
 try simp -implicitDefEqProofs +decide (maxSteps := 999999) [-selQ_sel, hokQ_of, -appO_some, appO_part, appO_whole, hq]
 obtain ⟨h_1, H⟩ := HS.chkP H
 try simp -implicitDefEqProofs +decide (maxSteps := 999999) [-selQ_sel, hokQ_of, -appO_some, appO_part, appO_whole, hq, h_1]
 obtain ⟨v1, h_2, H⟩ := HS.bnd H
 have s_3 := (slc_spec h_2).1
 have s_4 := slc_fit h_2
 have s_5 := slc_map (e := eNode) h_2
 have s_6 := (slc_spec h_2).2.1
 simp -implicitDefEqProofs at s_3 s_4 s_5 s_6
 try simp only [s_6] at s_4 s_5
 try simp -implicitDefEqProofs +decide (maxSteps := 999999) [-selQ_sel, hokQ_of, -appO_some, appO_part, appO_whole, hq, h_1, h_2, s_3, s_4, s_5, s_6]
 refine Hid.brV (fun h_7 => ?_) (fun h_7 => ?_)
 ·replace H := HS.cnd_t h_7 H
  try simp -implicitDefEqProofs +decide (maxSteps := 999999) [-selQ_sel, hokQ_of, -appO_some, appO_part, appO_whole, hq, h_1, h_2, s_3, s_4, s_5, s_6, h_7]
  have hr := (HS.some H).symm; subst hr
  refine Hid.mk ⟨⟨[(6, AV.osl 0 0 a0 (List.length a2))], [(0, Ob.arr 31 (List.map eNode a2) false), (1, Ob.arr 31 (List.map eNode a3) false)], 2⟩, Wk.ofk [0, 1] hk (by rfl) (by simp -implicitDefEqProofs [hq, h_1, h_2, s_3, s_4, s_5, s_6, h_7]) (by simp -implicitDefEqProofs [hq, h_1, h_2, s_3, s_4, s_5, s_6, h_7]), ?_⟩
  try simp -implicitDefEqProofs +decide (maxSteps := 999999) [-selQ_sel, hokQ_of, -appO_some, appO_part, appO_whole, hq, h_1, h_2, s_3, s_4, s_5, s_6, h_7]
 ·replace H := HS.cnd_f h_7 H
  try simp -implicitDefEqProofs +decide (maxSteps := 999999) [-selQ_sel, hokQ_of, -appO_some, appO_part, appO_whole, hq, h_1, h_2, s_3, s_4, s_5, s_6, h_7]
  cases h_8 : (ieq (a0 : Int) (List.length a2 : Int)) with
  | true =>
   replace H := HS.cnd_t h_8 H
   have h_9 : a0 = List.length a2 := by have := h_8; simp [ieq] at this; omega
   clear h_8
   try simp -implicitDefEqProofs +decide (maxSteps := 999999) [-selQ_sel, hokQ_of, -appO_some, appO_part, appO_whole, hq, h_1, h_2, s_3, s_4, s_5, s_6, h_7, h_9]
   obtain ⟨h_10, H⟩ := HS.chkP H
   try simp -implicitDefEqProofs +decide (maxSteps := 999999) [-selQ_sel, hokQ_of, -appO_some, appO_part, appO_whole, hq, h_1, h_2, s_3, s_4, s_5, s_6, h_7, h_9, h_10]
   obtain ⟨l2, h_11, H⟩ := HS.nam H
   have m_12 := congrArg (List.map eNode) h_11
   have q_13 := congrArg List.length h_11
   simp -implicitDefEqProofs at m_12 q_13
   try simp only [q_13] at m_12
   try simp only [q_13] at h_10
   try simp only [q_13] at s_3
   try simp only [q_13] at s_4
   try simp only [q_13] at s_5
   try simp only [q_13] at s_6
   try simp -implicitDefEqProofs +decide (maxSteps := 999999) [-selQ_sel, hokQ_of, -appO_some, appO_part, appO_whole, hq, h_1, h_2, s_3, s_4, s_5, s_6, h_7, h_9, h_10, m_12, q_13]
   have hr := (HS.some H).symm; subst hr
   refine Hid.mk ⟨⟨[(6, AV.osl 0 0 (List.length l2) (List.length l2))], [(0, Ob.arr 31 (List.map eNode l2) false), (1, Ob.arr 31 (List.map eNode a3) false)], 2⟩, Wk.ofk [0, 1] hk (by rfl) (by simp -implicitDefEqProofs [hq, h_1, h_2, s_3, s_4, s_5, s_6, h_7, h_9, h_10, m_12, q_13]) (by simp -implicitDefEqProofs [hq, h_1, h_2, s_3, s_4, s_5, s_6, h_7, h_9, h_10, m_12, q_13]), ?_⟩
   try simp -implicitDefEqProofs +decide (maxSteps := 999999) [-selQ_sel, hokQ_of, -appO_some, appO_part, appO_whole, hq, h_1, h_2, s_3, s_4, s_5, s_6, h_7, h_9, h_10, m_12, q_13]
  | false =>
   replace H := HS.cnd_f h_8 H
   try simp -implicitDefEqProofs +decide (maxSteps := 999999) [-selQ_sel, hokQ_of, -appO_some, appO_part, appO_whole, hq, h_1, h_2, s_3, s_4, s_5, s_6, h_7, h_8]
   obtain ⟨h_14, H⟩ := HS.chkP H
   try simp -implicitDefEqProofs +decide (maxSteps := 999999) [-selQ_sel, hokQ_of, -appO_some, appO_part, appO_whole, hq, h_1, h_2, s_3, s_4, s_5, s_6, h_7, h_8, h_14]
   obtain ⟨h_15, H⟩ := HS.chkP H
   try simp -implicitDefEqProofs +decide (maxSteps := 999999) [-selQ_sel, hokQ_of, -appO_some, appO_part, appO_whole, hq, h_1, h_2, s_3, s_4, s_5, s_6, h_7, h_8, h_14, h_15]
   obtain ⟨l3, h_16, H⟩ := HS.nam H
   have m_17 := congrArg (List.map eNode) h_16
   have q_18 := congrArg List.length h_16
   rw [ovr_len (by simp -implicitDefEqProofs [h_1, h_2, s_3, s_4, s_5, s_6, h_7, h_8, h_14, h_15])] at q_18
   simp -implicitDefEqProofs at m_17 q_18
   try simp only [q_18] at m_17
   try simp only [q_18] at h_15
   try simp only [q_18] at s_3
   try simp only [q_18] at s_4
   try simp only [q_18] at s_5
   try simp only [q_18] at s_6
   try simp -implicitDefEqProofs +decide (maxSteps := 999999) [-selQ_sel, hokQ_of, -appO_some, appO_part, appO_whole, hq, h_1, h_2, s_3, s_4, s_5, s_6, h_7, h_8, h_14, h_15, m_17, q_18]
   obtain ⟨v4, h_19, H⟩ := HS.bnd H
   have s_20 := (slc_spec h_19).1
   have s_21 := slc_fit h_19
   have s_22 := slc_map (e := eNode) h_19
   have s_23 := (slc_spec h_19).2.1
   simp -implicitDefEqProofs at s_20 s_21 s_22 s_23
   try simp only [s_23] at s_21 s_22
   have s_24 := slc_hi h_19
   try simp -implicitDefEqProofs +decide (maxSteps := 999999) [-selQ_sel, hokQ_of, -appO_some, appO_part, appO_whole, hq, h_1, h_2, s_3, s_4, s_5, s_6, h_7, h_8, h_14, h_15, m_17, q_18, h_19, s_20, s_21, s_22, s_23, s_24]
   have hr := (HS.some H).symm; subst hr
   refine Hid.mk ⟨⟨[(6, AV.osl 0 0 (List.length v4) (List.length l3))], [(0, Ob.arr 31 (List.map eNode l3) false), (1, Ob.arr 31 (List.map eNode a3) false)], 2⟩, Wk.ofk [0, 1] hk (by rfl) (by simp -implicitDefEqProofs [hq, h_1, h_2, s_3, s_4, s_5, s_6, h_7, h_8, h_14, h_15, m_17, q_18, h_19, s_20, s_21, s_22, s_23, s_24]) (by simp -implicitDefEqProofs [hq, h_1, h_2, s_3, s_4, s_5, s_6, h_7, h_8, h_14, h_15, m_17, q_18, h_19, s_20, s_21, s_22, s_23, s_24]), ?_⟩
   try simp -implicitDefEqProofs +decide (maxSteps := 999999) [-selQ_sel, hokQ_of, -appO_some, appO_part, appO_whole, hq, h_1, h_2, s_3, s_4, s_5, s_6, h_7, h_8, h_14, h_15, m_17, q_18, h_19, s_20, s_21, s_22, s_23, s_24]
theorem spec_NodeOk_ok0 (hm : Try.prog.follows .mixedOrders = true) (k_spec_l01In : Sound Try.prog 91 spec_l01In_x) (k_spec_MatOk : Sound Try.prog 183 spec_MatOk_x) (k_spec_PathOk : Sound Try.prog 184 spec_PathOk_x) (k_spec_DashOk : Sound Try.prog 185 spec_DashOk_x) (k_spec_l15NoPath : Sound Try.prog 186 spec_l15NoPath_x) (k_spec_l15NoPaint : Sound Try.prog 187 spec_l15NoPaint_x) (k_spec_PaintOk : Sound Try.prog 188 spec_PaintOk_x) : Sound Try.prog 118 spec_NodeOk_x := by
 refine xOf_sound fun q r h => ?_
 revert h; revert r; revert q; intro a0 r h
 refine fn_ok E0 hm Try.func118 rfl (by decide +kernel) (by rfl) fun Γ hn hk => ?_
 dsimp only [spec_NodeOk_e, spec_NodeOk_v]
 replace hn : Γ.n = 91 := hn
 replace hk : Γ.k = 0 := hk
 have H : HS (spec_NodeOk a0) r := h
 clear h; unfold spec_NodeOk at H
 try simp -implicitDefEqProofs at H
 refine Tr.of_vc (cl := tabC [(91, spec_l01In_x), (183, spec_MatOk_x), (184, spec_PathOk_x), (185, spec_DashOk_x), (186, spec_l15NoPath_x), (187, spec_l15NoPaint_x), (188, spec_PaintOk_x)]) (E := E0) [] (tab_cons k_spec_l01In (tab_cons k_spec_MatOk (tab_cons k_spec_PathOk (tab_cons k_spec_DashOk (tab_cons k_spec_l15NoPath (tab_cons k_spec_l15NoPaint (tab_cons k_spec_PaintOk tab_nil))))))) hm (by rw [hn]; decide +kernel) ?_
 try simp -implicitDefEqProofs (maxSteps := 999999) [-selQ_sel]
 obtain ⟨v1, h_1, H⟩ := HS.bnd H
 try simp -implicitDefEqProofs (maxSteps := 999999) [-selQ_sel, h_1]
 refine Hid.selQ (fun h_2 => ?_) (fun h_2 => ?_)
 ·replace H := HS.cnd_t h_2 H
  try simp -implicitDefEqProofs (maxSteps := 999999) [-selQ_sel, h_1, h_2]
  obtain ⟨v2, h_3, H⟩ := HS.bnd H
  try simp -implicitDefEqProofs (maxSteps := 999999) [-selQ_sel, h_1, h_2, h_3]
  refine Hid.selQ (fun h_4 => ?_) (fun h_4 => ?_)
  ·replace H := HS.cnd_t h_4 H
   try simp -implicitDefEqProofs (maxSteps := 999999) [-selQ_sel, h_1, h_2, h_3, h_4]
   refine Hid.selQ (fun h_5 => ?_) (fun h_5 => ?_)
   ·replace H := HS.cnd_t h_5 H
    try simp -implicitDefEqProofs (maxSteps := 999999) [-selQ_sel, h_1, h_2, h_3, h_4, h_5]
    have hr := (HS.some H).symm; subst hr
    refine Hid.mk ⟨_, Wk.refl _, ?_⟩
    try simp -implicitDefEqProofs (maxSteps := 999999) [-selQ_sel, h_1, h_2, h_3, h_4, h_5]
   ·replace H := HS.cnd_f h_5 H
    try simp -implicitDefEqProofs (maxSteps := 999999) [-selQ_sel, h_1, h_2, h_3, h_4, h_5]
    obtain ⟨v3, h_6, H⟩ := HS.bnd H
    try simp -implicitDefEqProofs (maxSteps := 999999) [-selQ_sel, h_1, h_2, h_3, h_4, h_5, h_6]
    refine Hid.selQ (fun h_7 => ?_) (fun h_7 => ?_)
    ·replace H := HS.cnd_t h_7 H
     try simp -implicitDefEqProofs (maxSteps := 999999) [-selQ_sel, h_1, h_2, h_3, h_4, h_5, h_6, h_7]
     obtain ⟨v4, h_8, H⟩ := HS.bnd H
     try simp -implicitDefEqProofs (maxSteps := 999999) [-selQ_sel, h_1, h_2, h_3, h_4, h_5, h_6, h_7, h_8]
     refine Hid.selQ (fun h_9 => ?_) (fun h_9 => ?_)
     ·replace H := HS.cnd_t h_9 H
      try simp -implicitDefEqProofs (maxSteps := 999999) [-selQ_sel, h_1, h_2, h_3, h_4, h_5, h_6, h_7, h_8, h_9]
      obtain ⟨v5, h_10, H⟩ := HS.bnd H
      try simp -implicitDefEqProofs (maxSteps := 999999) [-selQ_sel, h_1, h_2, h_3, h_4, h_5, h_6, h_7, h_8, h_9, h_10]
      refine Hid.selQ (fun h_11 => ?_) (fun h_11 => ?_)
      ·replace H := HS.cnd_t h_11 H
       try simp -implicitDefEqProofs (maxSteps := 999999) [-selQ_sel, h_1, h_2, h_3, h_4, h_5, h_6, h_7, h_8, h_9, h_10, h_11]
       obtain ⟨v6, h_12, H⟩ := HS.bnd H
       try simp -implicitDefEqProofs (maxSteps := 999999) [-selQ_sel, h_1, h_2, h_3, h_4, h_5, h_6, h_7, h_8, h_9, h_10, h_11, h_12]
       refine Hid.selQ (fun h_13 => ?_) (fun h_13 => ?_)
       ·replace H := HS.cnd_t h_13 H
        try simp -implicitDefEqProofs (maxSteps := 999999) [-selQ_sel, h_1, h_2, h_3, h_4, h_5, h_6, h_7, h_8, h_9, h_10, h_11, h_12, h_13]
        obtain ⟨v7, h_14, H⟩ := HS.bnd H
        try simp -implicitDefEqProofs (maxSteps := 999999) [-selQ_sel, h_1, h_2, h_3, h_4, h_5, h_6, h_7, h_8, h_9, h_10, h_11, h_12, h_13, h_14]
        refine Hid.selQ (fun h_15 => ?_) (fun h_15 => ?_)
        ·replace H := HS.cnd_t h_15 H
         try simp -implicitDefEqProofs (maxSteps := 999999) [-selQ_sel, h_1, h_2, h_3, h_4, h_5, h_6, h_7, h_8, h_9, h_10, h_11, h_12, h_13, h_14, h_15]
         obtain ⟨v8, h_16, H⟩ := HS.bnd H
         try simp -implicitDefEqProofs (maxSteps := 999999) [-selQ_sel, h_1, h_2, h_3, h_4, h_5, h_6, h_7, h_8, h_9, h_10, h_11, h_12, h_13, h_14, h_15, h_16]
         refine Hid.selQ (fun h_17 => ?_) (fun h_17 => ?_)
         ·replace H := HS.cnd_t h_17 H
          try simp -implicitDefEqProofs (maxSteps := 999999) [-selQ_sel, h_1, h_2, h_3, h_4, h_5, h_6, h_7, h_8, h_9, h_10, h_11, h_12, h_13, h_14, h_15, h_16, h_17]
          obtain ⟨v9, h_18, H⟩ := HS.bnd H
          try simp -implicitDefEqProofs (maxSteps := 999999) [-selQ_sel, h_1, h_2, h_3, h_4, h_5, h_6, h_7, h_8, h_9, h_10, h_11, h_12, h_13, h_14, h_15, h_16, h_17, h_18]
          refine Hid.brV (fun h_19 => ?_) (fun h_19 => ?_)
          ·replace H := HS.cnd_t h_19 H
           try simp -implicitDefEqProofs (maxSteps := 999999) [-selQ_sel, h_1, h_2, h_3, h_4, h_5, h_6, h_7, h_8, h_9, h_10, h_11, h_12, h_13, h_14, h_15, h_16, h_17, h_18, h_19]
           refine Hid.brV (fun h_20 => ?_) (fun h_20 => ?_)
           ·replace H := HS.cnd_t h_20 H
            try simp -implicitDefEqProofs (maxSteps := 999999) [-selQ_sel, h_1, h_2, h_3, h_4, h_5, h_6, h_7, h_8, h_9, h_10, h_11, h_12, h_13, h_14, h_15, h_16, h_17, h_18, h_19, h_20]
            obtain ⟨v10, h_21, H⟩ := HS.bnd H
            try simp -implicitDefEqProofs (maxSteps := 999999) [-selQ_sel, h_1, h_2, h_3, h_4, h_5, h_6, h_7, h_8, h_9, h_10, h_11, h_12, h_13, h_14, h_15, h_16, h_17, h_18, h_19, h_20, h_21]
            refine Hid.selQ (fun h_22 => ?_) (fun h_22 => ?_)
            ·replace H := HS.cnd_t h_22 H
             try simp -implicitDefEqProofs (maxSteps := 999999) [-selQ_sel, h_1, h_2, h_3, h_4, h_5, h_6, h_7, h_8, h_9, h_10, h_11, h_12, h_13, h_14, h_15, h_16, h_17, h_18, h_19, h_20, h_21, h_22]
             obtain ⟨v11, h_23, H⟩ := HS.bnd H
             try simp -implicitDefEqProofs (maxSteps := 999999) [-selQ_sel, h_1, h_2, h_3, h_4, h_5, h_6, h_7, h_8, h_9, h_10, h_11, h_12, h_13, h_14, h_15, h_16, h_17, h_18, h_19, h_20, h_21, h_22, h_23]
             refine Hid.selQ (fun h_24 => ?_) (fun h_24 => ?_)
             ·replace H := HS.cnd_t h_24 H
              try simp -implicitDefEqProofs (maxSteps := 999999) [-selQ_sel, h_1, h_2, h_3, h_4, h_5, h_6, h_7, h_8, h_9, h_10, h_11, h_12, h_13, h_14, h_15, h_16, h_17, h_18, h_19, h_20, h_21, h_22, h_23, h_24]
              refine Hid.selQ (fun h_25 => ?_) (fun h_25 => ?_)
              ·replace H := HS.cnd_t h_25 H
               try simp -implicitDefEqProofs (maxSteps := 999999) [-selQ_sel, h_1, h_2, h_3, h_4, h_5, h_6, h_7, h_8, h_9, h_10, h_11, h_12, h_13, h_14, h_15, h_16, h_17, h_18, h_19, h_20, h_21, h_22, h_23, h_24, h_25]
               refine Hid.selQ (fun h_26 => ?_) (fun h_26 => ?_)
               ·replace H := HS.cnd_t h_26 H
                try simp -implicitDefEqProofs (maxSteps := 999999) [-selQ_sel, h_1, h_2, h_3, h_4, h_5, h_6, h_7, h_8, h_9, h_10, h_11, h_12, h_13, h_14, h_15, h_16, h_17, h_18, h_19, h_20, h_21, h_22, h_23, h_24, h_25, h_26]
                have hr := (HS.some H).symm; subst hr
                refine Hid.mk ⟨_, Wk.refl _, ?_⟩
                try simp -implicitDefEqProofs (maxSteps := 999999) [-selQ_sel, h_1, h_2, h_3, h_4, h_5, h_6, h_7, h_8, h_9, h_10, h_11, h_12, h_13, h_14, h_15, h_16, h_17, h_18, h_19, h_20, h_21, h_22, h_23, h_24, h_25, h_26]
               ·replace H := HS.cnd_f h_26 H
                try simp -implicitDefEqProofs (maxSteps := 999999) [-selQ_sel, h_1, h_2, h_3, h_4, h_5, h_6, h_7, h_8, h_9, h_10, h_11, h_12, h_13, h_14, h_15, h_16, h_17, h_18, h_19, h_20, h_21, h_22, h_23, h_24, h_25, h_26]
                have hr := (HS.some H).symm; subst hr
                refine Hid.mk ⟨_, Wk.refl _, ?_⟩
                try simp -implicitDefEqProofs (maxSteps := 999999) [-selQ_sel, h_1, h_2, h_3, h_4, h_5, h_6, h_7, h_8, h_9, h_10, h_11, h_12, h_13, h_14, h_15, h_16, h_17, h_18, h_19, h_20, h_21, h_22, h_23, h_24, h_25, h_26]
              ·replace H := HS.cnd_f h_25 H
               try simp -implicitDefEqProofs (maxSteps := 999999) [-selQ_sel, h_1, h_2, h_3, h_4, h_5, h_6, h_7, h_8, h_9, h_10, h_11, h_12, h_13, h_14, h_15, h_16, h_17, h_18, h_19, h_20, h_21, h_22, h_23, h_24, h_25]
               have hr := (HS.some H).symm; subst hr
               refine Hid.mk ⟨_, Wk.refl _, ?_⟩
               try simp -implicitDefEqProofs (maxSteps := 999999) [-selQ_sel, h_1, h_2, h_3, h_4, h_5, h_6, h_7, h_8, h_9, h_10, h_11, h_12, h_13, h_14, h_15, h_16, h_17, h_18, h_19, h_20, h_21, h_22, h_23, h_24, h_25]
             ·replace H := HS.cnd_f h_24 H
              try simp -implicitDefEqProofs (maxSteps := 999999) [-selQ_sel, h_1, h_2, h_3, h_4, h_5, h_6, h_7, h_8, h_9, h_10, h_11, h_12, h_13, h_14, h_15, h_16, h_17, h_18, h_19, h_20, h_21, h_22, h_23, h_24]
              have hr := (HS.some H).symm; subst hr
              refine Hid.mk ⟨_, Wk.refl _, ?_⟩
              try simp -implicitDefEqProofs (maxSteps := 999999) [-selQ_sel, h_1, h_2, h_3, h_4, h_5, h_6, h_7, h_8, h_9, h_10, h_11, h_12, h_13, h_14, h_15, h_16, h_17, h_18, h_19, h_20, h_21, h_22, h_23, h_24]
            ·replace H := HS.cnd_f h_22 H
             try simp -implicitDefEqProofs (maxSteps := 999999) [-selQ_sel, h_1, h_2, h_3, h_4, h_5, h_6, h_7, h_8, h_9, h_10, h_11, h_12, h_13, h_14, h_15, h_16, h_17, h_18, h_19, h_20, h_21, h_22]
             have hr := (HS.some H).symm; subst hr
             refine Hid.mk ⟨_, Wk.refl _, ?_⟩
             try simp -implicitDefEqProofs (maxSteps := 999999) [-selQ_sel, h_1, h_2, h_3, h_4, h_5, h_6, h_7, h_8, h_9, h_10, h_11, h_12, h_13, h_14, h_15, h_16, h_17, h_18, h_19, h_20, h_21, h_22]
           ·replace H := HS.cnd_f h_20 H
            try simp -implicitDefEqProofs (maxSteps := 999999) [-selQ_sel, h_1, h_2, h_3, h_4, h_5, h_6, h_7, h_8, h_9, h_10, h_11, h_12, h_13, h_14, h_15, h_16, h_17, h_18, h_19, h_20]
            obtain ⟨v12, h_27, H⟩ := HS.bnd H
            try simp -implicitDefEqProofs (maxSteps := 999999) [-selQ_sel, h_1, h_2, h_3, h_4, h_5, h_6, h_7, h_8, h_9, h_10, h_11, h_12, h_13, h_14, h_15, h_16, h_17, h_18, h_19, h_20, h_27]
            have hr := (HS.some H).symm; subst hr
            refine Hid.mk ⟨_, Wk.refl _, ?_⟩
            try simp -implicitDefEqProofs (maxSteps := 999999) [-selQ_sel, h_1, h_2, h_3, h_4, h_5, h_6, h_7, h_8, h_9, h_10, h_11, h_12, h_13, h_14, h_15, h_16, h_17, h_18, h_19, h_20, h_27]
          ·replace H := HS.cnd_f h_19 H
           try simp -implicitDefEqProofs (maxSteps := 999999) [-selQ_sel, h_1, h_2, h_3, h_4, h_5, h_6, h_7, h_8, h_9, h_10, h_11, h_12, h_13, h_14, h_15, h_16, h_17, h_18, h_19]
           have hr := (HS.some H).symm; subst hr
           refine Hid.mk ⟨_, Wk.refl _, ?_⟩
           try simp -implicitDefEqProofs (maxSteps := 999999) [-selQ_sel, h_1, h_2, h_3, h_4, h_5, h_6, h_7, h_8, h_9, h_10, h_11, h_12, h_13, h_14, h_15, h_16, h_17, h_18, h_19]
         ·replace H := HS.cnd_f h_17 H
          try simp -implicitDefEqProofs (maxSteps := 999999) [-selQ_sel, h_1, h_2, h_3, h_4, h_5, h_6, h_7, h_8, h_9, h_10, h_11, h_12, h_13, h_14, h_15, h_16, h_17]
          have hr := (HS.some H).symm; subst hr
          refine Hid.mk ⟨_, Wk.refl _, ?_⟩
          try simp -implicitDefEqProofs (maxSteps := 999999) [-selQ_sel, h_1, h_2, h_3, h_4, h_5, h_6, h_7, h_8, h_9, h_10, h_11, h_12, h_13, h_14, h_15, h_16, h_17]
        ·replace H := HS.cnd_f h_15 H
         try simp -implicitDefEqProofs (maxSteps := 999999) [-selQ_sel, h_1, h_2, h_3, h_4, h_5, h_6, h_7, h_8, h_9, h_10, h_11, h_12, h_13, h_14, h_15]
         have hr := (HS.some H).symm; subst hr
         refine Hid.mk ⟨_, Wk.refl _, ?_⟩
         try simp -implicitDefEqProofs (maxSteps := 999999) [-selQ_sel, h_1, h_2, h_3, h_4, h_5, h_6, h_7, h_8, h_9, h_10, h_11, h_12, h_13, h_14, h_15]
       ·replace H := HS.cnd_f h_13 H
        try simp -implicitDefEqProofs (maxSteps := 999999) [-selQ_sel, h_1, h_2, h_3, h_4, h_5, h_6, h_7, h_8, h_9, h_10, h_11, h_12, h_13]
        have hr := (HS.some H).symm; subst hr
        refine Hid.mk ⟨_, Wk.refl _, ?_⟩
        try simp -implicitDefEqProofs (maxSteps := 999999) [-selQ_sel, h_1, h_2, h_3, h_4, h_5, h_6, h_7, h_8, h_9, h_10, h_11, h_12, h_13]
      ·replace H := HS.cnd_f h_11 H
       try simp -implicitDefEqProofs (maxSteps := 999999) [-selQ_sel, h_1, h_2, h_3, h_4, h_5, h_6, h_7, h_8, h_9, h_10, h_11]
       have hr := (HS.some H).symm; subst hr
       refine Hid.mk ⟨_, Wk.refl _, ?_⟩
       try simp -implicitDefEqProofs (maxSteps := 999999) [-selQ_sel, h_1, h_2, h_3, h_4, h_5, h_6, h_7, h_8, h_9, h_10, h_11]
     ·replace H := HS.cnd_f h_9 H
      try simp -implicitDefEqProofs (maxSteps := 999999) [-selQ_sel, h_1, h_2, h_3, h_4, h_5, h_6, h_7, h_8, h_9]
      have hr := (HS.some H).symm; subst hr
      refine Hid.mk ⟨_, Wk.refl _, ?_⟩
      try simp -implicitDefEqProofs (maxSteps := 999999) [-selQ_sel, h_1, h_2, h_3, h_4, h_5, h_6, h_7, h_8, h_9]
    ·replace H := HS.cnd_f h_7 H
     try simp -implicitDefEqProofs (maxSteps := 999999) [-selQ_sel, h_1, h_2, h_3, h_4, h_5, h_6, h_7]
     have hr := (HS.some H).symm; subst hr
     refine Hid.mk ⟨_, Wk.refl _, ?_⟩
     try simp -implicitDefEqProofs (maxSteps := 999999) [-selQ_sel, h_1, h_2, h_3, h_4, h_5, h_6, h_7]
  ·replace H := HS.cnd_f h_4 H
   try simp -implicitDefEqProofs (maxSteps := 999999) [-selQ_sel, h_1, h_2, h_3, h_4]
   have hr := (HS.some H).symm; subst hr
   refine Hid.mk ⟨_, Wk.refl _, ?_⟩
   try simp -implicitDefEqProofs (maxSteps := 999999) [-selQ_sel, h_1, h_2, h_3, h_4]
 ·replace H := HS.cnd_f h_2 H
  try simp -implicitDefEqProofs (maxSteps := 999999) [-selQ_sel, h_1, h_2]
  have hr := (HS.some H).symm; subst hr
  refine Hid.mk ⟨_, Wk.refl _, ?_⟩
  try simp -implicitDefEqProofs (maxSteps := 999999) [-selQ_sel, h_1, h_2]
theorem impl_PlaceNode_ok0 (hm : Try.prog.follows .mixedOrders = true) (k_impl_copyScene : Sound Try.prog 111 impl_copyScene_x) (k_impl_SceneOk : Sound Try.prog 48 impl_SceneOk_x) (k_impl_Scene_isPlace : Sound Try.prog 131 impl_Scene_isPlace_x) (k_impl_UnderOf : Sound Try.prog 122 impl_UnderOf_x) (k_slices_Contains_int : Sound Try.prog 85 slices_Contains_int_x) (k_impl_NodeAt : Sound Try.prog 53 impl_NodeAt_x) (k_slices_Delete_Node : Sound Try.prog 132 slices_Delete_Node_x) (k_slices_Insert_Node : Sound Try.prog 133 slices_Insert_Node_x) (k_impl_DepthOf : Sound Try.prog 114 impl_DepthOf_x) (k_impl_inRange : Sound Try.prog 95 impl_inRange_x) : Sound Try.prog 55 impl_PlaceNode_x := by
 refine xOf_sound fun q r h => ?_
 obtain ⟨a0, a1, a2, a3⟩ := q
 refine fn_ok E0 hm Try.func55 rfl (by decide +kernel) (by rfl) fun Γ hn hk => ?_
 dsimp only [impl_PlaceNode_e, impl_PlaceNode_v]
 replace hn : Γ.n = 82 := hn
 replace hk : Γ.k = 0 := hk
 have H : HS (impl_PlaceNode a0 a1 a2 a3) r := h
 clear h; unfold impl_PlaceNode at H
 try simp -implicitDefEqProofs at H
 refine Tr.of_vc (cl := tabC [(111, impl_copyScene_x), (48, impl_SceneOk_x), (131, impl_Scene_isPlace_x), (122, impl_UnderOf_x), (85, slices_Contains_int_x), (53, impl_NodeAt_x), (132, slices_Delete_Node_x), (133, slices_Insert_Node_x), (114, impl_DepthOf_x), (95, impl_inRange_x)]) (E := E0) [] (tab_cons k_impl_copyScene (tab_cons k_impl_SceneOk (tab_cons k_impl_Scene_isPlace (tab_cons k_impl_UnderOf (tab_cons k_slices_Contains_int (tab_cons k_impl_NodeAt (tab_cons k_slices_Delete_Node (tab_cons k_slices_Insert_Node (tab_cons k_impl_DepthOf (tab_cons k_impl_inRange tab_nil)))))))))) hm (by rw [hn]; decide +kernel) ?_
 try simp -implicitDefEqProofs +decide (maxSteps := 999999) [-selQ_sel, hokQ_of]
 obtain ⟨v1, h_1, H⟩ := HS.bnd H
 try simp -implicitDefEqProofs +decide (maxSteps := 999999) [-selQ_sel, hokQ_of, h_1]
 obtain ⟨v2, h_2, H⟩ := HS.bnd H
 try simp -implicitDefEqProofs +decide (maxSteps := 999999) [-selQ_sel, hokQ_of, h_1, h_2]
 refine Hid.brV (fun h_3 => ?_) (fun h_3 => ?_)
 ·replace H := HS.cnd_t h_3 H
  try simp -implicitDefEqProofs +decide (maxSteps := 999999) [-selQ_sel, hokQ_of, h_1, h_2, h_3]
  obtain ⟨v3, h_4, H⟩ := HS.bnd H
  try simp -implicitDefEqProofs +decide (maxSteps := 999999) [-selQ_sel, hokQ_of, h_1, h_2, h_3, h_4]
  refine Hid.brV (fun h_5 => ?_) (fun h_5 => ?_)
  ·replace H := HS.cnd_t h_5 H
   try simp -implicitDefEqProofs +decide (maxSteps := 999999) [-selQ_sel, hokQ_of, h_1, h_2, h_3, h_4, h_5]
   obtain ⟨v4, h_6, H⟩ := HS.bnd H
   try simp -implicitDefEqProofs +decide (maxSteps := 999999) [-selQ_sel, hokQ_of, h_1, h_2, h_3, h_4, h_5, h_6]
   obtain ⟨v5, h_7, H⟩ := HS.bnd H
   try simp -implicitDefEqProofs +decide (maxSteps := 999999) [-selQ_sel, hokQ_of, h_1, h_2, h_3, h_4, h_5, h_6, h_7]
   refine Hid.brV (fun h_8 => ?_) (fun h_8 => ?_)
   ·replace H := HS.cnd_t h_8 H
    try simp -implicitDefEqProofs +decide (maxSteps := 999999) [-selQ_sel, hokQ_of, h_1, h_2, h_3, h_4, h_5, h_6, h_7, h_8]
    have hr := (HS.some H).symm; subst hr
    refine Hid.mk ⟨_, Wk.refl _, ?_⟩
    try simp -implicitDefEqProofs +decide (maxSteps := 999999) [-selQ_sel, hokQ_of, h_1, h_2, h_3, h_4, h_5, h_6, h_7, h_8]
   ·replace H := HS.cnd_f h_8 H
    try simp -implicitDefEqProofs +decide (maxSteps := 999999) [-selQ_sel, hokQ_of, h_1, h_2, h_3, h_4, h_5, h_6, h_7, h_8]
    obtain ⟨v6, h_9, H⟩ := HS.bnd H
    have k_10 := impl_NodeAt_k ((TScene.mk v1).nodes) a1
    simp -implicitDefEqProofs [-impl_NodeAt_k] at k_10
    try simp -implicitDefEqProofs +decide (maxSteps := 999999) [-selQ_sel, hokQ_of, h_1, h_2, h_3, h_4, h_5, h_6, h_7, h_8, h_9, k_10]
    obtain ⟨v7, h_11, H⟩ := HS.bnd H
    have g_12 := idx_get h_11
    try simp -implicitDefEqProofs +decide (maxSteps := 999999) [-selQ_sel, hokQ_of, h_1, h_2, h_3, h_4, h_5, h_6, h_7, h_8, h_9, k_10, h_11, g_12]
    obtain ⟨⟨w9, w10⟩, h_13, H⟩ := HS.bnd H
    dsimp only at H
    try simp -implicitDefEqProofs +decide (maxSteps := 999999) [-selQ_sel, hokQ_of, h_1, h_2, h_3, h_4, h_5, h_6, h_7, h_8, h_9, k_10, h_11, g_12, h_13]
    obtain ⟨v11, h_14, H⟩ := HS.bnd H
    have s_15 := (slc_spec h_14).1
    have s_16 := slc_fit h_14
    have s_17 := slc_map (e := eNode) h_14
    have s_18 := (slc_spec h_14).2.1
    simp -implicitDefEqProofs at s_15 s_16 s_17 s_18
    try simp only [s_18] at s_16 s_17
    try simp -implicitDefEqProofs +decide (maxSteps := 999999) [-selQ_sel, hokQ_of, h_1, h_2, h_3, h_4, h_5, h_6, h_7, h_8, h_9, k_10, h_11, g_12, h_13, h_14, s_15, s_16, s_17, s_18]
    obtain ⟨v12, h_19, H⟩ := HS.bnd H
    have k_20 := impl_NodeAt_k ((TScene.mk v11).nodes) a3
    simp -implicitDefEqProofs [-impl_NodeAt_k] at k_20
    try simp -implicitDefEqProofs +decide (maxSteps := 999999) [-selQ_sel, hokQ_of, h_1, h_2, h_3, h_4, h_5, h_6, h_7, h_8, h_9, k_10, h_11, g_12, h_13, h_14, s_15, s_16, s_17, s_18, h_19, k_20]
    obtain ⟨⟨w14, w15⟩, h_21, H⟩ := HS.bnd H
    dsimp only at H
    have k_22 := slices_Insert_Node_k (List.length v11) (IntKind.i64.wrap (v12 + 1)) w10 [(TNode.mk v7.id a2 v7.group v7.mat v7.path v7.even v7.width v7.dashes v7.paint v7.mode v7.fade v7.clip)]
    simp -implicitDefEqProofs [-slices_Insert_Node_k] at k_22
    try simp -implicitDefEqProofs +decide (maxSteps := 999999) [-selQ_sel, hokQ_of, h_1, h_2, h_3, h_4, h_5, h_6, h_7, h_8, h_9, k_10, h_11, g_12, h_13, h_14, s_15, s_16, s_17, s_18, h_19, k_20, h_21, k_22]
    obtain ⟨v16, h_23, H⟩ := HS.bnd H
    have s_24 := (slc_spec h_23).1
    have s_25 := slc_fit h_23
    have s_26 := slc_map (e := eNode) h_23
    have s_27 := (slc_spec h_23).2.1
    simp -implicitDefEqProofs at s_24 s_25 s_26 s_27
    try simp only [s_27] at s_25 s_26
    try simp -implicitDefEqProofs +decide (maxSteps := 999999) [-selQ_sel, hokQ_of, h_1, h_2, h_3, h_4, h_5, h_6, h_7, h_8, h_9, k_10, h_11, g_12, h_13, h_14, s_15, s_16, s_17, s_18, h_19, k_20, h_21, k_22, h_23, s_24, s_25, s_26, s_27]
    obtain ⟨v17, h_28, H⟩ := HS.bnd H
    have k_29 := impl_UnderOf_k ((TScene.mk v16).nodes) a1
    simp -implicitDefEqProofs [-impl_UnderOf_k] at k_29
    try simp -implicitDefEqProofs +decide (maxSteps := 999999) [-selQ_sel, hokQ_of, h_1, h_2, h_3, h_4, h_5, h_6, h_7, h_8, h_9, k_10, h_11, g_12, h_13, h_14, s_15, s_16, s_17, s_18, h_19, k_20, h_21, k_22, h_23, s_24, s_25, s_26, s_27, h_28, k_29]
    obtain ⟨q, h_30, H⟩ := HS.bnd H
    refine Hid.mk (Tr.weak (s' := (impl_PlaceNode_l0_S v1 v16 v17 w15) 0) (Wk.ofk [1, 3, 5, 2, 4] hk (by rfl) (by simp -implicitDefEqProofs [impl_PlaceNode_l0_S, h_1, h_2, h_3, h_4, h_5, h_6, h_7, h_8, h_9, k_10, h_11, g_12, h_13, h_14, s_15, s_16, s_17, s_18, h_19, k_20, h_21, k_22, h_23, s_24, s_25, s_26, s_27, h_28, k_29]) (by simp -implicitDefEqProofs [impl_PlaceNode_l0_S, h_1, h_2, h_3, h_4, h_5, h_6, h_7, h_8, h_9, k_10, h_11, g_12, h_13, h_14, s_15, s_16, s_17, s_18, h_19, k_20, h_21, k_22, h_23, s_24, s_25, s_26, s_27, h_28, k_29])) ?_)
    refine wp_loop_of (S := (impl_PlaceNode_l0_S v1 v16 v17 w15)) (f := (impl_PlaceNode_l0 v1 v16 v17 w15)) (xt := (impl_PlaceNode_l0_X v1 v16 v17 w15)) ?_ ?_ h_30 ?_
    ·intro q; rcases q with ⟨⟩ | ⟨⟩ <;> simp [impl_PlaceNode_l0_X]
    ·clear H h_30 q
     rintro x22 o R hf hR
     have H : HS (impl_PlaceNode_l0 v1 v16 v17 w15 x22) o := hf
     clear hf; unfold impl_PlaceNode_l0 at H
     try simp -implicitDefEqProofs at H
     refine Tr.of_vc (cl := tabC [(111, impl_copyScene_x), (48, impl_SceneOk_x), (131, impl_Scene_isPlace_x), (122, impl_UnderOf_x), (85, slices_Contains_int_x), (53, impl_NodeAt_x), (132, slices_Delete_Node_x), (133, slices_Insert_Node_x), (114, impl_DepthOf_x), (95, impl_inRange_x)]) (E := E0) [] (tab_cons k_impl_copyScene (tab_cons k_impl_SceneOk (tab_cons k_impl_Scene_isPlace (tab_cons k_impl_UnderOf (tab_cons k_slices_Contains_int (tab_cons k_impl_NodeAt (tab_cons k_slices_Delete_Node (tab_cons k_slices_Insert_Node (tab_cons k_impl_DepthOf (tab_cons k_impl_inRange tab_nil)))))))))) hm (by rw [hn]; decide +kernel) ?_
     try simp -implicitDefEqProofs +decide (maxSteps := 999999) [-selQ_sel, hokQ_of, impl_PlaceNode_l0_S]
     refine Hid.brV (fun h_31 => ?_) (fun h_31 => ?_)
     ·replace H := HS.cnd_t h_31 H
      try simp -implicitDefEqProofs +decide (maxSteps := 999999) [-selQ_sel, hokQ_of, h_31]
      have hr := (HS.some H).symm; subst hr
      exact Hid.mk ⟨(impl_PlaceNode_l0_X v1 v16 v17 w15 (.inl ())).2, Wk.ofk [0, 2, 4] hk (by rfl) (by simp -implicitDefEqProofs [impl_PlaceNode_l0_X, h_31]) (by simp -implicitDefEqProofs [impl_PlaceNode_l0_X, h_31]), hR⟩
     ·replace H := HS.cnd_f h_31 H
      try simp -implicitDefEqProofs +decide (maxSteps := 999999) [-selQ_sel, hokQ_of, h_31]
      obtain ⟨v23, h_32, H⟩ := HS.bnd H
      try simp -implicitDefEqProofs +decide (maxSteps := 999999) [-selQ_sel, hokQ_of, h_31, h_32]
      obtain ⟨v24, h_33, H⟩ := HS.bnd H
      have s_34 := (slc_spec h_33).1
      have s_35 := slc_fit h_33
      have s_36 := slc_map (e := eNode) h_33
      have s_37 := (slc_spec h_33).2.1
      simp -implicitDefEqProofs at s_34 s_35 s_36 s_37
      try simp only [s_37] at s_35 s_36
      try simp -implicitDefEqProofs +decide (maxSteps := 999999) [-selQ_sel, hokQ_of, h_31, h_32, h_33, s_34, s_35, s_36, s_37]
      obtain ⟨v25, h_38, H⟩ := HS.bnd H
      have k_39 := impl_DepthOf_k ((TScene.mk v24).nodes) v23
      simp -implicitDefEqProofs [-impl_DepthOf_k] at k_39
      try simp -implicitDefEqProofs +decide (maxSteps := 999999) [-selQ_sel, hokQ_of, h_31, h_32, h_33, s_34, s_35, s_36, s_37, h_38, k_39]
      obtain ⟨v26, h_40, H⟩ := HS.bnd H
      try simp -implicitDefEqProofs +decide (maxSteps := 999999) [-selQ_sel, hokQ_of, h_31, h_32, h_33, s_34, s_35, s_36, s_37, h_38, k_39, h_40]
      refine Hid.brV (fun h_41 => ?_) (fun h_41 => ?_)
      ·replace H := HS.cnd_t h_41 H
       try simp -implicitDefEqProofs +decide (maxSteps := 999999) [-selQ_sel, hokQ_of, h_31, h_32, h_33, s_34, s_35, s_36, s_37, h_38, k_39, h_40, h_41]
       have hr := (HS.some H).symm; subst hr
       exact Hid.mk ⟨impl_PlaceNode_l0_S v1 v16 v17 w15 (IntKind.i64.wrap (x22 + 1)), Wk.ofk [0, 1, 2, 3, 4] hk (by rfl) (by simp -implicitDefEqProofs [impl_PlaceNode_l0_S, h_31, h_32, h_33, s_34, s_35, s_36, s_37, h_38, k_39, h_40, h_41]) (by simp -implicitDefEqProofs [impl_PlaceNode_l0_S, h_31, h_32, h_33, s_34, s_35, s_36, s_37, h_38, k_39, h_40, h_41]), hR⟩
      ·replace H := HS.cnd_f h_41 H
       try simp -implicitDefEqProofs +decide (maxSteps := 999999) [-selQ_sel, hokQ_of, h_31, h_32, h_33, s_34, s_35, s_36, s_37, h_38, k_39, h_40, h_41]
       have hr := (HS.some H).symm; subst hr
       exact Hid.mk ⟨(impl_PlaceNode_l0_X v1 v16 v17 w15 (.inr ())).2, Wk.ofk [0, 3] hk (by rfl) (by simp -implicitDefEqProofs [impl_PlaceNode_l0_X, h_31, h_32, h_33, s_34, s_35, s_36, s_37, h_38, k_39, h_40, h_41]) (by simp -implicitDefEqProofs [impl_PlaceNode_l0_X, h_31, h_32, h_33, s_34, s_35, s_36, s_37, h_38, k_39, h_40, h_41]), hR⟩
    ·rcases q with ⟨⟩ | ⟨⟩
     ·dsimp only at H
      try simp -implicitDefEqProofs +decide (maxSteps := 999999) [-selQ_sel, hokQ_of, h_1, h_2, h_3, h_4, h_5, h_6, h_7, h_8, h_9, k_10, h_11, g_12, h_13, h_14, s_15, s_16, s_17, s_18, h_19, k_20, h_21, k_22, h_23, s_24, s_25, s_26, s_27, h_28, k_29, impl_PlaceNode_l0_X]
      have hr := (HS.some H).symm; subst hr
      refine Hid.mk ⟨_, Wk.refl _, ?_⟩
      try simp -implicitDefEqProofs +decide (maxSteps := 999999) [-selQ_sel, hokQ_of, h_1, h_2, h_3, h_4, h_5, h_6, h_7, h_8, h_9, k_10, h_11, g_12, h_13, h_14, s_15, s_16, s_17, s_18, h_19, k_20, h_21, k_22, h_23, s_24, s_25, s_26, s_27, h_28, k_29]
     ·dsimp only at H
      try simp -implicitDefEqProofs +decide (maxSteps := 999999) [-selQ_sel, hokQ_of, h_1, h_2, h_3, h_4, h_5, h_6, h_7, h_8, h_9, k_10, h_11, g_12, h_13, h_14, s_15, s_16, s_17, s_18, h_19, k_20, h_21, k_22, h_23, s_24, s_25, s_26, s_27, h_28, k_29, impl_PlaceNode_l0_X]
      have hr := (HS.some H).symm; subst hr
      refine Hid.mk ⟨_, Wk.refl _, ?_⟩
      try simp -implicitDefEqProofs +decide (maxSteps := 999999) [-selQ_sel, hokQ_of, h_1, h_2, h_3, h_4, h_5, h_6, h_7, h_8, h_9, k_10, h_11, g_12, h_13, h_14, s_15, s_16, s_17, s_18, h_19, k_20, h_21, k_22, h_23, s_24, s_25, s_26, s_27, h_28, k_29]
  ·replace H := HS.cnd_f h_5 H
   try simp -implicitDefEqProofs +decide (maxSteps := 999999) [-selQ_sel, hokQ_of, h_1, h_2, h_3, h_4, h_5]
   have hr := (HS.some H).symm; subst hr
   refine Hid.mk ⟨_, Wk.refl _, ?_⟩
   try simp -implicitDefEqProofs +decide (maxSteps := 999999) [-selQ_sel, hokQ_of, h_1, h_2, h_3, h_4, h_5]
 ·replace H := HS.cnd_f h_3 H
  try simp -implicitDefEqProofs +decide (maxSteps := 999999) [-selQ_sel, hokQ_of, h_1, h_2, h_3]
  have hr := (HS.some H).symm; subst hr
  refine Hid.mk ⟨_, Wk.refl _, ?_⟩
  try simp -implicitDefEqProofs +decide (maxSteps := 999999) [-selQ_sel, hokQ_of, h_1, h_2, h_3]
theorem spec_SceneOk_ok0 (hm : Try.prog.follows .mixedOrders = true) (k_spec_NodeOk : Sound Try.prog 118 spec_NodeOk_x) (k_spec_NodeAt : Sound Try.prog 119 spec_NodeAt_x) (k_spec_DepthOf : Sound Try.prog 120 spec_DepthOf_x) (k_spec_l01In : Sound Try.prog 91 spec_l01In_x) : Sound Try.prog 117 spec_SceneOk_x := by
 refine xOf_sound fun q r h => ?_
 revert h; revert r; revert q; intro a0 r h
 refine fn_ok E0 hm Try.func117 rfl (by decide +kernel) (by rfl) fun Γ hn hk => ?_
 dsimp only [spec_SceneOk_e, spec_SceneOk_v]
 replace hn : Γ.n = 61 := hn
 replace hk : Γ.k = 0 := hk
 have H : HS (spec_SceneOk a0) r := h
 clear h; unfold spec_SceneOk at H
 try simp -implicitDefEqProofs at H
 refine Tr.of_vc (cl := tabC [(118, spec_NodeOk_x), (119, spec_NodeAt_x), (120, spec_DepthOf_x), (91, spec_l01In_x)]) (E := E0) [] (tab_cons k_spec_NodeOk (tab_cons k_spec_NodeAt (tab_cons k_spec_DepthOf (tab_cons k_spec_l01In tab_nil)))) hm (by rw [hn]; decide +kernel) ?_
 try simp -implicitDefEqProofs (maxSteps := 999999) [-selQ_sel]
 refine Hid.brV (fun h_1 => ?_) (fun h_1 => ?_)
 ·replace H := HS.cnd_t h_1 H
  try simp -implicitDefEqProofs (maxSteps := 999999) [-selQ_sel, h_1]
  obtain ⟨q, h_2, H⟩ := HS.bnd H
  refine Hid.mk (Tr.weak (s' := (spec_SceneOk_l0_S a0) 0) (Wk.ofk [0] hk (by rfl) (by simp -implicitDefEqProofs [spec_SceneOk_l0_S, h_1]) (by simp -implicitDefEqProofs [spec_SceneOk_l0_S, h_1])) ?_)
  refine wp_loop_of (S := (spec_SceneOk_l0_S a0)) (f := (spec_SceneOk_l0 a0)) (xt := (spec_SceneOk_l0_X a0)) ?_ ?_ h_2 ?_
  ·intro q; rcases q with ⟨⟩ | ⟨⟩ <;> simp [spec_SceneOk_l0_X]
  ·clear H h_2 q
   rintro x8 o R hf hR
   have H : HS (spec_SceneOk_l0 a0 x8) o := hf
   clear hf; unfold spec_SceneOk_l0 at H
   try simp -implicitDefEqProofs at H
   refine Tr.of_vc (cl := tabC [(118, spec_NodeOk_x), (119, spec_NodeAt_x), (120, spec_DepthOf_x), (91, spec_l01In_x)]) (E := E0) [] (tab_cons k_spec_NodeOk (tab_cons k_spec_NodeAt (tab_cons k_spec_DepthOf (tab_cons k_spec_l01In tab_nil)))) hm (by rw [hn]; decide +kernel) ?_
   try simp -implicitDefEqProofs (maxSteps := 999999) [-selQ_sel, spec_SceneOk_l0_S]
   refine Hid.brV (fun h_3 => ?_) (fun h_3 => ?_)
   ·replace H := HS.cnd_t h_3 H
    try simp -implicitDefEqProofs (maxSteps := 999999) [-selQ_sel, h_3]
    have hr := (HS.some H).symm; subst hr
    exact Hid.mk ⟨(spec_SceneOk_l0_X a0 (.inl ())).2, Wk.ofk [] hk (by rfl) (by simp -implicitDefEqProofs [spec_SceneOk_l0_X, h_3]) (by simp -implicitDefEqProofs [spec_SceneOk_l0_X, h_3]), hR⟩
   ·replace H := HS.cnd_f h_3 H
    try simp -implicitDefEqProofs (maxSteps := 999999) [-selQ_sel, h_3]
    obtain ⟨v9, h_4, H⟩ := HS.bnd H
    try simp -implicitDefEqProofs (maxSteps := 999999) [-selQ_sel, h_3, h_4]
    obtain ⟨v10, h_5, H⟩ := HS.bnd H
    try simp -implicitDefEqProofs (maxSteps := 999999) [-selQ_sel, h_3, h_4, h_5]
    refine Hid.selQ (fun h_6 => ?_) (fun h_6 => ?_)
    ·replace H := HS.cnd_t h_6 H
     try simp -implicitDefEqProofs (maxSteps := 999999) [-selQ_sel, h_3, h_4, h_5, h_6]
     obtain ⟨v11, h_7, H⟩ := HS.bnd H
     try simp -implicitDefEqProofs (maxSteps := 999999) [-selQ_sel, h_3, h_4, h_5, h_6, h_7]
     refine Hid.selQ (fun h_8 => ?_) (fun h_8 => ?_)
     ·replace H := HS.cnd_t h_8 H
      try simp -implicitDefEqProofs (maxSteps := 999999) [-selQ_sel, h_3, h_4, h_5, h_6, h_7, h_8]
      obtain ⟨v12, h_9, H⟩ := HS.bnd H
      try simp -implicitDefEqProofs (maxSteps := 999999) [-selQ_sel, h_3, h_4, h_5, h_6, h_7, h_8, h_9]
      obtain ⟨v13, h_10, H⟩ := HS.bnd H
      try simp -implicitDefEqProofs (maxSteps := 999999) [-selQ_sel, h_3, h_4, h_5, h_6, h_7, h_8, h_9, h_10]
      refine Hid.brV (fun h_11 => ?_) (fun h_11 => ?_)
      ·replace H := HS.cnd_t h_11 H
       try simp -implicitDefEqProofs (maxSteps := 999999) [-selQ_sel, h_3, h_4, h_5, h_6, h_7, h_8, h_9, h_10, h_11]
       obtain ⟨v14, h_12, H⟩ := HS.bnd H
       try simp -implicitDefEqProofs (maxSteps := 999999) [-selQ_sel, h_3, h_4, h_5, h_6, h_7, h_8, h_9, h_10, h_11, h_12]
       refine Hid.selQ (fun h_13 => ?_) (fun h_13 => ?_)
       ·replace H := HS.cnd_t h_13 H
        try simp -implicitDefEqProofs (maxSteps := 999999) [-selQ_sel, h_3, h_4, h_5, h_6, h_7, h_8, h_9, h_10, h_11, h_12, h_13]
        have hr := (HS.some H).symm; subst hr
        exact Hid.mk ⟨spec_SceneOk_l0_S a0 (IntKind.i64.wrap (x8 + 1)), Wk.ofk [0] hk (by rfl) (by simp -implicitDefEqProofs [spec_SceneOk_l0_S, h_3, h_4, h_5, h_6, h_7, h_8, h_9, h_10, h_11, h_12, h_13]) (by simp -implicitDefEqProofs [spec_SceneOk_l0_S, h_3, h_4, h_5, h_6, h_7, h_8, h_9, h_10, h_11, h_12, h_13]), hR⟩
       ·replace H := HS.cnd_f h_13 H
        try simp -implicitDefEqProofs (maxSteps := 999999) [-selQ_sel, h_3, h_4, h_5, h_6, h_7, h_8, h_9, h_10, h_11, h_12, h_13]
        refine Hid.selQ (fun h_14 => ?_) (fun h_14 => ?_)
        ·replace H := HS.cnd_t h_14 H
         try simp -implicitDefEqProofs (maxSteps := 999999) [-selQ_sel, h_3, h_4, h_5, h_6, h_7, h_8, h_9, h_10, h_11, h_12, h_13, h_14]
         obtain ⟨v15, h_15, H⟩ := HS.bnd H
         try simp -implicitDefEqProofs (maxSteps := 999999) [-selQ_sel, h_3, h_4, h_5, h_6, h_7, h_8, h_9, h_10, h_11, h_12, h_13, h_14, h_15]
         refine Hid.brV (fun h_16 => ?_) (fun h_16 => ?_)
         ·replace H := HS.cnd_t h_16 H
          try simp -implicitDefEqProofs (maxSteps := 999999) [-selQ_sel, h_3, h_4, h_5, h_6, h_7, h_8, h_9, h_10, h_11, h_12, h_13, h_14, h_15, h_16]
          have hr := (HS.some H).symm; subst hr
          exact Hid.mk ⟨spec_SceneOk_l0_S a0 (IntKind.i64.wrap (x8 + 1)), Wk.ofk [0] hk (by rfl) (by simp -implicitDefEqProofs [spec_SceneOk_l0_S, h_3, h_4, h_5, h_6, h_7, h_8, h_9, h_10, h_11, h_12, h_13, h_14, h_15, h_16]) (by simp -implicitDefEqProofs [spec_SceneOk_l0_S, h_3, h_4, h_5, h_6, h_7, h_8, h_9, h_10, h_11, h_12, h_13, h_14, h_15, h_16]), hR⟩
         ·replace H := HS.cnd_f h_16 H
          try simp -implicitDefEqProofs (maxSteps := 999999) [-selQ_sel, h_3, h_4, h_5, h_6, h_7, h_8, h_9, h_10, h_11, h_12, h_13, h_14, h_15, h_16]
          have hr := (HS.some H).symm; subst hr
          exact Hid.mk ⟨(spec_SceneOk_l0_X a0 (.inr ())).2, Wk.ofk [] hk (by rfl) (by simp -implicitDefEqProofs [spec_SceneOk_l0_X, h_3, h_4, h_5, h_6, h_7, h_8, h_9, h_10, h_11, h_12, h_13, h_14, h_15, h_16]) (by simp -implicitDefEqProofs [spec_SceneOk_l0_X, h_3, h_4, h_5, h_6, h_7, h_8, h_9, h_10, h_11, h_12, h_13, h_14, h_15, h_16]), hR⟩
        ·replace H := HS.cnd_f h_14 H
         try simp -implicitDefEqProofs (maxSteps := 999999) [-selQ_sel, h_3, h_4, h_5, h_6, h_7, h_8, h_9, h_10, h_11, h_12, h_13, h_14]
         have hr := (HS.some H).symm; subst hr
         exact Hid.mk ⟨(spec_SceneOk_l0_X a0 (.inr ())).2, Wk.ofk [] hk (by rfl) (by simp -implicitDefEqProofs [spec_SceneOk_l0_X, h_3, h_4, h_5, h_6, h_7, h_8, h_9, h_10, h_11, h_12, h_13, h_14]) (by simp -implicitDefEqProofs [spec_SceneOk_l0_X, h_3, h_4, h_5, h_6, h_7, h_8, h_9, h_10, h_11, h_12, h_13, h_14]), hR⟩
      ·replace H := HS.cnd_f h_11 H
       try simp -implicitDefEqProofs (maxSteps := 999999) [-selQ_sel, h_3, h_4, h_5, h_6, h_7, h_8, h_9, h_10, h_11]
       have hr := (HS.some H).symm; subst hr
       exact Hid.mk ⟨(spec_SceneOk_l0_X a0 (.inr ())).2, Wk.ofk [] hk (by rfl) (by simp -implicitDefEqProofs [spec_SceneOk_l0_X, h_3, h_4, h_5, h_6, h_7, h_8, h_9, h_10, h_11]) (by simp -implicitDefEqProofs [spec_SceneOk_l0_X, h_3, h_4, h_5, h_6, h_7, h_8, h_9, h_10, h_11]), hR⟩
     ·replace H := HS.cnd_f h_8 H
      try simp -implicitDefEqProofs (maxSteps := 999999) [-selQ_sel, h_3, h_4, h_5, h_6, h_7, h_8]
      have hr := (HS.some H).symm; subst hr
      exact Hid.mk ⟨(spec_SceneOk_l0_X a0 (.inr ())).2, Wk.ofk [] hk (by rfl) (by simp -implicitDefEqProofs [spec_SceneOk_l0_X, h_3, h_4, h_5, h_6, h_7, h_8]) (by simp -implicitDefEqProofs [spec_SceneOk_l0_X, h_3, h_4, h_5, h_6, h_7, h_8]), hR⟩
    ·replace H := HS.cnd_f h_6 H
     try simp -implicitDefEqProofs (maxSteps := 999999) [-selQ_sel, h_3, h_4, h_5, h_6]
     have hr := (HS.some H).symm; subst hr
     exact Hid.mk ⟨(spec_SceneOk_l0_X a0 (.inr ())).2, Wk.ofk [] hk (by rfl) (by simp -implicitDefEqProofs [spec_SceneOk_l0_X, h_3, h_4, h_5, h_6]) (by simp -implicitDefEqProofs [spec_SceneOk_l0_X, h_3, h_4, h_5, h_6]), hR⟩
  ·rcases q with ⟨⟩ | ⟨⟩
   ·dsimp only at H
    try simp -implicitDefEqProofs (maxSteps := 999999) [-selQ_sel, h_1, spec_SceneOk_l0_X]
    have hr := (HS.some H).symm; subst hr
    refine Hid.mk ⟨_, Wk.refl _, ?_⟩
    try simp -implicitDefEqProofs (maxSteps := 999999) [-selQ_sel, h_1]
   ·dsimp only at H
    try simp -implicitDefEqProofs (maxSteps := 999999) [-selQ_sel, h_1, spec_SceneOk_l0_X]
    have hr := (HS.some H).symm; subst hr
    refine Hid.mk ⟨_, Wk.refl _, ?_⟩
    try simp -implicitDefEqProofs (maxSteps := 999999) [-selQ_sel, h_1]
 ·replace H := HS.cnd_f h_1 H
  try simp -implicitDefEqProofs (maxSteps := 999999) [-selQ_sel, h_1]
  have hr := (HS.some H).symm; subst hr
  refine Hid.mk ⟨_, Wk.refl _, ?_⟩
  try simp -implicitDefEqProofs (maxSteps := 999999) [-selQ_sel, h_1]
theorem impl_SceneOk_ok0 (hm : Try.prog.follows .mixedOrders = true) (k_impl_NodeOk : Sound Try.prog 112 impl_NodeOk_x) (k_impl_NodeAt : Sound Try.prog 53 impl_NodeAt_x) (k_impl_Scene_isParent : Sound Try.prog 113 impl_Scene_isParent_x) (k_impl_DepthOf : Sound Try.prog 114 impl_DepthOf_x) (k_impl_inRange : Sound Try.prog 95 impl_inRange_x) : Sound Try.prog 48 impl_SceneOk_x := by
 refine xOf_sound fun q r h => ?_
 revert h; revert r; revert q; intro a0 r h
 refine fn_ok E0 hm Try.func48 rfl (by decide +kernel) (by rfl) fun Γ hn hk => ?_
 dsimp only [impl_SceneOk_e, impl_SceneOk_v]
 replace hn : Γ.n = 43 := hn
 replace hk : Γ.k = 0 := hk
 have H : HS (impl_SceneOk a0) r := h
 clear h; unfold impl_SceneOk at H
 try simp -implicitDefEqProofs at H
 refine Tr.of_vc (cl := tabC [(112, impl_NodeOk_x), (53, impl_NodeAt_x), (113, impl_Scene_isParent_x), (114, impl_DepthOf_x), (95, impl_inRange_x)]) (E := E0) [] (tab_cons k_impl_NodeOk (tab_cons k_impl_NodeAt (tab_cons k_impl_Scene_isParent (tab_cons k_impl_DepthOf (tab_cons k_impl_inRange tab_nil))))) hm (by rw [hn]; decide +kernel) ?_
 try simp -implicitDefEqProofs (maxSteps := 999999) [-selQ_sel]
 refine Hid.brV (fun h_1 => ?_) (fun h_1 => ?_)
 ·replace H := HS.cnd_t h_1 H
  try simp -implicitDefEqProofs (maxSteps := 999999) [-selQ_sel, h_1]
  obtain ⟨q, h_2, H⟩ := HS.bnd H
  refine Hid.mk (Tr.weak (s' := (impl_SceneOk_l0_S a0) 0) (Wk.ofk [0] hk (by rfl) (by simp -implicitDefEqProofs [impl_SceneOk_l0_S, h_1]) (by simp -implicitDefEqProofs [impl_SceneOk_l0_S, h_1])) ?_)
  refine wp_loop_of (S := (impl_SceneOk_l0_S a0)) (f := (impl_SceneOk_l0 a0)) (xt := (impl_SceneOk_l0_X a0)) ?_ ?_ h_2 ?_
  ·intro q; rcases q with ⟨⟩ | ⟨⟩ <;> simp [impl_SceneOk_l0_X]
  ·clear H h_2 q
   rintro x7 o R hf hR
   have H : HS (impl_SceneOk_l0 a0 x7) o := hf
   clear hf; unfold impl_SceneOk_l0 at H
   try simp -implicitDefEqProofs at H
   refine Tr.of_vc (cl := tabC [(112, impl_NodeOk_x), (53, impl_NodeAt_x), (113, impl_Scene_isParent_x), (114, impl_DepthOf_x), (95, impl_inRange_x)]) (E := E0) [] (tab_cons k_impl_NodeOk (tab_cons k_impl_NodeAt (tab_cons k_impl_Scene_isParent (tab_cons k_impl_DepthOf (tab_cons k_impl_inRange tab_nil))))) hm (by rw [hn]; decide +kernel) ?_
   try simp -implicitDefEqProofs (maxSteps := 999999) [-selQ_sel, impl_SceneOk_l0_S]
   refine Hid.brV (fun h_3 => ?_) (fun h_3 => ?_)
   ·replace H := HS.cnd_t h_3 H
    try simp -implicitDefEqProofs (maxSteps := 999999) [-selQ_sel, h_3]
    have hr := (HS.some H).symm; subst hr
    exact Hid.mk ⟨(impl_SceneOk_l0_X a0 (.inl ())).2, Wk.ofk [] hk (by rfl) (by simp -implicitDefEqProofs [impl_SceneOk_l0_X, h_3]) (by simp -implicitDefEqProofs [impl_SceneOk_l0_X, h_3]), hR⟩
   ·replace H := HS.cnd_f h_3 H
    try simp -implicitDefEqProofs (maxSteps := 999999) [-selQ_sel, h_3]
    obtain ⟨v8, h_4, H⟩ := HS.bnd H
    try simp -implicitDefEqProofs (maxSteps := 999999) [-selQ_sel, h_3, h_4]
    obtain ⟨v9, h_5, H⟩ := HS.bnd H
    try simp -implicitDefEqProofs (maxSteps := 999999) [-selQ_sel, h_3, h_4, h_5]
    refine Hid.selQ (fun h_6 => ?_) (fun h_6 => ?_)
    ·replace H := HS.cnd_t h_6 H
     try simp -implicitDefEqProofs (maxSteps := 999999) [-selQ_sel, h_3, h_4, h_5, h_6]
     obtain ⟨v10, h_7, H⟩ := HS.bnd H
     try simp -implicitDefEqProofs (maxSteps := 999999) [-selQ_sel, h_3, h_4, h_5, h_6, h_7]
     refine Hid.selQ (fun h_8 => ?_) (fun h_8 => ?_)
     ·replace H := HS.cnd_t h_8 H
      try simp -implicitDefEqProofs (maxSteps := 999999) [-selQ_sel, h_3, h_4, h_5, h_6, h_7, h_8]
      obtain ⟨v11, h_9, H⟩ := HS.bnd H
      try simp -implicitDefEqProofs (maxSteps := 999999) [-selQ_sel, h_3, h_4, h_5, h_6, h_7, h_8, h_9]
      refine Hid.selQ (fun h_10 => ?_) (fun h_10 => ?_)
      ·replace H := HS.cnd_t h_10 H
       try simp -implicitDefEqProofs (maxSteps := 999999) [-selQ_sel, h_3, h_4, h_5, h_6, h_7, h_8, h_9, h_10]
       obtain ⟨v12, h_11, H⟩ := HS.bnd H
       try simp -implicitDefEqProofs (maxSteps := 999999) [-selQ_sel, h_3, h_4, h_5, h_6, h_7, h_8, h_9, h_10, h_11]
       obtain ⟨v13, h_12, H⟩ := HS.bnd H
       try simp -implicitDefEqProofs (maxSteps := 999999) [-selQ_sel, h_3, h_4, h_5, h_6, h_7, h_8, h_9, h_10, h_11, h_12]
       refine Hid.brV (fun h_13 => ?_) (fun h_13 => ?_)
       ·replace H := HS.cnd_t h_13 H
        try simp -implicitDefEqProofs (maxSteps := 999999) [-selQ_sel, h_3, h_4, h_5, h_6, h_7, h_8, h_9, h_10, h_11, h_12, h_13]
        have hr := (HS.some H).symm; subst hr
        exact Hid.mk ⟨impl_SceneOk_l0_S a0 (IntKind.i64.wrap (x7 + 1)), Wk.ofk [0] hk (by rfl) (by simp -implicitDefEqProofs [impl_SceneOk_l0_S, h_3, h_4, h_5, h_6, h_7, h_8, h_9, h_10, h_11, h_12, h_13]) (by simp -implicitDefEqProofs [impl_SceneOk_l0_S, h_3, h_4, h_5, h_6, h_7, h_8, h_9, h_10, h_11, h_12, h_13]), hR⟩
       ·replace H := HS.cnd_f h_13 H
        try simp -implicitDefEqProofs (maxSteps := 999999) [-selQ_sel, h_3, h_4, h_5, h_6, h_7, h_8, h_9, h_10, h_11, h_12, h_13]
        have hr := (HS.some H).symm; subst hr
        exact Hid.mk ⟨(impl_SceneOk_l0_X a0 (.inr ())).2, Wk.ofk [] hk (by rfl) (by simp -implicitDefEqProofs [impl_SceneOk_l0_X, h_3, h_4, h_5, h_6, h_7, h_8, h_9, h_10, h_11, h_12, h_13]) (by simp -implicitDefEqProofs [impl_SceneOk_l0_X, h_3, h_4, h_5, h_6, h_7, h_8, h_9, h_10, h_11, h_12, h_13]), hR⟩
      ·replace H := HS.cnd_f h_10 H
       try simp -implicitDefEqProofs (maxSteps := 999999) [-selQ_sel, h_3, h_4, h_5, h_6, h_7, h_8, h_9, h_10]
       have hr := (HS.some H).symm; subst hr
       exact Hid.mk ⟨(impl_SceneOk_l0_X a0 (.inr ())).2, Wk.ofk [] hk (by rfl) (by simp -implicitDefEqProofs [impl_SceneOk_l0_X, h_3, h_4, h_5, h_6, h_7, h_8, h_9, h_10]) (by simp -implicitDefEqProofs [impl_SceneOk_l0_X, h_3, h_4, h_5, h_6, h_7, h_8, h_9, h_10]), hR⟩
     ·replace H := HS.cnd_f h_8 H
      try simp -implicitDefEqProofs (maxSteps := 999999) [-selQ_sel, h_3, h_4, h_5, h_6, h_7, h_8]
      have hr := (HS.some H).symm; subst hr
      exact Hid.mk ⟨(impl_SceneOk_l0_X a0 (.inr ())).2, Wk.ofk [] hk (by rfl) (by simp -implicitDefEqProofs [impl_SceneOk_l0_X, h_3, h_4, h_5, h_6, h_7, h_8]) (by simp -implicitDefEqProofs [impl_SceneOk_l0_X, h_3, h_4, h_5, h_6, h_7, h_8]), hR⟩
    ·replace H := HS.cnd_f h_6 H
     try simp -implicitDefEqProofs (maxSteps := 999999) [-selQ_sel, h_3, h_4, h_5, h_6]
     have hr := (HS.some H).symm; subst hr
     exact Hid.mk ⟨(impl_SceneOk_l0_X a0 (.inr ())).2, Wk.ofk [] hk (by rfl) (by simp -implicitDefEqProofs [impl_SceneOk_l0_X, h_3, h_4, h_5, h_6]) (by simp -implicitDefEqProofs [impl_SceneOk_l0_X, h_3, h_4, h_5, h_6]), hR⟩
  ·rcases q with ⟨⟩ | ⟨⟩
   ·dsimp only at H
    try simp -implicitDefEqProofs (maxSteps := 999999) [-selQ_sel, h_1, impl_SceneOk_l0_X]
    have hr := (HS.some H).symm; subst hr
    refine Hid.mk ⟨_, Wk.refl _, ?_⟩
    try simp -implicitDefEqProofs (maxSteps := 999999) [-selQ_sel, h_1]
   ·dsimp only at H
    try simp -implicitDefEqProofs (maxSteps := 999999) [-selQ_sel, h_1, impl_SceneOk_l0_X]
    have hr := (HS.some H).symm; subst hr
    refine Hid.mk ⟨_, Wk.refl _, ?_⟩
    try simp -implicitDefEqProofs (maxSteps := 999999) [-selQ_sel, h_1]
 ·replace H := HS.cnd_f h_1 H
  try simp -implicitDefEqProofs (maxSteps := 999999) [-selQ_sel, h_1]
  have hr := (HS.some H).symm; subst hr
  refine Hid.mk ⟨_, Wk.refl _, ?_⟩
  try simp -implicitDefEqProofs (maxSteps := 999999) [-selQ_sel, h_1]
theorem spec_PaintOk_ok0 (hm : Try.prog.follows .mixedOrders = true) (k_spec_ColorOk : Sound Try.prog 202 spec_ColorOk_x) (k_spec_PointOk : Sound Try.prog 222 spec_PointOk_x) : Sound Try.prog 188 spec_PaintOk_x := by
 refine xOf_sound fun q r h => ?_
 revert h; revert r; revert q; intro a0 r h
 refine fn_ok E0 hm Try.func188 rfl (by decide +kernel) (by rfl) fun Γ hn hk => ?_
 dsimp only [spec_PaintOk_e, spec_PaintOk_v]
 replace hn : Γ.n = 55 := hn
 replace hk : Γ.k = 0 := hk
 have H : HS (spec_PaintOk a0) r := h
 clear h; unfold spec_PaintOk at H
 try simp -implicitDefEqProofs at H
 refine Tr.of_vc (cl := tabC [(202, spec_ColorOk_x), (222, spec_PointOk_x)]) (E := E0) [] (tab_cons k_spec_ColorOk (tab_cons k_spec_PointOk tab_nil)) hm (by rw [hn]; decide +kernel) ?_
 try simp -implicitDefEqProofs (maxSteps := 999999) [-selQ_sel]
 obtain ⟨v1, h_1, H⟩ := HS.bnd H
 try simp -implicitDefEqProofs (maxSteps := 999999) [-selQ_sel, h_1]
 refine Hid.brV (fun h_2 => ?_) (fun h_2 => ?_)
 ·replace H := HS.cnd_t h_2 H
  try simp -implicitDefEqProofs (maxSteps := 999999) [-selQ_sel, h_1, h_2]
  refine Hid.brV (fun h_3 => ?_) (fun h_3 => ?_)
  ·replace H := HS.cnd_t h_3 H
   try simp -implicitDefEqProofs (maxSteps := 999999) [-selQ_sel, h_1, h_2, h_3]
   refine Hid.selQ (fun h_4 => ?_) (fun h_4 => ?_)
   ·replace H := HS.cnd_t h_4 H
    try simp -implicitDefEqProofs (maxSteps := 999999) [-selQ_sel, h_1, h_2, h_3, h_4]
    refine Hid.selQ (fun h_5 => ?_) (fun h_5 => ?_)
    ·replace H := HS.cnd_t h_5 H
     try simp -implicitDefEqProofs (maxSteps := 999999) [-selQ_sel, h_1, h_2, h_3, h_4, h_5]
     have hr := (HS.some H).symm; subst hr
     refine Hid.mk ⟨_, Wk.refl _, ?_⟩
     try simp -implicitDefEqProofs (maxSteps := 999999) [-selQ_sel, h_1, h_2, h_3, h_4, h_5]
    ·replace H := HS.cnd_f h_5 H
     try simp -implicitDefEqProofs (maxSteps := 999999) [-selQ_sel, h_1, h_2, h_3, h_4, h_5]
     have hr := (HS.some H).symm; subst hr
     refine Hid.mk ⟨_, Wk.refl _, ?_⟩
     try simp -implicitDefEqProofs (maxSteps := 999999) [-selQ_sel, h_1, h_2, h_3, h_4, h_5]
   ·replace H := HS.cnd_f h_4 H
    try simp -implicitDefEqProofs (maxSteps := 999999) [-selQ_sel, h_1, h_2, h_3, h_4]
    have hr := (HS.some H).symm; subst hr
    refine Hid.mk ⟨_, Wk.refl _, ?_⟩
    try simp -implicitDefEqProofs (maxSteps := 999999) [-selQ_sel, h_1, h_2, h_3, h_4]
  ·replace H := HS.cnd_f h_3 H
   try simp -implicitDefEqProofs (maxSteps := 999999) [-selQ_sel, h_1, h_2, h_3]
   refine Hid.selQ (fun h_6 => ?_) (fun h_6 => ?_)
   ·replace H := HS.cnd_t h_6 H
    try simp -implicitDefEqProofs (maxSteps := 999999) [-selQ_sel, h_1, h_2, h_3, h_6]
    obtain ⟨v2, h_7, H⟩ := HS.bnd H
    try simp -implicitDefEqProofs (maxSteps := 999999) [-selQ_sel, h_1, h_2, h_3, h_6, h_7]
    refine Hid.selQ (fun h_8 => ?_) (fun h_8 => ?_)
    ·replace H := HS.cnd_t h_8 H
     try simp -implicitDefEqProofs (maxSteps := 999999) [-selQ_sel, h_1, h_2, h_3, h_6, h_7, h_8]
     obtain ⟨v3, h_9, H⟩ := HS.bnd H
     try simp -implicitDefEqProofs (maxSteps := 999999) [-selQ_sel, h_1, h_2, h_3, h_6, h_7, h_8, h_9]
     refine Hid.selQ (fun h_10 => ?_) (fun h_10 => ?_)
     ·replace H := HS.cnd_t h_10 H
      try simp -implicitDefEqProofs (maxSteps := 999999) [-selQ_sel, h_1, h_2, h_3, h_6, h_7, h_8, h_9, h_10]
      obtain ⟨v4, h_11, H⟩ := HS.bnd H
      try simp -implicitDefEqProofs (maxSteps := 999999) [-selQ_sel, h_1, h_2, h_3, h_6, h_7, h_8, h_9, h_10, h_11]
      refine Hid.selQ (fun h_12 => ?_) (fun h_12 => ?_)
      ·replace H := HS.cnd_t h_12 H
       try simp -implicitDefEqProofs (maxSteps := 999999) [-selQ_sel, h_1, h_2, h_3, h_6, h_7, h_8, h_9, h_10, h_11, h_12]
       have hr := (HS.some H).symm; subst hr
       refine Hid.mk ⟨_, Wk.refl _, ?_⟩
       try simp -implicitDefEqProofs (maxSteps := 999999) [-selQ_sel, h_1, h_2, h_3, h_6, h_7, h_8, h_9, h_10, h_11, h_12]
      ·replace H := HS.cnd_f h_12 H
       try simp -implicitDefEqProofs (maxSteps := 999999) [-selQ_sel, h_1, h_2, h_3, h_6, h_7, h_8, h_9, h_10, h_11, h_12]
       have hr := (HS.some H).symm; subst hr
       refine Hid.mk ⟨_, Wk.refl _, ?_⟩
       try simp -implicitDefEqProofs (maxSteps := 999999) [-selQ_sel, h_1, h_2, h_3, h_6, h_7, h_8, h_9, h_10, h_11, h_12]
     ·replace H := HS.cnd_f h_10 H
      try simp -implicitDefEqProofs (maxSteps := 999999) [-selQ_sel, h_1, h_2, h_3, h_6, h_7, h_8, h_9, h_10]
      have hr := (HS.some H).symm; subst hr
      refine Hid.mk ⟨_, Wk.refl _, ?_⟩
      try simp -implicitDefEqProofs (maxSteps := 999999) [-selQ_sel, h_1, h_2, h_3, h_6, h_7, h_8, h_9, h_10]
    ·replace H := HS.cnd_f h_8 H
     try simp -implicitDefEqProofs (maxSteps := 999999) [-selQ_sel, h_1, h_2, h_3, h_6, h_7, h_8]
     have hr := (HS.some H).symm; subst hr
     refine Hid.mk ⟨_, Wk.refl _, ?_⟩
     try simp -implicitDefEqProofs (maxSteps := 999999) [-selQ_sel, h_1, h_2, h_3, h_6, h_7, h_8]
   ·replace H := HS.cnd_f h_6 H
    try simp -implicitDefEqProofs (maxSteps := 999999) [-selQ_sel, h_1, h_2, h_3, h_6]
    have hr := (HS.some H).symm; subst hr
    refine Hid.mk ⟨_, Wk.refl _, ?_⟩
    try simp -implicitDefEqProofs (maxSteps := 999999) [-selQ_sel, h_1, h_2, h_3, h_6]
 ·replace H := HS.cnd_f h_2 H
  try simp -implicitDefEqProofs (maxSteps := 999999) [-selQ_sel, h_1, h_2]
  have hr := (HS.some H).symm; subst hr
  refine Hid.mk ⟨_, Wk.refl _, ?_⟩
  try simp -implicitDefEqProofs (maxSteps := 999999) [-selQ_sel, h_1, h_2]
theorem impl_PaintOk_ok0 (hm : Try.prog.follows .mixedOrders = true) (k_impl_ColorOk : Sound Try.prog 203 impl_ColorOk_x) (k_impl_PointOk : Sound Try.prog 220 impl_PointOk_x) : Sound Try.prog 181 impl_PaintOk_x := by
 refine xOf_sound fun q r h => ?_
 revert h; revert r; revert q; intro a0 r h
 refine fn_ok E0 hm Try.func181 rfl (by decide +kernel) (by rfl) fun Γ hn hk => ?_
 dsimp only [impl_PaintOk_e, impl_PaintOk_v]
 replace hn : Γ.n = 44 := hn
 replace hk : Γ.k = 0 := hk
 have H : HS (impl_PaintOk a0) r := h
 clear h; unfold impl_PaintOk at H
 try simp -implicitDefEqProofs at H
 refine Tr.of_vc (cl := tabC [(203, impl_ColorOk_x), (220, impl_PointOk_x)]) (E := E0) [] (tab_cons k_impl_ColorOk (tab_cons k_impl_PointOk tab_nil)) hm (by rw [hn]; decide +kernel) ?_
 try simp -implicitDefEqProofs (maxSteps := 999999) [-selQ_sel]
 refine Hid.brV (fun h_1 => ?_) (fun h_1 => ?_)
 ·replace H := HS.cnd_t h_1 H
  try simp -implicitDefEqProofs (maxSteps := 999999) [-selQ_sel, h_1]
  obtain ⟨v1, h_2, H⟩ := HS.bnd H
  try simp -implicitDefEqProofs (maxSteps := 999999) [-selQ_sel, h_1, h_2]
  refine Hid.selQ (fun h_3 => ?_) (fun h_3 => ?_)
  ·replace H := HS.cnd_t h_3 H
   try simp -implicitDefEqProofs (maxSteps := 999999) [-selQ_sel, h_1, h_2, h_3]
   have hr := (HS.some H).symm; subst hr
   refine Hid.mk ⟨_, Wk.refl _, ?_⟩
   try simp -implicitDefEqProofs (maxSteps := 999999) [-selQ_sel, h_1, h_2, h_3]
  ·replace H := HS.cnd_f h_3 H
   try simp -implicitDefEqProofs (maxSteps := 999999) [-selQ_sel, h_1, h_2, h_3]
   have hr := (HS.some H).symm; subst hr
   refine Hid.mk ⟨_, Wk.refl _, ?_⟩
   try simp -implicitDefEqProofs (maxSteps := 999999) [-selQ_sel, h_1, h_2, h_3]
 ·replace H := HS.cnd_f h_1 H
  try simp -implicitDefEqProofs (maxSteps := 999999) [-selQ_sel, h_1]
  refine Hid.brV (fun h_4 => ?_) (fun h_4 => ?_)
  ·replace H := HS.cnd_t h_4 H
   try simp -implicitDefEqProofs (maxSteps := 999999) [-selQ_sel, h_1, h_4]
   obtain ⟨v2, h_5, H⟩ := HS.bnd H
   try simp -implicitDefEqProofs (maxSteps := 999999) [-selQ_sel, h_1, h_4, h_5]
   refine Hid.selQ (fun h_6 => ?_) (fun h_6 => ?_)
   ·replace H := HS.cnd_t h_6 H
    try simp -implicitDefEqProofs (maxSteps := 999999) [-selQ_sel, h_1, h_4, h_5, h_6]
    obtain ⟨v3, h_7, H⟩ := HS.bnd H
    try simp -implicitDefEqProofs (maxSteps := 999999) [-selQ_sel, h_1, h_4, h_5, h_6, h_7]
    refine Hid.selQ (fun h_8 => ?_) (fun h_8 => ?_)
    ·replace H := HS.cnd_t h_8 H
     try simp -implicitDefEqProofs (maxSteps := 999999) [-selQ_sel, h_1, h_4, h_5, h_6, h_7, h_8]
     obtain ⟨v4, h_9, H⟩ := HS.bnd H
     try simp -implicitDefEqProofs (maxSteps := 999999) [-selQ_sel, h_1, h_4, h_5, h_6, h_7, h_8, h_9]
     refine Hid.selQ (fun h_10 => ?_) (fun h_10 => ?_)
     ·replace H := HS.cnd_t h_10 H
      try simp -implicitDefEqProofs (maxSteps := 999999) [-selQ_sel, h_1, h_4, h_5, h_6, h_7, h_8, h_9, h_10]
      obtain ⟨v5, h_11, H⟩ := HS.bnd H
      try simp -implicitDefEqProofs (maxSteps := 999999) [-selQ_sel, h_1, h_4, h_5, h_6, h_7, h_8, h_9, h_10, h_11]
      refine Hid.selQ (fun h_12 => ?_) (fun h_12 => ?_)
      ·replace H := HS.cnd_t h_12 H
       try simp -implicitDefEqProofs (maxSteps := 999999) [-selQ_sel, h_1, h_4, h_5, h_6, h_7, h_8, h_9, h_10, h_11, h_12]
       have hr := (HS.some H).symm; subst hr
       refine Hid.mk ⟨_, Wk.refl _, ?_⟩
       try simp -implicitDefEqProofs (maxSteps := 999999) [-selQ_sel, h_1, h_4, h_5, h_6, h_7, h_8, h_9, h_10, h_11, h_12]
      ·replace H := HS.cnd_f h_12 H
       try simp -implicitDefEqProofs (maxSteps := 999999) [-selQ_sel, h_1, h_4, h_5, h_6, h_7, h_8, h_9, h_10, h_11, h_12]
       have hr := (HS.some H).symm; subst hr
       refine Hid.mk ⟨_, Wk.refl _, ?_⟩
       try simp -implicitDefEqProofs (maxSteps := 999999) [-selQ_sel, h_1, h_4, h_5, h_6, h_7, h_8, h_9, h_10, h_11, h_12]
     ·replace H := HS.cnd_f h_10 H
      try simp -implicitDefEqProofs (maxSteps := 999999) [-selQ_sel, h_1, h_4, h_5, h_6, h_7, h_8, h_9, h_10]
      have hr := (HS.some H).symm; subst hr
      refine Hid.mk ⟨_, Wk.refl _, ?_⟩
      try simp -implicitDefEqProofs (maxSteps := 999999) [-selQ_sel, h_1, h_4, h_5, h_6, h_7, h_8, h_9, h_10]
    ·replace H := HS.cnd_f h_8 H
     try simp -implicitDefEqProofs (maxSteps := 999999) [-selQ_sel, h_1, h_4, h_5, h_6, h_7, h_8]
     have hr := (HS.some H).symm; subst hr
     refine Hid.mk ⟨_, Wk.refl _, ?_⟩
     try simp -implicitDefEqProofs (maxSteps := 999999) [-selQ_sel, h_1, h_4, h_5, h_6, h_7, h_8]
   ·replace H := HS.cnd_f h_6 H
    try simp -implicitDefEqProofs (maxSteps := 999999) [-selQ_sel, h_1, h_4, h_5, h_6]
    have hr := (HS.some H).symm; subst hr
    refine Hid.mk ⟨_, Wk.refl _, ?_⟩
    try simp -implicitDefEqProofs (maxSteps := 999999) [-selQ_sel, h_1, h_4, h_5, h_6]
  ·replace H := HS.cnd_f h_4 H
   try simp -implicitDefEqProofs (maxSteps := 999999) [-selQ_sel, h_1, h_4]
   have hr := (HS.some H).symm; subst hr
   refine Hid.mk ⟨_, Wk.refl _, ?_⟩
   try simp -implicitDefEqProofs (maxSteps := 999999) [-selQ_sel, h_1, h_4]
theorem laws_sameScene_ok0 (hm : Try.prog.follows .mixedOrders = true) (k_laws_sameNode : Sound Try.prog 51 laws_sameNode_x) : Sound Try.prog 49 laws_sameScene_x := by
 refine xOf_sound fun q r h => ?_
 obtain ⟨a0, a1⟩ := q
 refine fn_ok E0 hm Try.func49 rfl (by decide +kernel) (by rfl) fun Γ hn hk => ?_
 dsimp only [laws_sameScene_e, laws_sameScene_v]
 replace hn : Γ.n = 32 := hn
 replace hk : Γ.k = 0 := hk
 have H : HS (laws_sameScene a0 a1) r := h
 clear h; unfold laws_sameScene at H
 try simp -implicitDefEqProofs at H
 refine Tr.of_vc (cl := tabC [(51, laws_sameNode_x)]) (E := E0) [] (tab_cons k_laws_sameNode tab_nil) hm (by rw [hn]; decide +kernel) ?_
 try simp -implicitDefEqProofs +decide (maxSteps := 999999) [-selQ_sel, hokQ_of]
 refine Hid.brV (fun h_1 => ?_) (fun h_1 => ?_)
 ·replace H := HS.cnd_t h_1 H
  try simp -implicitDefEqProofs +decide (maxSteps := 999999) [-selQ_sel, hokQ_of, h_1]
  obtain ⟨q, h_2, H⟩ := HS.bnd H
  refine Hid.mk (Tr.weak (s' := (laws_sameScene_l0_S a0 a1) 0) (Wk.ofk [0, 1] hk (by rfl) (by simp -implicitDefEqProofs [laws_sameScene_l0_S, h_1]) (by simp -implicitDefEqProofs [laws_sameScene_l0_S, h_1])) ?_)
  refine wp_loop_of (S := (laws_sameScene_l0_S a0 a1)) (f := (laws_sameScene_l0 a0 a1)) (xt := (laws_sameScene_l0_X a0 a1)) ?_ ?_ h_2 ?_
  ·intro q; rcases q with ⟨⟩ | ⟨⟩ <;> simp [laws_sameScene_l0_X]
  ·clear H h_2 q
   rintro x4 o R hf hR
   have H : HS (laws_sameScene_l0 a0 a1 x4) o := hf
   clear hf; unfold laws_sameScene_l0 at H
   try simp -implicitDefEqProofs at H
   refine Tr.of_vc (cl := tabC [(51, laws_sameNode_x)]) (E := E0) [] (tab_cons k_laws_sameNode tab_nil) hm (by rw [hn]; decide +kernel) ?_
   try simp -implicitDefEqProofs +decide (maxSteps := 999999) [-selQ_sel, hokQ_of, laws_sameScene_l0_S]
   refine Hid.brV (fun h_3 => ?_) (fun h_3 => ?_)
   ·replace H := HS.cnd_t h_3 H
    try simp -implicitDefEqProofs +decide (maxSteps := 999999) [-selQ_sel, hokQ_of, h_3]
    have hr := (HS.some H).symm; subst hr
    exact Hid.mk ⟨(laws_sameScene_l0_X a0 a1 (.inl ())).2, Wk.ofk [] hk (by rfl) (by simp -implicitDefEqProofs [laws_sameScene_l0_X, h_3]) (by simp -implicitDefEqProofs [laws_sameScene_l0_X, h_3]), hR⟩
   ·replace H := HS.cnd_f h_3 H
    try simp -implicitDefEqProofs +decide (maxSteps := 999999) [-selQ_sel, hokQ_of, h_3]
    obtain ⟨v5, h_4, H⟩ := HS.bnd H
    try simp -implicitDefEqProofs +decide (maxSteps := 999999) [-selQ_sel, hokQ_of, h_3, h_4]
    obtain ⟨v6, h_5, H⟩ := HS.bnd H
    try simp -implicitDefEqProofs +decide (maxSteps := 999999) [-selQ_sel, hokQ_of, h_3, h_4, h_5]
    obtain ⟨v7, h_6, H⟩ := HS.bnd H
    try simp -implicitDefEqProofs +decide (maxSteps := 999999) [-selQ_sel, hokQ_of, h_3, h_4, h_5, h_6]
    refine Hid.brV (fun h_7 => ?_) (fun h_7 => ?_)
    ·replace H := HS.cnd_t h_7 H
     try simp -implicitDefEqProofs +decide (maxSteps := 999999) [-selQ_sel, hokQ_of, h_3, h_4, h_5, h_6, h_7]
     have hr := (HS.some H).symm; subst hr
     exact Hid.mk ⟨laws_sameScene_l0_S a0 a1 (IntKind.i64.wrap (x4 + 1)), Wk.ofk [0, 1] hk (by rfl) (by simp -implicitDefEqProofs [laws_sameScene_l0_S, h_3, h_4, h_5, h_6, h_7]) (by simp -implicitDefEqProofs [laws_sameScene_l0_S, h_3, h_4, h_5, h_6, h_7]), hR⟩
    ·replace H := HS.cnd_f h_7 H
     try simp -implicitDefEqProofs +decide (maxSteps := 999999) [-selQ_sel, hokQ_of, h_3, h_4, h_5, h_6, h_7]
     have hr := (HS.some H).symm; subst hr
     exact Hid.mk ⟨(laws_sameScene_l0_X a0 a1 (.inr ())).2, Wk.ofk [] hk (by rfl) (by simp -implicitDefEqProofs [laws_sameScene_l0_X, h_3, h_4, h_5, h_6, h_7]) (by simp -implicitDefEqProofs [laws_sameScene_l0_X, h_3, h_4, h_5, h_6, h_7]), hR⟩
  ·rcases q with ⟨⟩ | ⟨⟩
   ·dsimp only at H
    try simp -implicitDefEqProofs +decide (maxSteps := 999999) [-selQ_sel, hokQ_of, h_1, laws_sameScene_l0_X]
    have hr := (HS.some H).symm; subst hr
    refine Hid.mk ⟨_, Wk.refl _, ?_⟩
    try simp -implicitDefEqProofs +decide (maxSteps := 999999) [-selQ_sel, hokQ_of, h_1]
   ·dsimp only at H
    try simp -implicitDefEqProofs +decide (maxSteps := 999999) [-selQ_sel, hokQ_of, h_1, laws_sameScene_l0_X]
    have hr := (HS.some H).symm; subst hr
    refine Hid.mk ⟨_, Wk.refl _, ?_⟩
    try simp -implicitDefEqProofs +decide (maxSteps := 999999) [-selQ_sel, hokQ_of, h_1]
 ·replace H := HS.cnd_f h_1 H
  try simp -implicitDefEqProofs +decide (maxSteps := 999999) [-selQ_sel, hokQ_of, h_1]
  have hr := (HS.some H).symm; subst hr
  refine Hid.mk ⟨_, Wk.refl _, ?_⟩
  try simp -implicitDefEqProofs +decide (maxSteps := 999999) [-selQ_sel, hokQ_of, h_1]
theorem spec_l15Under_ok0 (hm : Try.prog.follows .mixedOrders = true) (k_spec_NodeAt : Sound Try.prog 119 spec_NodeAt_x) : Sound Try.prog 126 spec_l15Under_x := by
 refine xOf_sound fun q r h => ?_
 obtain ⟨a0, a1, a2⟩ := q
 refine fn_ok E0 hm Try.func126 rfl (by decide +kernel) (by rfl) fun Γ hn hk => ?_
 dsimp only [spec_l15Under_e, spec_l15Under_v]
 replace hn : Γ.n = 27 := hn
 replace hk : Γ.k = 0 := hk
 have H : HS (spec_l15Under a0 a1 a2) r := h
 clear h; unfold spec_l15Under at H
 try simp -implicitDefEqProofs at H
 refine Tr.of_vc (cl := tabC [(119, spec_NodeAt_x)]) (E := E0) [] (tab_cons k_spec_NodeAt tab_nil) hm (by rw [hn]; decide +kernel) ?_
 try simp -implicitDefEqProofs (maxSteps := 999999) [-selQ_sel]
 obtain ⟨q, h_1, H⟩ := HS.bnd H
 refine Hid.mk (Tr.weak (s' := (spec_l15Under_l0_S a0 a2) (a1, 0)) (Wk.ofk [0] hk (by rfl) (by simp -implicitDefEqProofs [spec_l15Under_l0_S]) (by simp -implicitDefEqProofs [spec_l15Under_l0_S])) ?_)
 refine wp_loop_of (S := (spec_l15Under_l0_S a0 a2)) (f := (spec_l15Under_l0 a0 a2)) (xt := (spec_l15Under_l0_X a0 a2)) ?_ ?_ h_1 ?_
 ·intro q; rcases q with y7 | ⟨⟩ <;> simp [spec_l15Under_l0_X]
 ·clear H h_1 q
  rintro ⟨x3, x4⟩ o R hf hR
  have H : HS (spec_l15Under_l0 a0 a2 (x3, x4)) o := hf
  clear hf; unfold spec_l15Under_l0 at H
  try simp -implicitDefEqProofs at H
  refine Tr.of_vc (cl := tabC [(119, spec_NodeAt_x)]) (E := E0) [] (tab_cons k_spec_NodeAt tab_nil) hm (by rw [hn]; decide +kernel) ?_
  try simp -implicitDefEqProofs (maxSteps := 999999) [-selQ_sel, spec_l15Under_l0_S]
  refine Hid.brV (fun h_2 => ?_) (fun h_2 => ?_)
  ·replace H := HS.cnd_t h_2 H
   try simp -implicitDefEqProofs (maxSteps := 999999) [-selQ_sel, h_2]
   refine Hid.brV (fun h_3 => ?_) (fun h_3 => ?_)
   ·replace H := HS.cnd_t h_3 H
    try simp -implicitDefEqProofs (maxSteps := 999999) [-selQ_sel, h_2, h_3]
    have hr := (HS.some H).symm; subst hr
    exact Hid.mk ⟨(spec_l15Under_l0_X a0 a2 (.inl true)).2, Wk.ofk [] hk (by rfl) (by simp -implicitDefEqProofs [spec_l15Under_l0_X, h_2, h_3]) (by simp -implicitDefEqProofs [spec_l15Under_l0_X, h_2, h_3]), hR⟩
   ·replace H := HS.cnd_f h_3 H
    try simp -implicitDefEqProofs (maxSteps := 999999) [-selQ_sel, h_2, h_3]
    obtain ⟨v5, h_4, H⟩ := HS.bnd H
    try simp -implicitDefEqProofs (maxSteps := 999999) [-selQ_sel, h_2, h_3, h_4]
    refine Hid.brV (fun h_5 => ?_) (fun h_5 => ?_)
    ·replace H := HS.cnd_t h_5 H
     try simp -implicitDefEqProofs (maxSteps := 999999) [-selQ_sel, h_2, h_3, h_4, h_5]
     obtain ⟨v6, h_6, H⟩ := HS.bnd H
     try simp -implicitDefEqProofs (maxSteps := 999999) [-selQ_sel, h_2, h_3, h_4, h_5, h_6]
     have hr := (HS.some H).symm; subst hr
     exact Hid.mk ⟨spec_l15Under_l0_S a0 a2 (v6.parent, (IntKind.i64.wrap (x4 + 1))), Wk.ofk [0] hk (by rfl) (by simp -implicitDefEqProofs [spec_l15Under_l0_S, h_2, h_3, h_4, h_5, h_6]) (by simp -implicitDefEqProofs [spec_l15Under_l0_S, h_2, h_3, h_4, h_5, h_6]), hR⟩
    ·replace H := HS.cnd_f h_5 H
     try simp -implicitDefEqProofs (maxSteps := 999999) [-selQ_sel, h_2, h_3, h_4, h_5]
     have hr := (HS.some H).symm; subst hr
     exact Hid.mk ⟨(spec_l15Under_l0_X a0 a2 (.inl false)).2, Wk.ofk [] hk (by rfl) (by simp -implicitDefEqProofs [spec_l15Under_l0_X, h_2, h_3, h_4, h_5]) (by simp -implicitDefEqProofs [spec_l15Under_l0_X, h_2, h_3, h_4, h_5]), hR⟩
  ·replace H := HS.cnd_f h_2 H
   try simp -implicitDefEqProofs (maxSteps := 999999) [-selQ_sel, h_2]
   have hr := (HS.some H).symm; subst hr
   exact Hid.mk ⟨(spec_l15Under_l0_X a0 a2 (.inr ())).2, Wk.ofk [] hk (by rfl) (by simp -implicitDefEqProofs [spec_l15Under_l0_X, h_2]) (by simp -implicitDefEqProofs [spec_l15Under_l0_X, h_2]), hR⟩
 ·rcases q with y7 | ⟨⟩
  ·dsimp only at H
   try simp -implicitDefEqProofs (maxSteps := 999999) [-selQ_sel, spec_l15Under_l0_X]
   have hr := (HS.some H).symm; subst hr
   refine Hid.mk ⟨_, Wk.refl _, ?_⟩
   try simp -implicitDefEqProofs (maxSteps := 999999) [-selQ_sel]
  ·dsimp only at H
   try simp -implicitDefEqProofs (maxSteps := 999999) [-selQ_sel, spec_l15Under_l0_X]
   have hr := (HS.some H).symm; subst hr
   refine Hid.mk ⟨_, Wk.refl _, ?_⟩
   try simp -implicitDefEqProofs (maxSteps := 999999) [-selQ_sel]
theorem spec_RectPath_ok0 (hm : Try.prog.follows .mixedOrders = true) (k_spec_Empty : Sound Try.prog 205 spec_Empty_x) (k_spec_PointOk : Sound Try.prog 222 spec_PointOk_x) : Sound Try.prog 213 spec_RectPath_x := by
 refine xOf_sound fun q r h => ?_
 revert h; revert r; revert q; intro a0 r h
 refine fn_ok E0 hm Try.func213 rfl (by decide +kernel) (by rfl) fun Γ hn hk => ?_
 dsimp only [spec_RectPath_e, spec_RectPath_v]
 replace hn : Γ.n = 45 := hn
 replace hk : Γ.k = 0 := hk
 have H : HS (spec_RectPath a0) r := h
 clear h; unfold spec_RectPath at H
 try simp -implicitDefEqProofs at H
 refine Tr.of_vc (cl := tabC [(205, spec_Empty_x), (222, spec_PointOk_x)]) (E := E0) [] (tab_cons k_spec_Empty (tab_cons k_spec_PointOk tab_nil)) hm (by rw [hn]; decide +kernel) ?_
 try simp -implicitDefEqProofs (maxSteps := 999999) [-selQ_sel]
 obtain ⟨v1, h_1, H⟩ := HS.bnd H
 try simp -implicitDefEqProofs (maxSteps := 999999) [-selQ_sel, h_1]
 refine Hid.selQ (fun h_2 => ?_) (fun h_2 => ?_)
 ·replace H := HS.cnd_t h_2 H
  try simp -implicitDefEqProofs (maxSteps := 999999) [-selQ_sel, h_1, h_2]
  have hr := (HS.some H).symm; subst hr
  refine Hid.mk ⟨⟨[(2, AV.optr 0 0 2)], [(0, Ob.box [AV.osl 1 0 0 0, AV.osl 2 0 0 0]), (1, Ob.arr 1 (List.map (AV.int .i64) []) false), (2, Ob.arr 2 (List.map ePoint []) false)], 3⟩, Wk.ofk [1, 3, 4] hk (by rfl) (by simp -implicitDefEqProofs [h_1, h_2]) (by simp -implicitDefEqProofs [h_1, h_2]), ?_⟩
  try simp -implicitDefEqProofs (maxSteps := 999999) [-selQ_sel, h_1, h_2]
 ·replace H := HS.cnd_f h_2 H
  try simp -implicitDefEqProofs (maxSteps := 999999) [-selQ_sel, h_1, h_2]
  obtain ⟨v2, h_3, H⟩ := HS.bnd H
  try simp -implicitDefEqProofs (maxSteps := 999999) [-selQ_sel, h_1, h_2, h_3]
  refine Hid.selQ (fun h_4 => ?_) (fun h_4 => ?_)
  ·replace H := HS.cnd_t h_4 H
   try simp -implicitDefEqProofs (maxSteps := 999999) [-selQ_sel, h_1, h_2, h_3, h_4]
   obtain ⟨v3, h_5, H⟩ := HS.bnd H
   try simp -implicitDefEqProofs (maxSteps := 999999) [-selQ_sel, h_1, h_2, h_3, h_4, h_5]
   refine Hid.brV (fun h_6 => ?_) (fun h_6 => ?_)
   ·replace H := HS.cnd_t h_6 H
    try simp -implicitDefEqProofs (maxSteps := 999999) [-selQ_sel, h_1, h_2, h_3, h_4, h_5, h_6]
    have hr := (HS.some H).symm; subst hr
    refine Hid.mk ⟨⟨[(2, AV.optr 0 0 2)], [(0, Ob.box [AV.osl 1 0 (List.length [1, 2, 2, 2, 5]) (List.length [1, 2, 2, 2, 5]), AV.osl 2 0 (List.length [(TPoint.mk a0.x0 a0.y0), (TPoint.mk a0.x1 a0.y0), (TPoint.mk a0.x1 a0.y1), (TPoint.mk a0.x0 a0.y1)]) (List.length [(TPoint.mk a0.x0 a0.y0), (TPoint.mk a0.x1 a0.y0), (TPoint.mk a0.x1 a0.y1), (TPoint.mk a0.x0 a0.y1)])]), (1, Ob.arr 1 (List.map (AV.int .i64) [1, 2, 2, 2, 5]) false), (2, Ob.arr 2 (List.map ePoint [(TPoint.mk a0.x0 a0.y0), (TPoint.mk a0.x1 a0.y0), (TPoint.mk a0.x1 a0.y1), (TPoint.mk a0.x0 a0.y1)]) false)], 3⟩, Wk.ofk [1, 3, 2] hk (by rfl) (by simp -implicitDefEqProofs [h_1, h_2, h_3, h_4, h_5, h_6]) (by simp -implicitDefEqProofs [h_1, h_2, h_3, h_4, h_5, h_6]), ?_⟩
    try simp -implicitDefEqProofs (maxSteps := 999999) [-selQ_sel, h_1, h_2, h_3, h_4, h_5, h_6]
   ·replace H := HS.cnd_f h_6 H
    try simp -implicitDefEqProofs (maxSteps := 999999) [-selQ_sel, h_1, h_2, h_3, h_4, h_5, h_6]
    have hr := (HS.some H).symm; subst hr
    refine Hid.mk ⟨⟨[(2, AV.optr 0 0 2)], [(0, Ob.box [AV.osl 1 0 0 0, AV.osl 2 0 0 0]), (1, Ob.arr 1 (List.map (AV.int .i64) []) false), (2, Ob.arr 2 (List.map ePoint []) false)], 3⟩, Wk.ofk [1, 3, 4] hk (by rfl) (by simp -implicitDefEqProofs [h_1, h_2, h_3, h_4, h_5, h_6]) (by simp -implicitDefEqProofs [h_1, h_2, h_3, h_4, h_5, h_6]), ?_⟩
    try simp -implicitDefEqProofs (maxSteps := 999999) [-selQ_sel, h_1, h_2, h_3, h_4, h_5, h_6]
  ·replace H := HS.cnd_f h_4 H
   try simp -implicitDefEqProofs (maxSteps := 999999) [-selQ_sel, h_1, h_2, h_3, h_4]
   have hr := (HS.some H).symm; subst hr
   refine Hid.mk ⟨⟨[(2, AV.optr 0 0 2)], [(0, Ob.box [AV.osl 1 0 0 0, AV.osl 2 0 0 0]), (1, Ob.arr 1 (List.map (AV.int .i64) []) false), (2, Ob.arr 2 (List.map ePoint []) false)], 3⟩, Wk.ofk [1, 3, 4] hk (by rfl) (by simp -implicitDefEqProofs [h_1, h_2, h_3, h_4]) (by simp -implicitDefEqProofs [h_1, h_2, h_3, h_4]), ?_⟩
   try simp -implicitDefEqProofs (maxSteps := 999999) [-selQ_sel, h_1, h_2, h_3, h_4]
theorem impl_Scene_comesTo_ok0 (hm : Try.prog.follows .mixedOrders = true) (k_impl_NodeAt : Sound Try.prog 53 impl_NodeAt_x) : Sound Try.prog 190 impl_Scene_comesTo_x := by
 refine xOf_sound fun q r h => ?_
 obtain ⟨a0, a1, a2⟩ := q
 refine fn_ok E0 hm Try.func190 rfl (by decide +kernel) (by rfl) fun Γ hn hk => ?_
 dsimp only [impl_Scene_comesTo_e, impl_Scene_comesTo_v]
 replace hn : Γ.n = 34 := hn
 replace hk : Γ.k = 0 := hk
 have H : HS (impl_Scene_comesTo a0 a1 a2) r := h
 clear h; unfold impl_Scene_comesTo at H
 try simp -implicitDefEqProofs at H
 refine Tr.of_vc (cl := tabC [(53, impl_NodeAt_x)]) (E := E0) [] (tab_cons k_impl_NodeAt tab_nil) hm (by rw [hn]; decide +kernel) ?_
 try simp -implicitDefEqProofs (maxSteps := 999999) [-selQ_sel]
 obtain ⟨q, h_1, H⟩ := HS.bnd H
 refine Hid.mk (Tr.weak (s' := (impl_Scene_comesTo_l0_S a0 a2) (a1, 0)) (Wk.ofk [] hk (by rfl) (by simp -implicitDefEqProofs [impl_Scene_comesTo_l0_S]) (by simp -implicitDefEqProofs [impl_Scene_comesTo_l0_S])) ?_)
 refine wp_loop_of (S := (impl_Scene_comesTo_l0_S a0 a2)) (f := (impl_Scene_comesTo_l0 a0 a2)) (xt := (impl_Scene_comesTo_l0_X a0 a2)) ?_ ?_ h_1 ?_
 ·intro q; simp [impl_Scene_comesTo_l0_X]
 ·clear H h_1 q
  rintro ⟨x3, x4⟩ o R hf hR
  have H : HS (impl_Scene_comesTo_l0 a0 a2 (x3, x4)) o := hf
  clear hf; unfold impl_Scene_comesTo_l0 at H
  try simp -implicitDefEqProofs at H
  refine Tr.of_vc (cl := tabC [(53, impl_NodeAt_x)]) (E := E0) [] (tab_cons k_impl_NodeAt tab_nil) hm (by rw [hn]; decide +kernel) ?_
  try simp -implicitDefEqProofs (maxSteps := 999999) [-selQ_sel, impl_Scene_comesTo_l0_S]
  refine Hid.brV (fun h_2 => ?_) (fun h_2 => ?_)
  ·replace H := HS.cnd_t h_2 H
   try simp -implicitDefEqProofs (maxSteps := 999999) [-selQ_sel, h_2]
   have hr := (HS.some H).symm; subst hr
   exact Hid.mk ⟨(impl_Scene_comesTo_l0_X a0 a2 x3).2, Wk.ofk [] hk (by rfl) (by simp -implicitDefEqProofs [impl_Scene_comesTo_l0_X, h_2]) (by simp -implicitDefEqProofs [impl_Scene_comesTo_l0_X, h_2]), hR⟩
  ·replace H := HS.cnd_f h_2 H
   try simp -implicitDefEqProofs (maxSteps := 999999) [-selQ_sel, h_2]
   obtain ⟨v5, h_3, H⟩ := HS.bnd H
   try simp -implicitDefEqProofs (maxSteps := 999999) [-selQ_sel, h_2, h_3]
   refine Hid.selQ (fun h_4 => ?_) (fun h_4 => ?_)
   ·replace H := HS.cnd_t h_4 H
    try simp -implicitDefEqProofs (maxSteps := 999999) [-selQ_sel, h_2, h_3, h_4]
    have hr := (HS.some H).symm; subst hr
    exact Hid.mk ⟨(impl_Scene_comesTo_l0_X a0 a2 x3).2, Wk.ofk [] hk (by rfl) (by simp -implicitDefEqProofs [impl_Scene_comesTo_l0_X, h_2, h_3, h_4]) (by simp -implicitDefEqProofs [impl_Scene_comesTo_l0_X, h_2, h_3, h_4]), hR⟩
   ·replace H := HS.cnd_f h_4 H
    try simp -implicitDefEqProofs (maxSteps := 999999) [-selQ_sel, h_2, h_3, h_4]
    refine Hid.brV (fun h_5 => ?_) (fun h_5 => ?_)
    ·replace H := HS.cnd_t h_5 H
     try simp -implicitDefEqProofs (maxSteps := 999999) [-selQ_sel, h_2, h_3, h_4, h_5]
     obtain ⟨v6, h_6, H⟩ := HS.bnd H
     try simp -implicitDefEqProofs (maxSteps := 999999) [-selQ_sel, h_2, h_3, h_4, h_5, h_6]
     have hr := (HS.some H).symm; subst hr
     exact Hid.mk ⟨impl_Scene_comesTo_l0_S a0 a2 (v6.parent, (IntKind.i64.wrap (x4 + 1))), Wk.ofk [] hk (by rfl) (by simp -implicitDefEqProofs [impl_Scene_comesTo_l0_S, h_2, h_3, h_4, h_5, h_6]) (by simp -implicitDefEqProofs [impl_Scene_comesTo_l0_S, h_2, h_3, h_4, h_5, h_6]), hR⟩
    ·replace H := HS.cnd_f h_5 H
     try simp -implicitDefEqProofs (maxSteps := 999999) [-selQ_sel, h_2, h_3, h_4, h_5]
     have hr := (HS.some H).symm; subst hr
     exact Hid.mk ⟨(impl_Scene_comesTo_l0_X a0 a2 x3).2, Wk.ofk [] hk (by rfl) (by simp -implicitDefEqProofs [impl_Scene_comesTo_l0_X, h_2, h_3, h_4, h_5]) (by simp -implicitDefEqProofs [impl_Scene_comesTo_l0_X, h_2, h_3, h_4, h_5]), hR⟩
 ·revert H h_1; revert q; intro y7 h_1 H
  try dsimp only at H
  try simp -implicitDefEqProofs (maxSteps := 999999) [-selQ_sel, impl_Scene_comesTo_l0_X]
  have hr := (HS.some H).symm; subst hr
  refine Hid.mk ⟨_, Wk.refl _, ?_⟩
  try simp -implicitDefEqProofs (maxSteps := 999999) [-selQ_sel]
theorem spec_DashOk_ok0 (hm : Try.prog.follows .mixedOrders = true) (k_spec_l01In : Sound Try.prog 91 spec_l01In_x) : Sound Try.prog 185 spec_DashOk_x := by
 refine xOf_sound fun q r h => ?_
 revert h; revert r; revert q; intro a0 r h
 refine fn_ok E0 hm Try.func185 rfl (by decide +kernel) (by rfl) fun Γ hn hk => ?_
 dsimp only [spec_DashOk_e, spec_DashOk_v]
 replace hn : Γ.n = 25 := hn
 replace hk : Γ.k = 0 := hk
 have H : HS (spec_DashOk a0) r := h
 clear h; unfold spec_DashOk at H
 try simp -implicitDefEqProofs at H
 refine Tr.of_vc (cl := tabC [(91, spec_l01In_x)]) (E := E0) [] (tab_cons k_spec_l01In tab_nil) hm (by rw [hn]; decide +kernel) ?_
 try simp -implicitDefEqProofs (maxSteps := 999999) [-selQ_sel]
 obtain ⟨q, h_1, H⟩ := HS.bnd H
 refine Hid.mk (Tr.weak (s' := (spec_DashOk_l0_S a0) 0) (Wk.ofk [] hk (by rfl) (by simp -implicitDefEqProofs [spec_DashOk_l0_S]) (by simp -implicitDefEqProofs [spec_DashOk_l0_S])) ?_)
 refine wp_loop_of (S := (spec_DashOk_l0_S a0)) (f := (spec_DashOk_l0 a0)) (xt := (spec_DashOk_l0_X a0)) ?_ ?_ h_1 ?_
 ·intro q; rcases q with ⟨⟩ | ⟨⟩ <;> simp [spec_DashOk_l0_X]
 ·clear H h_1 q
  rintro x3 o R hf hR
  have H : HS (spec_DashOk_l0 a0 x3) o := hf
  clear hf; unfold spec_DashOk_l0 at H
  try simp -implicitDefEqProofs at H
  refine Tr.of_vc (cl := tabC [(91, spec_l01In_x)]) (E := E0) [] (tab_cons k_spec_l01In tab_nil) hm (by rw [hn]; decide +kernel) ?_
  try simp -implicitDefEqProofs (maxSteps := 999999) [-selQ_sel, spec_DashOk_l0_S]
  refine Hid.brV (fun h_2 => ?_) (fun h_2 => ?_)
  ·replace H := HS.cnd_t h_2 H
   try simp -implicitDefEqProofs (maxSteps := 999999) [-selQ_sel, h_2]
   have hr := (HS.some H).symm; subst hr
   exact Hid.mk ⟨(spec_DashOk_l0_X a0 (.inl ())).2, Wk.ofk [] hk (by rfl) (by simp -implicitDefEqProofs [spec_DashOk_l0_X, h_2]) (by simp -implicitDefEqProofs [spec_DashOk_l0_X, h_2]), hR⟩
  ·replace H := HS.cnd_f h_2 H
   try simp -implicitDefEqProofs (maxSteps := 999999) [-selQ_sel, h_2]
   obtain ⟨v4, h_3, H⟩ := HS.bnd H
   try simp -implicitDefEqProofs (maxSteps := 999999) [-selQ_sel, h_2, h_3]
   obtain ⟨v5, h_4, H⟩ := HS.bnd H
   try simp -implicitDefEqProofs (maxSteps := 999999) [-selQ_sel, h_2, h_3, h_4]
   refine Hid.brV (fun h_5 => ?_) (fun h_5 => ?_)
   ·replace H := HS.cnd_t h_5 H
    try simp -implicitDefEqProofs (maxSteps := 999999) [-selQ_sel, h_2, h_3, h_4, h_5]
    have hr := (HS.some H).symm; subst hr
    exact Hid.mk ⟨spec_DashOk_l0_S a0 (IntKind.i64.wrap (x3 + 1)), Wk.ofk [] hk (by rfl) (by simp -implicitDefEqProofs [spec_DashOk_l0_S, h_2, h_3, h_4, h_5]) (by simp -implicitDefEqProofs [spec_DashOk_l0_S, h_2, h_3, h_4, h_5]), hR⟩
   ·replace H := HS.cnd_f h_5 H
    try simp -implicitDefEqProofs (maxSteps := 999999) [-selQ_sel, h_2, h_3, h_4, h_5]
    have hr := (HS.some H).symm; subst hr
    exact Hid.mk ⟨(spec_DashOk_l0_X a0 (.inr ())).2, Wk.ofk [] hk (by rfl) (by simp -implicitDefEqProofs [spec_DashOk_l0_X, h_2, h_3, h_4, h_5]) (by simp -implicitDefEqProofs [spec_DashOk_l0_X, h_2, h_3, h_4, h_5]), hR⟩
 ·rcases q with ⟨⟩ | ⟨⟩
  ·dsimp only at H
   try simp -implicitDefEqProofs (maxSteps := 999999) [-selQ_sel, spec_DashOk_l0_X]
   refine Hid.selQ (fun h_6 => ?_) (fun h_6 => ?_)
   ·replace H := HS.cnd_t h_6 H
    try simp -implicitDefEqProofs (maxSteps := 999999) [-selQ_sel, h_6]
    have hr := (HS.some H).symm; subst hr
    refine Hid.mk ⟨_, Wk.refl _, ?_⟩
    try simp -implicitDefEqProofs (maxSteps := 999999) [-selQ_sel, h_6]
   ·replace H := HS.cnd_f h_6 H
    try simp -implicitDefEqProofs (maxSteps := 999999) [-selQ_sel, h_6]
    have hr := (HS.some H).symm; subst hr
    refine Hid.mk ⟨_, Wk.refl _, ?_⟩
    try simp -implicitDefEqProofs (maxSteps := 999999) [-selQ_sel, h_6]
  ·dsimp only at H
   try simp -implicitDefEqProofs (maxSteps := 999999) [-selQ_sel, spec_DashOk_l0_X]
   have hr := (HS.some H).symm; subst hr
   refine Hid.mk ⟨_, Wk.refl _, ?_⟩
   try simp -implicitDefEqProofs (maxSteps := 999999) [-selQ_sel]
theorem slices_Index_int_ok0 (hm : Try.prog.follows .mixedOrders = true) : Sound Try.prog 159 slices_Index_int_x := by
 refine xOf_sound fun q r h => ?_
 obtain ⟨a0, a1⟩ := q
 refine fn_ok E0 hm Try.func159 rfl (by decide +kernel) (by rfl) fun Γ hn hk => ?_
 dsimp only [slices_Index_int_e, slices_Index_int_v]
 replace hn : Γ.n = 19 := hn
 replace hk : Γ.k = 0 := hk
 have H : HS (slices_Index_int a0 a1) r := h
 clear h; unfold slices_Index_int at H
 try simp -implicitDefEqProofs at H
 refine Tr.of_vc (cl := tabC []) (E := E0) [] tab_nil hm (by rw [hn]; decide +kernel) ?_
 try simp -implicitDefEqProofs (maxSteps := 999999) [-selQ_sel]
 obtain ⟨q, h_1, H⟩ := HS.bnd H
 refine Hid.mk (Tr.weak (s' := (slices_Index_int_l0_S a0 a1) 0) (Wk.ofk [] hk (by rfl) (by simp -implicitDefEqProofs [slices_Index_int_l0_S]) (by simp -implicitDefEqProofs [slices_Index_int_l0_S])) ?_)
 refine wp_loop_of (S := (slices_Index_int_l0_S a0 a1)) (f := (slices_Index_int_l0 a0 a1)) (xt := (slices_Index_int_l0_X a0 a1)) ?_ ?_ h_1 ?_
 ·intro q; rcases q with ⟨⟩ | y4 <;> simp [slices_Index_int_l0_X]
 ·clear H h_1 q
  rintro x2 o R hf hR
  have H : HS (slices_Index_int_l0 a0 a1 x2) o := hf
  clear hf; unfold slices_Index_int_l0 at H
  try simp -implicitDefEqProofs at H
  refine Tr.of_vc (cl := tabC []) (E := E0) [] tab_nil hm (by rw [hn]; decide +kernel) ?_
  try simp -implicitDefEqProofs (maxSteps := 999999) [-selQ_sel, slices_Index_int_l0_S]
  refine Hid.brV (fun h_2 => ?_) (fun h_2 => ?_)
  ·replace H := HS.cnd_t h_2 H
   try simp -implicitDefEqProofs (maxSteps := 999999) [-selQ_sel, h_2]
   have hr := (HS.some H).symm; subst hr
   exact Hid.mk ⟨(slices_Index_int_l0_X a0 a1 (.inl ())).2, Wk.ofk [] hk (by rfl) (by simp -implicitDefEqProofs [slices_Index_int_l0_X, h_2]) (by simp -implicitDefEqProofs [slices_Index_int_l0_X, h_2]), hR⟩
  ·replace H := HS.cnd_f h_2 H
   try simp -implicitDefEqProofs (maxSteps := 999999) [-selQ_sel, h_2]
   obtain ⟨v3, h_3, H⟩ := HS.bnd H
   try simp -implicitDefEqProofs (maxSteps := 999999) [-selQ_sel, h_2, h_3]
   refine Hid.brV (fun h_4 => ?_) (fun h_4 => ?_)
   ·replace H := HS.cnd_t h_4 H
    try simp -implicitDefEqProofs (maxSteps := 999999) [-selQ_sel, h_2, h_3, h_4]
    have hr := (HS.some H).symm; subst hr
    exact Hid.mk ⟨(slices_Index_int_l0_X a0 a1 (.inr x2)).2, Wk.ofk [] hk (by rfl) (by simp -implicitDefEqProofs [slices_Index_int_l0_X, h_2, h_3, h_4]) (by simp -implicitDefEqProofs [slices_Index_int_l0_X, h_2, h_3, h_4]), hR⟩
   ·replace H := HS.cnd_f h_4 H
    try simp -implicitDefEqProofs (maxSteps := 999999) [-selQ_sel, h_2, h_3, h_4]
    have hr := (HS.some H).symm; subst hr
    exact Hid.mk ⟨slices_Index_int_l0_S a0 a1 (IntKind.i64.wrap (x2 + 1)), Wk.ofk [] hk (by rfl) (by simp -implicitDefEqProofs [slices_Index_int_l0_S, h_2, h_3, h_4]) (by simp -implicitDefEqProofs [slices_Index_int_l0_S, h_2, h_3, h_4]), hR⟩
 ·rcases q with ⟨⟩ | y4
  ·dsimp only at H
   try simp -implicitDefEqProofs (maxSteps := 999999) [-selQ_sel, slices_Index_int_l0_X]
   have hr := (HS.some H).symm; subst hr
   refine Hid.mk ⟨_, Wk.refl _, ?_⟩
   try simp -implicitDefEqProofs (maxSteps := 999999) [-selQ_sel]
  ·dsimp only at H
   try simp -implicitDefEqProofs (maxSteps := 999999) [-selQ_sel, slices_Index_int_l0_X]
   have hr := (HS.some H).symm; subst hr
   refine Hid.mk ⟨_, Wk.refl _, ?_⟩
   try simp -implicitDefEqProofs (maxSteps := 999999) [-selQ_sel]
theorem impl_Scene_isPlace_ok0 (hm : Try.prog.follows .mixedOrders = true) (k_impl_NodeAt : Sound Try.prog 53 impl_NodeAt_x) (k_impl_Scene_isParent : Sound Try.prog 113 impl_Scene_isParent_x) : Sound Try.prog 131 impl_Scene_isPlace_x := by
 refine xOf_sound fun q r h => ?_
 obtain ⟨a0, a1, a2, a3⟩ := q
 refine fn_ok E0 hm Try.func131 rfl (by decide +kernel) (by rfl) fun Γ hn hk => ?_
 dsimp only [impl_Scene_isPlace_e, impl_Scene_isPlace_v]
 replace hn : Γ.n = 36 := hn
 replace hk : Γ.k = 0 := hk
 have H : HS (impl_Scene_isPlace a0 a1 a2 a3) r := h
 clear h; unfold impl_Scene_isPlace at H
 try simp -implicitDefEqProofs at H
 refine Tr.of_vc (cl := tabC [(53, impl_NodeAt_x), (113, impl_Scene_isParent_x)]) (E := E0) [] (tab_cons k_impl_NodeAt (tab_cons k_impl_Scene_isParent tab_nil)) hm (by rw [hn]; decide +kernel) ?_
 try simp -implicitDefEqProofs (maxSteps := 999999) [-selQ_sel]
 obtain ⟨v1, h_1, H⟩ := HS.bnd H
 try simp -implicitDefEqProofs (maxSteps := 999999) [-selQ_sel, h_1]
 refine Hid.selQ (fun h_2 => ?_) (fun h_2 => ?_)
 ·replace H := HS.cnd_t h_2 H
  try simp -implicitDefEqProofs (maxSteps := 999999) [-selQ_sel, h_1, h_2]
  obtain ⟨v2, h_3, H⟩ := HS.bnd H
  try simp -implicitDefEqProofs (maxSteps := 999999) [-selQ_sel, h_1, h_2, h_3]
  refine Hid.brV (fun h_4 => ?_) (fun h_4 => ?_)
  ·replace H := HS.cnd_t h_4 H
   try simp -implicitDefEqProofs (maxSteps := 999999) [-selQ_sel, h_1, h_2, h_3, h_4]
   refine Hid.selQ (fun h_5 => ?_) (fun h_5 => ?_)
   ·replace H := HS.cnd_t h_5 H
    try simp -implicitDefEqProofs (maxSteps := 999999) [-selQ_sel, h_1, h_2, h_3, h_4, h_5]
    have hr := (HS.some H).symm; subst hr
    refine Hid.mk ⟨_, Wk.refl _, ?_⟩
    try simp -implicitDefEqProofs (maxSteps := 999999) [-selQ_sel, h_1, h_2, h_3, h_4, h_5]
   ·replace H := HS.cnd_f h_5 H
    try simp -implicitDefEqProofs (maxSteps := 999999) [-selQ_sel, h_1, h_2, h_3, h_4, h_5]
    refine Hid.selQ (fun h_6 => ?_) (fun h_6 => ?_)
    ·replace H := HS.cnd_t h_6 H
     try simp -implicitDefEqProofs (maxSteps := 999999) [-selQ_sel, h_1, h_2, h_3, h_4, h_5, h_6]
     have hr := (HS.some H).symm; subst hr
     refine Hid.mk ⟨_, Wk.refl _, ?_⟩
     try simp -implicitDefEqProofs (maxSteps := 999999) [-selQ_sel, h_1, h_2, h_3, h_4, h_5, h_6]
    ·replace H := HS.cnd_f h_6 H
     try simp -implicitDefEqProofs (maxSteps := 999999) [-selQ_sel, h_1, h_2, h_3, h_4, h_5, h_6]
     obtain ⟨v3, h_7, H⟩ := HS.bnd H
     try simp -implicitDefEqProofs (maxSteps := 999999) [-selQ_sel, h_1, h_2, h_3, h_4, h_5, h_6, h_7]
     have hr := (HS.some H).symm; subst hr
     refine Hid.mk ⟨_, Wk.refl _, ?_⟩
     try simp -implicitDefEqProofs (maxSteps := 999999) [-selQ_sel, h_1, h_2, h_3, h_4, h_5, h_6, h_7]
  ·replace H := HS.cnd_f h_4 H
   try simp -implicitDefEqProofs (maxSteps := 999999) [-selQ_sel, h_1, h_2, h_3, h_4]
   have hr := (HS.some H).symm; subst hr
   refine Hid.mk ⟨_, Wk.refl _, ?_⟩
   try simp -implicitDefEqProofs (maxSteps := 999999) [-selQ_sel, h_1, h_2, h_3, h_4]
 ·replace H := HS.cnd_f h_2 H
  try simp -implicitDefEqProofs (maxSteps := 999999) [-selQ_sel, h_1, h_2]
  have hr := (HS.some H).symm; subst hr
  refine Hid.mk ⟨_, Wk.refl _, ?_⟩
  try simp -implicitDefEqProofs (maxSteps := 999999) [-selQ_sel, h_1, h_2]
theorem impl_ColorOk_ok0 (hm : Try.prog.follows .mixedOrders = true) (k_impl_isByte : Sound Try.prog 179 impl_isByte_x) : Sound Try.prog 203 impl_ColorOk_x := by
 refine xOf_sound fun q r h => ?_
 revert h; revert r; revert q; intro a0 r h
 refine fn_ok E0 hm Try.func203 rfl (by decide +kernel) (by rfl) fun Γ hn hk => ?_
 dsimp only [impl_ColorOk_e, impl_ColorOk_v]
 replace hn : Γ.n = 21 := hn
 replace hk : Γ.k = 0 := hk
 have H : HS (impl_ColorOk a0) r := h
 clear h; unfold impl_ColorOk at H
 try simp -implicitDefEqProofs at H
 refine Tr.of_vc (cl := tabC [(179, impl_isByte_x)]) (E := E0) [] (tab_cons k_impl_isByte tab_nil) hm (by rw [hn]; decide +kernel) ?_
 try simp -implicitDefEqProofs (maxSteps := 999999) [-selQ_sel]
 obtain ⟨v1, h_1, H⟩ := HS.bnd H
 try simp -implicitDefEqProofs (maxSteps := 999999) [-selQ_sel, h_1]
 refine Hid.selQ (fun h_2 => ?_) (fun h_2 => ?_)
 ·replace H := HS.cnd_t h_2 H
  try simp -implicitDefEqProofs (maxSteps := 999999) [-selQ_sel, h_1, h_2]
  obtain ⟨v2, h_3, H⟩ := HS.bnd H
  try simp -implicitDefEqProofs (maxSteps := 999999) [-selQ_sel, h_1, h_2, h_3]
  refine Hid.selQ (fun h_4 => ?_) (fun h_4 => ?_)
  ·replace H := HS.cnd_t h_4 H
   try simp -implicitDefEqProofs (maxSteps := 999999) [-selQ_sel, h_1, h_2, h_3, h_4]
   obtain ⟨v3, h_5, H⟩ := HS.bnd H
   try simp -implicitDefEqProofs (maxSteps := 999999) [-selQ_sel, h_1, h_2, h_3, h_4, h_5]
   refine Hid.selQ (fun h_6 => ?_) (fun h_6 => ?_)
   ·replace H := HS.cnd_t h_6 H
    try simp -implicitDefEqProofs (maxSteps := 999999) [-selQ_sel, h_1, h_2, h_3, h_4, h_5, h_6]
    obtain ⟨v4, h_7, H⟩ := HS.bnd H
    try simp -implicitDefEqProofs (maxSteps := 999999) [-selQ_sel, h_1, h_2, h_3, h_4, h_5, h_6, h_7]
    have hr := (HS.some H).symm; subst hr
    refine Hid.mk ⟨_, Wk.refl _, ?_⟩
    try simp -implicitDefEqProofs (maxSteps := 999999) [-selQ_sel, h_1, h_2, h_3, h_4, h_5, h_6, h_7]
   ·replace H := HS.cnd_f h_6 H
    try simp -implicitDefEqProofs (maxSteps := 999999) [-selQ_sel, h_1, h_2, h_3, h_4, h_5, h_6]
    have hr := (HS.some H).symm; subst hr
    refine Hid.mk ⟨_, Wk.refl _, ?_⟩
    try simp -implicitDefEqProofs (maxSteps := 999999) [-selQ_sel, h_1, h_2, h_3, h_4, h_5, h_6]
  ·replace H := HS.cnd_f h_4 H
   try simp -implicitDefEqProofs (maxSteps := 999999) [-selQ_sel, h_1, h_2, h_3, h_4]
   have hr := (HS.some H).symm; subst hr
   refine Hid.mk ⟨_, Wk.refl _, ?_⟩
   try simp -implicitDefEqProofs (maxSteps := 999999) [-selQ_sel, h_1, h_2, h_3, h_4]
 ·replace H := HS.cnd_f h_2 H
  try simp -implicitDefEqProofs (maxSteps := 999999) [-selQ_sel, h_1, h_2]
  have hr := (HS.some H).symm; subst hr
  refine Hid.mk ⟨_, Wk.refl _, ?_⟩
  try simp -implicitDefEqProofs (maxSteps := 999999) [-selQ_sel, h_1, h_2]
theorem spec_ColorOk_ok0 (hm : Try.prog.follows .mixedOrders = true) (k_spec_l01In : Sound Try.prog 91 spec_l01In_x) : Sound Try.prog 202 spec_ColorOk_x := by
 refine xOf_sound fun q r h => ?_
 revert h; revert r; revert q; intro a0 r h
 refine fn_ok E0 hm Try.func202 rfl (by decide +kernel) (by rfl) fun Γ hn hk => ?_
 dsimp only [spec_ColorOk_e, spec_ColorOk_v]
 replace hn : Γ.n = 21 := hn
 replace hk : Γ.k = 0 := hk
 have H : HS (spec_ColorOk a0) r := h
 clear h; unfold spec_ColorOk at H
 try simp -implicitDefEqProofs at H
 refine Tr.of_vc (cl := tabC [(91, spec_l01In_x)]) (E := E0) [] (tab_cons k_spec_l01In tab_nil) hm (by rw [hn]; decide +kernel) ?_
 try simp -implicitDefEqProofs (maxSteps := 999999) [-selQ_sel]
 obtain ⟨v1, h_1, H⟩ := HS.bnd H
 try simp -implicitDefEqProofs (maxSteps := 999999) [-selQ_sel, h_1]
 refine Hid.selQ (fun h_2 => ?_) (fun h_2 => ?_)
 ·replace H := HS.cnd_t h_2 H
  try simp -implicitDefEqProofs (maxSteps := 999999) [-selQ_sel, h_1, h_2]
  obtain ⟨v2, h_3, H⟩ := HS.bnd H
  try simp -implicitDefEqProofs (maxSteps := 999999) [-selQ_sel, h_1, h_2, h_3]
  refine Hid.selQ (fun h_4 => ?_) (fun h_4 => ?_)
  ·replace H := HS.cnd_t h_4 H
   try simp -implicitDefEqProofs (maxSteps := 999999) [-selQ_sel, h_1, h_2, h_3, h_4]
   obtain ⟨v3, h_5, H⟩ := HS.bnd H
   try simp -implicitDefEqProofs (maxSteps := 999999) [-selQ_sel, h_1, h_2, h_3, h_4, h_5]
   refine Hid.selQ (fun h_6 => ?_) (fun h_6 => ?_)
   ·replace H := HS.cnd_t h_6 H
    try simp -implicitDefEqProofs (maxSteps := 999999) [-selQ_sel, h_1, h_2, h_3, h_4, h_5, h_6]
    obtain ⟨v4, h_7, H⟩ := HS.bnd H
    try simp -implicitDefEqProofs (maxSteps := 999999) [-selQ_sel, h_1, h_2, h_3, h_4, h_5, h_6, h_7]
    have hr := (HS.some H).symm; subst hr
    refine Hid.mk ⟨_, Wk.refl _, ?_⟩
    try simp -implicitDefEqProofs (maxSteps := 999999) [-selQ_sel, h_1, h_2, h_3, h_4, h_5, h_6, h_7]
   ·replace H := HS.cnd_f h_6 H
    try simp -implicitDefEqProofs (maxSteps := 999999) [-selQ_sel, h_1, h_2, h_3, h_4, h_5, h_6]
    have hr := (HS.some H).symm; subst hr
    refine Hid.mk ⟨_, Wk.refl _, ?_⟩
    try simp -implicitDefEqProofs (maxSteps := 999999) [-selQ_sel, h_1, h_2, h_3, h_4, h_5, h_6]
  ·replace H := HS.cnd_f h_4 H
   try simp -implicitDefEqProofs (maxSteps := 999999) [-selQ_sel, h_1, h_2, h_3, h_4]
   have hr := (HS.some H).symm; subst hr
   refine Hid.mk ⟨_, Wk.refl _, ?_⟩
   try simp -implicitDefEqProofs (maxSteps := 999999) [-selQ_sel, h_1, h_2, h_3, h_4]
 ·replace H := HS.cnd_f h_2 H
  try simp -implicitDefEqProofs (maxSteps := 999999) [-selQ_sel, h_1, h_2]
  have hr := (HS.some H).symm; subst hr
  refine Hid.mk ⟨_, Wk.refl _, ?_⟩
  try simp -implicitDefEqProofs (maxSteps := 999999) [-selQ_sel, h_1, h_2]
theorem spec_l01Place_ok0 (hm : Try.prog.follows .mixedOrders = true) (k_spec_l01Once : Sound Try.prog 170 spec_l01Once_x) (k_spec_l01PickInt : Sound Try.prog 171 spec_l01PickInt_x) (k_spec_l01Below : Sound Try.prog 107 spec_l01Below_x) : Sound Try.prog 130 spec_l01Place_x := by
 refine xOf_sound fun q r h => ?_
 obtain ⟨a0, a1⟩ := q
 refine fn_ok E0 hm Try.func130 rfl (by decide +kernel) (by rfl) fun Γ hn hk => ?_
 dsimp only [spec_l01Place_e, spec_l01Place_v]
 replace hn : Γ.n = 16 := hn
 replace hk : Γ.k = 1 := hk
 have H : HS (spec_l01Place a0 a1) r := h
 clear h; unfold spec_l01Place at H
 try simp -implicitDefEqProofs at H
 refine Tr.of_vc (cl := tabC [(170, spec_l01Once_x), (171, spec_l01PickInt_x), (107, spec_l01Below_x)]) (E := E0) [] (tab_cons k_spec_l01Once (tab_cons k_spec_l01PickInt (tab_cons k_spec_l01Below tab_nil))) hm (by rw [hn]; decide +kernel) ?_
 try simp -implicitDefEqProofs (maxSteps := 999999) [-selQ_sel]
 obtain ⟨⟨w2, w3⟩, h_1, H⟩ := HS.bnd H
 dsimp only at H
 try simp -implicitDefEqProofs (maxSteps := 999999) [-selQ_sel, h_1]
 refine Hid.brV (fun h_2 => ?_) (fun h_2 => ?_)
 ·replace H := HS.cnd_t h_2 H
  try simp -implicitDefEqProofs (maxSteps := 999999) [-selQ_sel, h_1, h_2]
  obtain ⟨⟨w5, w6⟩, h_3, H⟩ := HS.bnd H
  dsimp only at H
  have k_4 := spec_l01PickInt_k w3.b w3.i w3.h [(-1), a0, (IntKind.i64.wrap (a0 + 1)), 9223372036854775807, (-9223372036854775808)]
  simp -implicitDefEqProofs [-spec_l01PickInt_k] at k_4
  try simp -implicitDefEqProofs (maxSteps := 999999) [-selQ_sel, h_1, h_2, h_3, k_4]
  have hr := (HS.some H).symm; subst hr
  refine Hid.mk ⟨_, Wk.refl _, ?_⟩
  try simp -implicitDefEqProofs (maxSteps := 999999) [-selQ_sel, h_1, h_2, h_3, k_4]
 ·replace H := HS.cnd_f h_2 H
  try simp -implicitDefEqProofs (maxSteps := 999999) [-selQ_sel, h_1, h_2]
  obtain ⟨⟨w8, w9⟩, h_5, H⟩ := HS.bnd H
  dsimp only at H
  try simp -implicitDefEqProofs (maxSteps := 999999) [-selQ_sel, h_1, h_2, h_5]
  have hr := (HS.some H).symm; subst hr
  refine Hid.mk ⟨_, Wk.refl _, ?_⟩
  try simp -implicitDefEqProofs (maxSteps := 999999) [-selQ_sel, h_1, h_2, h_5]
theorem spec_l15CopyPath_ok0 (hm : Try.prog.follows .mixedOrders = true) : Sound Try.prog 189 spec_l15CopyPath_x := by
 refine xOf_sound fun q r h => ?_
 revert h; revert r; revert q; intro a0 r h
 refine fn_ok E0 hm Try.func189 rfl (by decide +kernel) (by rfl) fun Γ hn hk => ?_
 dsimp only [spec_l15CopyPath_e, spec_l15CopyPath_v]
 replace hn : Γ.n = 12 := hn
 replace hk : Γ.k = 0 := hk
 have H : HS (spec_l15CopyPath a0) r := h
 clear h; unfold spec_l15CopyPath at H
 try simp -implicitDefEqProofs at H
 refine Tr.of_vc (cl := tabC []) (E := E0) [] tab_nil hm (by rw [hn]; decide +kernel) ?_
 try simp -implicitDefEqProofs +decide (maxSteps := 999999) [-selQ_sel, hokQ_of]
 obtain ⟨h_1, H⟩ := HS.chkP H
 try simp -implicitDefEqProofs +decide (maxSteps := 999999) [-selQ_sel, hokQ_of, h_1]
 obtain ⟨l1, h_2, H⟩ := HS.nam H
 have m_3 := congrArg (List.map (AV.int .i64)) h_2
 have q_4 := congrArg List.length h_2
 simp -implicitDefEqProofs at m_3 q_4
 try simp only [q_4] at m_3
 try simp only [q_4] at h_1
 try simp -implicitDefEqProofs +decide (maxSteps := 999999) [-selQ_sel, hokQ_of, h_1, m_3, q_4]
 obtain ⟨h_5, H⟩ := HS.chkP H
 try simp -implicitDefEqProofs +decide (maxSteps := 999999) [-selQ_sel, hokQ_of, h_1, m_3, q_4, h_5]
 obtain ⟨l2, h_6, H⟩ := HS.nam H
 have m_7 := congrArg (List.map ePoint) h_6
 have q_8 := congrArg List.length h_6
 simp -implicitDefEqProofs at m_7 q_8
 try simp only [q_8] at m_7
 try simp only [q_8] at h_5
 try simp -implicitDefEqProofs +decide (maxSteps := 999999) [-selQ_sel, hokQ_of, h_1, m_3, q_4, h_5, m_7, q_8]
 have hr := (HS.some H).symm; subst hr
 refine Hid.mk ⟨_, Wk.refl _, ?_⟩
 try simp -implicitDefEqProofs +decide (maxSteps := 999999) [-selQ_sel, hokQ_of, h_1, m_3, q_4, h_5, m_7, q_8]
theorem laws_samePath_ok0 (hm : Try.prog.follows .mixedOrders = true) (k_laws_sameInts : Sound Try.prog 108 laws_sameInts_x) (k_laws_samePoints : Sound Try.prog 191 laws_samePoints_x) : Sound Try.prog 125 laws_samePath_x := by
 refine xOf_sound fun q r h => ?_
 obtain ⟨a0, a1⟩ := q
 refine fn_ok E0 hm Try.func125 rfl (by decide +kernel) (by rfl) fun Γ hn hk => ?_
 dsimp only [laws_samePath_e, laws_samePath_v]
 replace hn : Γ.n = 17 := hn
 replace hk : Γ.k = 0 := hk
 have H : HS (laws_samePath a0 a1) r := h
 clear h; unfold laws_samePath at H
 try simp -implicitDefEqProofs at H
 refine Tr.of_vc (cl := tabC [(108, laws_sameInts_x), (191, laws_samePoints_x)]) (E := E0) [] (tab_cons k_laws_sameInts (tab_cons k_laws_samePoints tab_nil)) hm (by rw [hn]; decide +kernel) ?_
 try simp -implicitDefEqProofs (maxSteps := 999999) [-selQ_sel]
 obtain ⟨v1, h_1, H⟩ := HS.bnd H
 try simp -implicitDefEqProofs (maxSteps := 999999) [-selQ_sel, h_1]
 refine Hid.selQ (fun h_2 => ?_) (fun h_2 => ?_)
 ·replace H := HS.cnd_t h_2 H
  try simp -implicitDefEqProofs (maxSteps := 999999) [-selQ_sel, h_1, h_2]
  obtain ⟨v2, h_3, H⟩ := HS.bnd H
  try simp -implicitDefEqProofs (maxSteps := 999999) [-selQ_sel, h_1, h_2, h_3]
  have hr := (HS.some H).symm; subst hr
  refine Hid.mk ⟨_, Wk.refl _, ?_⟩
  try simp -implicitDefEqProofs (maxSteps := 999999) [-selQ_sel, h_1, h_2, h_3]
 ·replace H := HS.cnd_f h_2 H
  try simp -implicitDefEqProofs (maxSteps := 999999) [-selQ_sel, h_1, h_2]
  have hr := (HS.some H).symm; subst hr
  refine Hid.mk ⟨_, Wk.refl _, ?_⟩
  try simp -implicitDefEqProofs (maxSteps := 999999) [-selQ_sel, h_1, h_2]
theorem slices_Clone_Point_ok0 (hm : Try.prog.follows .mixedOrders = true) : Sound Try.prog 221 slices_Clone_Point_x := by
 refine xOf_sound fun q r h => ?_
 revert h; revert r; revert q; intro a0 r h
 refine fn_ok E0 hm Try.func221 rfl (by decide +kernel) (by rfl) fun Γ hn hk => ?_
 dsimp only [slices_Clone_Point_e, slices_Clone_Point_v]
 replace hn : Γ.n = 8 := hn
 replace hk : Γ.k = 0 := hk
 have H : HS (slices_Clone_Point a0) r := h
 clear h; unfold slices_Clone_Point at H
 obtain ⟨h_1, H⟩ := HS.chkP H
 have hr := (HS.some H).symm; subst hr
 refine Tr.of_vc (cl := tabC []) (E := E0) [1] tab_nil hm (by rw [hn]; decide +kernel) ?_
 simp -implicitDefEqProofs [-selQ_sel]
 refine Hid.mk (Tr_nil (E := E0) tab_nil (h1 := rfl) (hd1 := fun d h => by cases h; rw [hn]; decide) (ho := rfl) (hg := rfl) (hd := rfl) (hdn := by rw [hn]; decide) (hu := elt_80) (hx := rfl) fun b hb => ?_)
 refine Tr.of_vc (cl := tabC []) (E := E0) [] tab_nil hm (by rw [hn]; decide +kernel) ?_
 simp -implicitDefEqProofs [-selQ_sel, aft, putT]
 refine Hid.brV (fun h_2 => ?_) (fun h_2 => ?_)
 ·simp -implicitDefEqProofs [-selQ_sel]
  have h_3 := hb h_2; simp at h_3; subst h_3
  refine Hid.mk ⟨_, Wk.refl _, ?_⟩
  simp -implicitDefEqProofs [-selQ_sel, h_1]
  refine ⟨_, Wk.refl _, ?_⟩
  simp -implicitDefEqProofs [-selQ_sel, h_1]
 ·simp -implicitDefEqProofs [-selQ_sel]
  refine Hid.mk ⟨_, Wk.refl _, ?_⟩
  simp -implicitDefEqProofs [-selQ_sel, h_1]
  refine ⟨_, Wk.refl _, ?_⟩
  simp -implicitDefEqProofs [-selQ_sel, h_1]
theorem impl_copyPath_ok0 (hm : Try.prog.follows .mixedOrders = true) (k_slices_Clone_int : Sound Try.prog 165 slices_Clone_int_x) (k_slices_Clone_Point : Sound Try.prog 221 slices_Clone_Point_x) : Sound Try.prog 182 impl_copyPath_x := by
 refine xOf_sound fun q r h => ?_
 revert h; revert r; revert q; intro a0 r h
 refine fn_ok E0 hm Try.func182 rfl (by decide +kernel) (by rfl) fun Γ hn hk => ?_
 dsimp only [impl_copyPath_e, impl_copyPath_v]
 replace hn : Γ.n = 10 := hn
 replace hk : Γ.k = 0 := hk
 have H : HS (impl_copyPath a0) r := h
 clear h; unfold impl_copyPath at H
 try simp -implicitDefEqProofs at H
 refine Tr.of_vc (cl := tabC [(165, slices_Clone_int_x), (221, slices_Clone_Point_x)]) (E := E0) [] (tab_cons k_slices_Clone_int (tab_cons k_slices_Clone_Point tab_nil)) hm (by rw [hn]; decide +kernel) ?_
 try simp -implicitDefEqProofs +decide (maxSteps := 999999) [-selQ_sel, hokQ_of]
 obtain ⟨v1, h_1, H⟩ := HS.bnd H
 try simp -implicitDefEqProofs +decide (maxSteps := 999999) [-selQ_sel, hokQ_of, h_1]
 obtain ⟨v2, h_2, H⟩ := HS.bnd H
 try simp -implicitDefEqProofs +decide (maxSteps := 999999) [-selQ_sel, hokQ_of, h_1, h_2]
 have hr := (HS.some H).symm; subst hr
 refine Hid.mk ⟨_, Wk.refl _, ?_⟩
 try simp -implicitDefEqProofs +decide (maxSteps := 999999) [-selQ_sel, hokQ_of, h_1, h_2]
theorem impl_Path_isNone_ok0 (hm : Try.prog.follows .mixedOrders = true) : Sound Try.prog 180 impl_Path_isNone_x := by
 refine xOf_sound fun q r h => ?_
 revert h; revert r; revert q; intro a0 r h
 refine fn_ok E0 hm Try.func180 rfl (by decide +kernel) (by rfl) fun Γ hn hk => ?_
 dsimp only [impl_Path_isNone_e, impl_Path_isNone_v]
 replace hn : Γ.n = 13 := hn
 replace hk : Γ.k = 0 := hk
 have H : HS (impl_Path_isNone a0) r := h
 clear h; unfold impl_Path_isNone at H
 try simp -implicitDefEqProofs at H
 refine Tr.of_vc (cl := tabC []) (E := E0) [] tab_nil hm (by rw [hn]; decide +kernel) ?_
 try simp -implicitDefEqProofs (maxSteps := 999999) [-selQ_sel]
 refine Hid.selQ (fun h_1 => ?_) (fun h_1 => ?_)
 ·replace H := HS.cnd_t h_1 H
  try simp -implicitDefEqProofs (maxSteps := 999999) [-selQ_sel, h_1]
  have hr := (HS.some H).symm; subst hr
  refine Hid.mk ⟨_, Wk.refl _, ?_⟩
  try simp -implicitDefEqProofs (maxSteps := 999999) [-selQ_sel, h_1]
 ·replace H := HS.cnd_f h_1 H
  try simp -implicitDefEqProofs (maxSteps := 999999) [-selQ_sel, h_1]
  have hr := (HS.some H).symm; subst hr
  refine Hid.mk ⟨_, Wk.refl _, ?_⟩
  try simp -implicitDefEqProofs (maxSteps := 999999) [-selQ_sel, h_1]
theorem impl_inRange_ok0 (hm : Try.prog.follows .mixedOrders = true) : Sound Try.prog 95 impl_inRange_x := by
 refine xOf_sound fun q r h => ?_
 obtain ⟨a0, a1, a2⟩ := q
 refine fn_ok E0 hm Try.func95 rfl (by decide +kernel) (by rfl) fun Γ hn hk => ?_
 dsimp only [impl_inRange_e, impl_inRange_v]
 replace hn : Γ.n = 15 := hn
 replace hk : Γ.k = 0 := hk
 have H : HS (impl_inRange a0 a1 a2) r := h
 clear h; unfold impl_inRange at H
 try simp -implicitDefEqProofs at H
 refine Tr.of_vc (cl := tabC []) (E := E0) [] tab_nil hm (by rw [hn]; decide +kernel) ?_
 try simp -implicitDefEqProofs (maxSteps := 999999) [-selQ_sel]
 refine Hid.selQ (fun h_1 => ?_) (fun h_1 => ?_)
 ·replace H := HS.cnd_t h_1 H
  try simp -implicitDefEqProofs (maxSteps := 999999) [-selQ_sel, h_1]
  have hr := (HS.some H).symm; subst hr
  refine Hid.mk ⟨_, Wk.refl _, ?_⟩
  try simp -implicitDefEqProofs (maxSteps := 999999) [-selQ_sel, h_1]
 ·replace H := HS.cnd_f h_1 H
  try simp -implicitDefEqProofs (maxSteps := 999999) [-selQ_sel, h_1]
  have hr := (HS.some H).symm; subst hr
  refine Hid.mk ⟨_, Wk.refl _, ?_⟩
  try simp -implicitDefEqProofs (maxSteps := 999999) [-selQ_sel, h_1]
theorem spec_l04Point_ok0 (hm : Try.prog.follows .mixedOrders = true) (k_spec_l01Below : Sound Try.prog 107 spec_l01Below_x) : Sound Try.prog 214 spec_l04Point_x := by
 refine xOf_sound fun q r h => ?_
 revert h; revert r; revert q; intro a0 r h
 refine fn_ok E0 hm Try.func214 rfl (by decide +kernel) (by rfl) fun Γ hn hk => ?_
 dsimp only [spec_l04Point_e, spec_l04Point_v]
 replace hn : Γ.n = 10 := hn
 replace hk : Γ.k = 1 := hk
 have H : HS (spec_l04Point a0) r := h
 clear h; unfold spec_l04Point at H
 try simp -implicitDefEqProofs at H
 refine Tr.of_vc (cl := tabC [(107, spec_l01Below_x)]) (E := E0) [] (tab_cons k_spec_l01Below tab_nil) hm (by rw [hn]; decide +kernel) ?_
 try simp -implicitDefEqProofs (maxSteps := 999999) [-selQ_sel]
 obtain ⟨⟨w2, w3⟩, h_1, H⟩ := HS.bnd H
 dsimp only at H
 try simp -implicitDefEqProofs (maxSteps := 999999) [-selQ_sel, h_1]
 obtain ⟨⟨w5, w6⟩, h_2, H⟩ := HS.bnd H
 dsimp only at H
 try simp -implicitDefEqProofs (maxSteps := 999999) [-selQ_sel, h_1, h_2]
 have hr := (HS.some H).symm; subst hr
 refine Hid.mk ⟨_, Wk.refl _, ?_⟩
 try simp -implicitDefEqProofs (maxSteps := 999999) [-selQ_sel, h_1, h_2]
theorem impl_isByte_ok0 (hm : Try.prog.follows .mixedOrders = true) (k_impl_inRange : Sound Try.prog 95 impl_inRange_x) : Sound Try.prog 179 impl_isByte_x := by
 refine xOf_sound fun q r h => ?_
 revert h; revert r; revert q; intro a0 r h
 refine fn_ok E0 hm Try.func179 rfl (by decide +kernel) (by rfl) fun Γ hn hk => ?_
 dsimp only [impl_isByte_e, impl_isByte_v]
 replace hn : Γ.n = 5 := hn
 replace hk : Γ.k = 0 := hk
 have H : HS (impl_isByte a0) r := h
 clear h; unfold impl_isByte at H
 try simp -implicitDefEqProofs at H
 refine Tr.of_vc (cl := tabC [(95, impl_inRange_x)]) (E := E0) [] (tab_cons k_impl_inRange tab_nil) hm (by rw [hn]; decide +kernel) ?_
 try simp -implicitDefEqProofs (maxSteps := 999999) [-selQ_sel]
 obtain ⟨v1, h_1, H⟩ := HS.bnd H
 try simp -implicitDefEqProofs (maxSteps := 999999) [-selQ_sel, h_1]
 have hr := (HS.some H).symm; subst hr
 refine Hid.mk ⟨_, Wk.refl _, ?_⟩
 try simp -implicitDefEqProofs (maxSteps := 999999) [-selQ_sel, h_1]
theorem impl_NodeAt_1_ok0 (hm : Try.prog.follows .mixedOrders = true) : Sound Try.prog 128 impl_NodeAt_1_x := by
 refine xOf_sound fun q r h => ?_
 obtain ⟨a0, a1⟩ := q
 refine fn_ok E0 hm Try.func128 rfl (by decide +kernel) (by rfl) fun Γ hn hk => ?_
 dsimp only [impl_NodeAt_1_e, impl_NodeAt_1_v]
 replace hn : Γ.n = 8 := hn
 replace hk : Γ.k = 0 := hk
 have H : HS (impl_NodeAt_1 a0 a1) r := h
 clear h; unfold impl_NodeAt_1 at H
 try simp -implicitDefEqProofs at H
 refine Tr.of_vc (cl := tabC []) (E := E0) [] tab_nil hm (by rw [hn]; decide +kernel) ?_
 try simp -implicitDefEqProofs (maxSteps := 999999) [-selQ_sel]
 have hr := (HS.some H).symm; subst hr
 refine Hid.mk ⟨_, Wk.refl _, ?_⟩
 try simp -implicitDefEqProofs (maxSteps := 999999) [-selQ_sel]
theorem spec_Shift_ok0 (hm : Try.prog.follows .mixedOrders = true) : Sound Try.prog 215 spec_Shift_x := by
 refine xOf_sound fun q r h => ?_
 obtain ⟨a0, a1⟩ := q
 refine fn_ok E0 hm Try.func215 rfl (by decide +kernel) (by rfl) fun Γ hn hk => ?_
 dsimp only [spec_Shift_e, spec_Shift_v]
 replace hn : Γ.n = 8 := hn
 replace hk : Γ.k = 0 := hk
 have H : HS (spec_Shift a0 a1) r := h
 clear h; unfold spec_Shift at H
 try simp -implicitDefEqProofs at H
 refine Tr.of_vc (cl := tabC []) (E := E0) [] tab_nil hm (by rw [hn]; decide +kernel) ?_
 try simp -implicitDefEqProofs (maxSteps := 999999) [-selQ_sel]
 have hr := (HS.some H).symm; subst hr
 refine Hid.mk ⟨_, Wk.refl _, ?_⟩
 try simp -implicitDefEqProofs (maxSteps := 999999) [-selQ_sel]
end Go.Proofs.Ytafljhadfoaceaa.Am
