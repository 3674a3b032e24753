import Derived.Test.YtafljhadfoaceaaAmPlMo
set_option linter.unusedVariables false
set_option linter.unusedSimpArgs false
set_option linter.unusedSectionVars false
namespace Go.Proofs.Ytafljhadfoaceaa.Am
open Go Go.Proofs
set_option maxRecDepth 100000
set_option linter.unusedSimpArgs false
set_option linter.unusedVariables false
set_option maxHeartbeats 4000000
theorem spec_PlaceNode_ok0 (hm : Try.prog.follows .mixedOrders = true) (k_spec_l15Copy : Sound Try.prog 116 spec_l15Copy_x) (k_spec_SceneOk : Sound Try.prog 117 spec_SceneOk_x) (k_spec_NodeAt : Sound Try.prog 119 spec_NodeAt_x) (k_spec_l15CopyNode : Sound Try.prog 121 spec_l15CopyNode_x) (k_spec_l15Under : Sound Try.prog 126 spec_l15Under_x) : Sound Try.prog 56 spec_PlaceNode_x := by
 refine xOf_sound fun q r h => ?_
 obtain ⟨a0, a1, a2, a3⟩ := q
 refine fn_ok E0 hm Try.func56 rfl (by decide +kernel) (by rfl) fun Γ hn hk => ?_
 dsimp only [spec_PlaceNode_e, spec_PlaceNode_v]
 replace hn : Γ.n = 133 := hn
 replace hk : Γ.k = 0 := hk
 have H : HS (spec_PlaceNode a0 a1 a2 a3) r := h
 clear h; unfold spec_PlaceNode at H
 try simp -implicitDefEqProofs at H
 refine Tr.of_vc (cl := tabC [(116, spec_l15Copy_x), (117, spec_SceneOk_x), (119, spec_NodeAt_x), (121, spec_l15CopyNode_x), (126, spec_l15Under_x)]) (E := E0) [] (tab_cons k_spec_l15Copy (tab_cons k_spec_SceneOk (tab_cons k_spec_NodeAt (tab_cons k_spec_l15CopyNode (tab_cons k_spec_l15Under tab_nil))))) hm (by rw [hn]; decide +kernel) ?_
 try simp -implicitDefEqProofs +decide (maxSteps := 999999) [-selQ_sel, hokQ_of]
 obtain ⟨v1, h_1, H⟩ := HS.bnd H
 try simp -implicitDefEqProofs +decide (maxSteps := 999999) [-selQ_sel, hokQ_of, h_1]
 obtain ⟨v2, h_2, H⟩ := HS.bnd H
 try simp -implicitDefEqProofs +decide (maxSteps := 999999) [-selQ_sel, hokQ_of, h_1, h_2]
 refine Hid.brV (fun h_3 => ?_) (fun h_3 => ?_)
 ·replace H := HS.cnd_t h_3 H
  try simp -implicitDefEqProofs +decide (maxSteps := 999999) [-selQ_sel, hokQ_of, h_1, h_2, h_3]
  obtain ⟨v3, h_4, H⟩ := HS.bnd H
  try simp -implicitDefEqProofs +decide (maxSteps := 999999) [-selQ_sel, hokQ_of, h_1, h_2, h_3, h_4]
  obtain ⟨v4, h_5, H⟩ := HS.bnd H
  try simp -implicitDefEqProofs +decide (maxSteps := 999999) [-selQ_sel, hokQ_of, h_1, h_2, h_3, h_4, h_5]
  refine Hid.selQ (fun h_6 => ?_) (fun h_6 => ?_)
  ·replace H := HS.cnd_t h_6 H
   try simp -implicitDefEqProofs +decide (maxSteps := 999999) [-selQ_sel, hokQ_of, h_1, h_2, h_3, h_4, h_5, h_6]
   refine Hid.selQ (fun h_7 => ?_) (fun h_7 => ?_)
   ·replace H := HS.cnd_t h_7 H
    try simp -implicitDefEqProofs +decide (maxSteps := 999999) [-selQ_sel, hokQ_of, h_1, h_2, h_3, h_4, h_5, h_6, h_7]
    refine Hid.selQ (fun h_8 => ?_) (fun h_8 => ?_)
    ·replace H := HS.cnd_t h_8 H
     try simp -implicitDefEqProofs +decide (maxSteps := 999999) [-selQ_sel, hokQ_of, h_1, h_2, h_3, h_4, h_5, h_6, h_7, h_8]
     refine Hid.brV (fun h_9 => ?_) (fun h_9 => ?_)
     ·replace H := HS.cnd_t h_9 H
      try simp -implicitDefEqProofs +decide (maxSteps := 999999) [-selQ_sel, hokQ_of, h_1, h_2, h_3, h_4, h_5, h_6, h_7, h_8, h_9]
      have hr := (HS.some H).symm; subst hr
      refine Hid.mk ⟨_, Wk.refl _, ?_⟩
      try simp -implicitDefEqProofs +decide (maxSteps := 999999) [-selQ_sel, hokQ_of, h_1, h_2, h_3, h_4, h_5, h_6, h_7, h_8, h_9]
     ·replace H := HS.cnd_f h_9 H
      try simp -implicitDefEqProofs +decide (maxSteps := 999999) [-selQ_sel, hokQ_of, h_1, h_2, h_3, h_4, h_5, h_6, h_7, h_8, h_9]
      obtain ⟨v5, h_10, H⟩ := HS.bnd H
      try simp -implicitDefEqProofs +decide (maxSteps := 999999) [-selQ_sel, hokQ_of, h_1, h_2, h_3, h_4, h_5, h_6, h_7, h_8, h_9, h_10]
      obtain ⟨v6, h_11, H⟩ := HS.bnd H
      try simp -implicitDefEqProofs +decide (maxSteps := 999999) [-selQ_sel, hokQ_of, h_1, h_2, h_3, h_4, h_5, h_6, h_7, h_8, h_9, h_10, h_11]
      obtain ⟨q, h_12, H⟩ := HS.bnd H
      refine Hid.mk (Tr.weak (s' := (spec_PlaceNode_l0_S a0 a2 a3 v1 v3 v6) (0, [(TNode.mk v6.id a2 v6.group v6.mat v6.path v6.even v6.width v6.dashes v6.paint v6.mode v6.fade v6.clip)])) (Wk.ofk [0, 1, 3, 4, 5, 2, 7] hk (by rfl) (by simp -implicitDefEqProofs [spec_PlaceNode_l0_S, h_1, h_2, h_3, h_4, h_5, h_6, h_7, h_8, h_9, h_10, h_11]) (by simp -implicitDefEqProofs [spec_PlaceNode_l0_S, h_1, h_2, h_3, h_4, h_5, h_6, h_7, h_8, h_9, h_10, h_11])) ?_)
      refine wp_loop_of (S := (spec_PlaceNode_l0_S a0 a2 a3 v1 v3 v6)) (f := (spec_PlaceNode_l0 a0 a2 a3 v1 v3 v6)) (xt := (spec_PlaceNode_l0_X a0 a2 a3 v1 v3 v6)) ?_ ?_ h_12 ?_
      ·intro q; simp [spec_PlaceNode_l0_X]
      ·clear H h_12 q
       rintro ⟨x10, x11⟩ o R hf hR
       have H : HS (spec_PlaceNode_l0 a0 a2 a3 v1 v3 v6 (x10, x11)) o := hf
       clear hf; unfold spec_PlaceNode_l0 at H
       try simp -implicitDefEqProofs at H
       refine Tr.of_vc (cl := tabC [(116, spec_l15Copy_x), (117, spec_SceneOk_x), (119, spec_NodeAt_x), (121, spec_l15CopyNode_x), (126, spec_l15Under_x)]) (E := E0) [] (tab_cons k_spec_l15Copy (tab_cons k_spec_SceneOk (tab_cons k_spec_NodeAt (tab_cons k_spec_l15CopyNode (tab_cons k_spec_l15Under tab_nil))))) hm (by rw [hn]; decide +kernel) ?_
       try simp -implicitDefEqProofs +decide (maxSteps := 999999) [-selQ_sel, hokQ_of, spec_PlaceNode_l0_S]
       refine Hid.brV (fun h_13 => ?_) (fun h_13 => ?_)
       ·replace H := HS.cnd_t h_13 H
        try simp -implicitDefEqProofs +decide (maxSteps := 999999) [-selQ_sel, hokQ_of, h_13]
        have hr := (HS.some H).symm; subst hr
        exact Hid.mk ⟨(spec_PlaceNode_l0_X a0 a2 a3 v1 v3 v6 x11).2, Wk.ofk [1, 2, 4, 5, 6] hk (by rfl) (by simp -implicitDefEqProofs [spec_PlaceNode_l0_X, h_13]) (by simp -implicitDefEqProofs [spec_PlaceNode_l0_X, h_13]), hR⟩
       ·replace H := HS.cnd_f h_13 H
        try simp -implicitDefEqProofs +decide (maxSteps := 999999) [-selQ_sel, hokQ_of, h_13]
        refine Hid.brV (fun h_14 => ?_) (fun h_14 => ?_)
        ·replace H := HS.cnd_t h_14 H
         try simp -implicitDefEqProofs +decide (maxSteps := 999999) [-selQ_sel, hokQ_of, h_13, h_14]
         obtain ⟨v12, h_15, H⟩ := HS.bnd H
         try simp -implicitDefEqProofs +decide (maxSteps := 999999) [-selQ_sel, hokQ_of, h_13, h_14, h_15]
         refine Hid.selQ (fun h_16 => ?_) (fun h_16 => ?_)
         ·replace H := HS.cnd_t h_16 H
          try simp -implicitDefEqProofs +decide (maxSteps := 999999) [-selQ_sel, hokQ_of, h_13, h_14, h_15, h_16]
          refine Hid.brV (fun h_17 => ?_) (fun h_17 => ?_)
          ·replace H := HS.cnd_t h_17 H
           try simp -implicitDefEqProofs +decide (maxSteps := 999999) [-selQ_sel, hokQ_of, h_13, h_14, h_15, h_16, h_17]
           have hr := (HS.some H).symm; subst hr
           exact Hid.mk ⟨spec_PlaceNode_l0_S a0 a2 a3 v1 v3 v6 ((IntKind.i64.wrap (x10 + 1)), x11), Wk.ofk [0, 1, 2, 3, 4, 5, 6] hk (by rfl) (by simp -implicitDefEqProofs [spec_PlaceNode_l0_S, h_13, h_14, h_15, h_16, h_17]) (by simp -implicitDefEqProofs [spec_PlaceNode_l0_S, h_13, h_14, h_15, h_16, h_17]), hR⟩
          ·replace H := HS.cnd_f h_17 H
           try simp -implicitDefEqProofs +decide (maxSteps := 999999) [-selQ_sel, hokQ_of, h_13, h_14, h_15, h_16, h_17]
           obtain ⟨h_18, H⟩ := HS.chkP H
           try simp -implicitDefEqProofs +decide (maxSteps := 999999) [-selQ_sel, hokQ_of, h_13, h_14, h_15, h_16, h_17, h_18]
           obtain ⟨l13, h_19, H⟩ := HS.nam H
           have m_20 := congrArg (List.map eNode) h_19
           have q_21 := congrArg List.length h_19
           simp -implicitDefEqProofs at m_20 q_21
           try simp only [q_21] at m_20
           try simp only [q_21] at h_18
           try simp -implicitDefEqProofs +decide (maxSteps := 999999) [-selQ_sel, hokQ_of, h_13, h_14, h_15, h_16, h_17, h_18, m_20, q_21]
           have hr := (HS.some H).symm; subst hr
           exact Hid.mk ⟨spec_PlaceNode_l0_S a0 a2 a3 v1 v3 v6 ((IntKind.i64.wrap (x10 + 1)), l13), Wk.ofk [0, 1, 2, 3, 4, 5, 6] hk (by rfl) (by simp -implicitDefEqProofs [spec_PlaceNode_l0_S, h_13, h_14, h_15, h_16, h_17, h_18, m_20, q_21]) (by simp -implicitDefEqProofs [spec_PlaceNode_l0_S, h_13, h_14, h_15, h_16, h_17, h_18, m_20, q_21]), hR⟩
         ·replace H := HS.cnd_f h_16 H
          try simp -implicitDefEqProofs +decide (maxSteps := 999999) [-selQ_sel, hokQ_of, h_13, h_14, h_15, h_16]
          have hr := (HS.some H).symm; subst hr
          exact Hid.mk ⟨spec_PlaceNode_l0_S a0 a2 a3 v1 v3 v6 ((IntKind.i64.wrap (x10 + 1)), x11), Wk.ofk [0, 1, 2, 3, 4, 5, 6] hk (by rfl) (by simp -implicitDefEqProofs [spec_PlaceNode_l0_S, h_13, h_14, h_15, h_16]) (by simp -implicitDefEqProofs [spec_PlaceNode_l0_S, h_13, h_14, h_15, h_16]), hR⟩
        ·replace H := HS.cnd_f h_14 H
         try simp -implicitDefEqProofs +decide (maxSteps := 999999) [-selQ_sel, hokQ_of, h_13, h_14]
         obtain ⟨v14, h_22, H⟩ := HS.bnd H
         try simp -implicitDefEqProofs +decide (maxSteps := 999999) [-selQ_sel, hokQ_of, h_13, h_14, h_22]
         obtain ⟨v15, h_23, H⟩ := HS.bnd H
         try simp -implicitDefEqProofs +decide (maxSteps := 999999) [-selQ_sel, hokQ_of, h_13, h_14, h_22, h_23]
         obtain ⟨h_24, H⟩ := HS.chkP H
         try simp -implicitDefEqProofs +decide (maxSteps := 999999) [-selQ_sel, hokQ_of, h_13, h_14, h_22, h_23, h_24]
         obtain ⟨l16, h_25, H⟩ := HS.nam H
         have m_26 := congrArg (List.map eNode) h_25
         have q_27 := congrArg List.length h_25
         simp -implicitDefEqProofs at m_26 q_27
         try simp only [q_27] at m_26
         try simp only [q_27] at h_24
         try simp -implicitDefEqProofs +decide (maxSteps := 999999) [-selQ_sel, hokQ_of, h_13, h_14, h_22, h_23, h_24, m_26, q_27]
         refine Hid.selQ (fun h_28 => ?_) (fun h_28 => ?_)
         ·replace H := HS.cnd_t h_28 H
          try simp -implicitDefEqProofs +decide (maxSteps := 999999) [-selQ_sel, hokQ_of, h_13, h_14, h_22, h_23, h_24, m_26, q_27, h_28]
          refine Hid.brV (fun h_29 => ?_) (fun h_29 => ?_)
          ·replace H := HS.cnd_t h_29 H
           try simp -implicitDefEqProofs +decide (maxSteps := 999999) [-selQ_sel, hokQ_of, h_13, h_14, h_22, h_23, h_24, m_26, q_27, h_28, h_29]
           have hr := (HS.some H).symm; subst hr
           exact Hid.mk ⟨spec_PlaceNode_l0_S a0 a2 a3 v1 v3 v6 ((IntKind.i64.wrap (x10 + 1)), l16), Wk.ofk [0, 1, 2, 3, 4, 5, 6] hk (by rfl) (by simp -implicitDefEqProofs [spec_PlaceNode_l0_S, h_13, h_14, h_22, h_23, h_24, m_26, q_27, h_28, h_29]) (by simp -implicitDefEqProofs [spec_PlaceNode_l0_S, h_13, h_14, h_22, h_23, h_24, m_26, q_27, h_28, h_29]), hR⟩
          ·replace H := HS.cnd_f h_29 H
           try simp -implicitDefEqProofs +decide (maxSteps := 999999) [-selQ_sel, hokQ_of, h_13, h_14, h_22, h_23, h_24, m_26, q_27, h_28, h_29]
           obtain ⟨h_30, H⟩ := HS.chkP H
           try simp -implicitDefEqProofs +decide (maxSteps := 999999) [-selQ_sel, hokQ_of, h_13, h_14, h_22, h_23, h_24, m_26, q_27, h_28, h_29, h_30]
           obtain ⟨l17, h_31, H⟩ := HS.nam H
           have m_32 := congrArg (List.map eNode) h_31
           have q_33 := congrArg List.length h_31
           simp -implicitDefEqProofs at m_32 q_33
           try simp only [q_33] at m_32
           try simp only [q_33] at h_30
           try simp -implicitDefEqProofs +decide (maxSteps := 999999) [-selQ_sel, hokQ_of, h_13, h_14, h_22, h_23, h_24, m_26, q_27, h_28, h_29, h_30, m_32, q_33]
           have hr := (HS.some H).symm; subst hr
           exact Hid.mk ⟨spec_PlaceNode_l0_S a0 a2 a3 v1 v3 v6 ((IntKind.i64.wrap (x10 + 1)), l17), Wk.ofk [0, 1, 2, 3, 4, 5, 6] hk (by rfl) (by simp -implicitDefEqProofs [spec_PlaceNode_l0_S, h_13, h_14, h_22, h_23, h_24, m_26, q_27, h_28, h_29, h_30, m_32, q_33]) (by simp -implicitDefEqProofs [spec_PlaceNode_l0_S, h_13, h_14, h_22, h_23, h_24, m_26, q_27, h_28, h_29, h_30, m_32, q_33]), hR⟩
         ·replace H := HS.cnd_f h_28 H
          try simp -implicitDefEqProofs +decide (maxSteps := 999999) [-selQ_sel, hokQ_of, h_13, h_14, h_22, h_23, h_24, m_26, q_27, h_28]
          have hr := (HS.some H).symm; subst hr
          exact Hid.mk ⟨spec_PlaceNode_l0_S a0 a2 a3 v1 v3 v6 ((IntKind.i64.wrap (x10 + 1)), l16), Wk.ofk [0, 1, 2, 3, 4, 5, 6] hk (by rfl) (by simp -implicitDefEqProofs [spec_PlaceNode_l0_S, h_13, h_14, h_22, h_23, h_24, m_26, q_27, h_28]) (by simp -implicitDefEqProofs [spec_PlaceNode_l0_S, h_13, h_14, h_22, h_23, h_24, m_26, q_27, h_28]), hR⟩
      ·revert H h_12; revert q; intro y18 h_12 H
       try dsimp only at H
       try simp -implicitDefEqProofs +decide (maxSteps := 999999) [-selQ_sel, hokQ_of, h_1, h_2, h_3, h_4, h_5, h_6, h_7, h_8, h_9, h_10, h_11, spec_PlaceNode_l0_X]
       obtain ⟨v19, h_34, H⟩ := HS.bnd H
       have k_35 := spec_SceneOk_k ((TScene.mk y18).nodes)
       simp -implicitDefEqProofs [-spec_SceneOk_k] at k_35
       try simp -implicitDefEqProofs +decide (maxSteps := 999999) [-selQ_sel, hokQ_of, h_1, h_2, h_3, h_4, h_5, h_6, h_7, h_8, h_9, h_10, h_11, h_34, k_35]
       refine Hid.brV (fun h_36 => ?_) (fun h_36 => ?_)
       ·replace H := HS.cnd_t h_36 H
        try simp -implicitDefEqProofs +decide (maxSteps := 999999) [-selQ_sel, hokQ_of, h_1, h_2, h_3, h_4, h_5, h_6, h_7, h_8, h_9, h_10, h_11, h_34, k_35, h_36]
        have hr := (HS.some H).symm; subst hr
        refine Hid.mk ⟨_, Wk.refl _, ?_⟩
        try simp -implicitDefEqProofs +decide (maxSteps := 999999) [-selQ_sel, hokQ_of, h_1, h_2, h_3, h_4, h_5, h_6, h_7, h_8, h_9, h_10, h_11, h_34, k_35, h_36]
       ·replace H := HS.cnd_f h_36 H
        try simp -implicitDefEqProofs +decide (maxSteps := 999999) [-selQ_sel, hokQ_of, h_1, h_2, h_3, h_4, h_5, h_6, h_7, h_8, h_9, h_10, h_11, h_34, k_35, h_36]
        have hr := (HS.some H).symm; subst hr
        refine Hid.mk ⟨_, Wk.refl _, ?_⟩
        try simp -implicitDefEqProofs +decide (maxSteps := 999999) [-selQ_sel, hokQ_of, h_1, h_2, h_3, h_4, h_5, h_6, h_7, h_8, h_9, h_10, h_11, h_34, k_35, h_36]
    ·replace H := HS.cnd_f h_8 H
     try simp -implicitDefEqProofs +decide (maxSteps := 999999) [-selQ_sel, hokQ_of, h_1, h_2, h_3, h_4, h_5, h_6, h_7, h_8]
     obtain ⟨v20, h_37, H⟩ := HS.bnd H
     try simp -implicitDefEqProofs +decide (maxSteps := 999999) [-selQ_sel, hokQ_of, h_1, h_2, h_3, h_4, h_5, h_6, h_7, h_8, h_37]
     refine Hid.selQ (fun h_38 => ?_) (fun h_38 => ?_)
     ·replace H := HS.cnd_t h_38 H
      try simp -implicitDefEqProofs +decide (maxSteps := 999999) [-selQ_sel, hokQ_of, h_1, h_2, h_3, h_4, h_5, h_6, h_7, h_8, h_37, h_38]
      refine Hid.brV (fun h_39 => ?_) (fun h_39 => ?_)
      ·replace H := HS.cnd_t h_39 H
       try simp -implicitDefEqProofs +decide (maxSteps := 999999) [-selQ_sel, hokQ_of, h_1, h_2, h_3, h_4, h_5, h_6, h_7, h_8, h_37, h_38, h_39]
       have hr := (HS.some H).symm; subst hr
       refine Hid.mk ⟨_, Wk.refl _, ?_⟩
       try simp -implicitDefEqProofs +decide (maxSteps := 999999) [-selQ_sel, hokQ_of, h_1, h_2, h_3, h_4, h_5, h_6, h_7, h_8, h_37, h_38, h_39]
      ·replace H := HS.cnd_f h_39 H
       try simp -implicitDefEqProofs +decide (maxSteps := 999999) [-selQ_sel, hokQ_of, h_1, h_2, h_3, h_4, h_5, h_6, h_7, h_8, h_37, h_38, h_39]
       obtain ⟨v21, h_40, H⟩ := HS.bnd H
       try simp -implicitDefEqProofs +decide (maxSteps := 999999) [-selQ_sel, hokQ_of, h_1, h_2, h_3, h_4, h_5, h_6, h_7, h_8, h_37, h_38, h_39, h_40]
       obtain ⟨v22, h_41, H⟩ := HS.bnd H
       try simp -implicitDefEqProofs +decide (maxSteps := 999999) [-selQ_sel, hokQ_of, h_1, h_2, h_3, h_4, h_5, h_6, h_7, h_8, h_37, h_38, h_39, h_40, h_41]
       obtain ⟨q, h_42, H⟩ := HS.bnd H
       refine Hid.mk (Tr.weak (s' := (spec_PlaceNode_l1_S a0 a2 a3 v1 v3 v22) (0, [])) (Wk.ofk [0, 1, 3, 4, 5, 2, 6] hk (by rfl) (by simp -implicitDefEqProofs [spec_PlaceNode_l1_S, h_1, h_2, h_3, h_4, h_5, h_6, h_7, h_8, h_37, h_38, h_39, h_40, h_41]) (by simp -implicitDefEqProofs [spec_PlaceNode_l1_S, h_1, h_2, h_3, h_4, h_5, h_6, h_7, h_8, h_37, h_38, h_39, h_40, h_41])) ?_)
       refine wp_loop_of (S := (spec_PlaceNode_l1_S a0 a2 a3 v1 v3 v22)) (f := (spec_PlaceNode_l1 a0 a2 a3 v1 v3 v22)) (xt := (spec_PlaceNode_l1_X a0 a2 a3 v1 v3 v22)) ?_ ?_ h_42 ?_
       ·intro q; simp [spec_PlaceNode_l1_X]
       ·clear H h_42 q
        rintro ⟨x26, x27⟩ o R hf hR
        have H : HS (spec_PlaceNode_l1 a0 a2 a3 v1 v3 v22 (x26, x27)) o := hf
        clear hf; unfold spec_PlaceNode_l1 at H
        try simp -implicitDefEqProofs at H
        refine Tr.of_vc (cl := tabC [(116, spec_l15Copy_x), (117, spec_SceneOk_x), (119, spec_NodeAt_x), (121, spec_l15CopyNode_x), (126, spec_l15Under_x)]) (E := E0) [] (tab_cons k_spec_l15Copy (tab_cons k_spec_SceneOk (tab_cons k_spec_NodeAt (tab_cons k_spec_l15CopyNode (tab_cons k_spec_l15Under tab_nil))))) hm (by rw [hn]; decide +kernel) ?_
        try simp -implicitDefEqProofs +decide (maxSteps := 999999) [-selQ_sel, hokQ_of, spec_PlaceNode_l1_S]
        refine Hid.brV (fun h_43 => ?_) (fun h_43 => ?_)
        ·replace H := HS.cnd_t h_43 H
         try simp -implicitDefEqProofs +decide (maxSteps := 999999) [-selQ_sel, hokQ_of, h_43]
         have hr := (HS.some H).symm; subst hr
         exact Hid.mk ⟨(spec_PlaceNode_l1_X a0 a2 a3 v1 v3 v22 x27).2, Wk.ofk [1, 2, 4, 5, 6] hk (by rfl) (by simp -implicitDefEqProofs [spec_PlaceNode_l1_X, h_43]) (by simp -implicitDefEqProofs [spec_PlaceNode_l1_X, h_43]), hR⟩
        ·replace H := HS.cnd_f h_43 H
         try simp -implicitDefEqProofs +decide (maxSteps := 999999) [-selQ_sel, hokQ_of, h_43]
         refine Hid.brV (fun h_44 => ?_) (fun h_44 => ?_)
         ·replace H := HS.cnd_t h_44 H
          try simp -implicitDefEqProofs +decide (maxSteps := 999999) [-selQ_sel, hokQ_of, h_43, h_44]
          obtain ⟨v28, h_45, H⟩ := HS.bnd H
          try simp -implicitDefEqProofs +decide (maxSteps := 999999) [-selQ_sel, hokQ_of, h_43, h_44, h_45]
          refine Hid.selQ (fun h_46 => ?_) (fun h_46 => ?_)
          ·replace H := HS.cnd_t h_46 H
           try simp -implicitDefEqProofs +decide (maxSteps := 999999) [-selQ_sel, hokQ_of, h_43, h_44, h_45, h_46]
           refine Hid.brV (fun h_47 => ?_) (fun h_47 => ?_)
           ·replace H := HS.cnd_t h_47 H
            try simp -implicitDefEqProofs +decide (maxSteps := 999999) [-selQ_sel, hokQ_of, h_43, h_44, h_45, h_46, h_47]
            have hr := (HS.some H).symm; subst hr
            exact Hid.mk ⟨spec_PlaceNode_l1_S a0 a2 a3 v1 v3 v22 ((IntKind.i64.wrap (x26 + 1)), x27), Wk.ofk [0, 1, 2, 3, 4, 5, 6] hk (by rfl) (by simp -implicitDefEqProofs [spec_PlaceNode_l1_S, h_43, h_44, h_45, h_46, h_47]) (by simp -implicitDefEqProofs [spec_PlaceNode_l1_S, h_43, h_44, h_45, h_46, h_47]), hR⟩
           ·replace H := HS.cnd_f h_47 H
            try simp -implicitDefEqProofs +decide (maxSteps := 999999) [-selQ_sel, hokQ_of, h_43, h_44, h_45, h_46, h_47]
            obtain ⟨h_48, H⟩ := HS.chkP H
            try simp -implicitDefEqProofs +decide (maxSteps := 999999) [-selQ_sel, hokQ_of, h_43, h_44, h_45, h_46, h_47, h_48]
            obtain ⟨l29, h_49, H⟩ := HS.nam H
            have m_50 := congrArg (List.map eNode) h_49
            have q_51 := congrArg List.length h_49
            simp -implicitDefEqProofs at m_50 q_51
            try simp only [q_51] at m_50
            try simp only [q_51] at h_48
            try simp -implicitDefEqProofs +decide (maxSteps := 999999) [-selQ_sel, hokQ_of, h_43, h_44, h_45, h_46, h_47, h_48, m_50, q_51]
            have hr := (HS.some H).symm; subst hr
            exact Hid.mk ⟨spec_PlaceNode_l1_S a0 a2 a3 v1 v3 v22 ((IntKind.i64.wrap (x26 + 1)), l29), Wk.ofk [0, 1, 2, 3, 4, 5, 6] hk (by rfl) (by simp -implicitDefEqProofs [spec_PlaceNode_l1_S, h_43, h_44, h_45, h_46, h_47, h_48, m_50, q_51]) (by simp -implicitDefEqProofs [spec_PlaceNode_l1_S, h_43, h_44, h_45, h_46, h_47, h_48, m_50, q_51]), hR⟩
          ·replace H := HS.cnd_f h_46 H
           try simp -implicitDefEqProofs +decide (maxSteps := 999999) [-selQ_sel, hokQ_of, h_43, h_44, h_45, h_46]
           have hr := (HS.some H).symm; subst hr
           exact Hid.mk ⟨spec_PlaceNode_l1_S a0 a2 a3 v1 v3 v22 ((IntKind.i64.wrap (x26 + 1)), x27), Wk.ofk [0, 1, 2, 3, 4, 5, 6] hk (by rfl) (by simp -implicitDefEqProofs [spec_PlaceNode_l1_S, h_43, h_44, h_45, h_46]) (by simp -implicitDefEqProofs [spec_PlaceNode_l1_S, h_43, h_44, h_45, h_46]), hR⟩
         ·replace H := HS.cnd_f h_44 H
          try simp -implicitDefEqProofs +decide (maxSteps := 999999) [-selQ_sel, hokQ_of, h_43, h_44]
          obtain ⟨v30, h_52, H⟩ := HS.bnd H
          try simp -implicitDefEqProofs +decide (maxSteps := 999999) [-selQ_sel, hokQ_of, h_43, h_44, h_52]
          obtain ⟨v31, h_53, H⟩ := HS.bnd H
          try simp -implicitDefEqProofs +decide (maxSteps := 999999) [-selQ_sel, hokQ_of, h_43, h_44, h_52, h_53]
          obtain ⟨h_54, H⟩ := HS.chkP H
          try simp -implicitDefEqProofs +decide (maxSteps := 999999) [-selQ_sel, hokQ_of, h_43, h_44, h_52, h_53, h_54]
          obtain ⟨l32, h_55, H⟩ := HS.nam H
          have m_56 := congrArg (List.map eNode) h_55
          have q_57 := congrArg List.length h_55
          simp -implicitDefEqProofs at m_56 q_57
          try simp only [q_57] at m_56
          try simp only [q_57] at h_54
          try simp -implicitDefEqProofs +decide (maxSteps := 999999) [-selQ_sel, hokQ_of, h_43, h_44, h_52, h_53, h_54, m_56, q_57]
          refine Hid.selQ (fun h_58 => ?_) (fun h_58 => ?_)
          ·replace H := HS.cnd_t h_58 H
           try simp -implicitDefEqProofs +decide (maxSteps := 999999) [-selQ_sel, hokQ_of, h_43, h_44, h_52, h_53, h_54, m_56, q_57, h_58]
           refine Hid.brV (fun h_59 => ?_) (fun h_59 => ?_)
           ·replace H := HS.cnd_t h_59 H
            try simp -implicitDefEqProofs +decide (maxSteps := 999999) [-selQ_sel, hokQ_of, h_43, h_44, h_52, h_53, h_54, m_56, q_57, h_58, h_59]
            have hr := (HS.some H).symm; subst hr
            exact Hid.mk ⟨spec_PlaceNode_l1_S a0 a2 a3 v1 v3 v22 ((IntKind.i64.wrap (x26 + 1)), l32), Wk.ofk [0, 1, 2, 3, 4, 5, 6] hk (by rfl) (by simp -implicitDefEqProofs [spec_PlaceNode_l1_S, h_43, h_44, h_52, h_53, h_54, m_56, q_57, h_58, h_59]) (by simp -implicitDefEqProofs [spec_PlaceNode_l1_S, h_43, h_44, h_52, h_53, h_54, m_56, q_57, h_58, h_59]), hR⟩
           ·replace H := HS.cnd_f h_59 H
            try simp -implicitDefEqProofs +decide (maxSteps := 999999) [-selQ_sel, hokQ_of, h_43, h_44, h_52, h_53, h_54, m_56, q_57, h_58, h_59]
            obtain ⟨h_60, H⟩ := HS.chkP H
            try simp -implicitDefEqProofs +decide (maxSteps := 999999) [-selQ_sel, hokQ_of, h_43, h_44, h_52, h_53, h_54, m_56, q_57, h_58, h_59, h_60]
            obtain ⟨l33, h_61, H⟩ := HS.nam H
            have m_62 := congrArg (List.map eNode) h_61
            have q_63 := congrArg List.length h_61
            simp -implicitDefEqProofs at m_62 q_63
            try simp only [q_63] at m_62
            try simp only [q_63] at h_60
            try simp -implicitDefEqProofs +decide (maxSteps := 999999) [-selQ_sel, hokQ_of, h_43, h_44, h_52, h_53, h_54, m_56, q_57, h_58, h_59, h_60, m_62, q_63]
            have hr := (HS.some H).symm; subst hr
            exact Hid.mk ⟨spec_PlaceNode_l1_S a0 a2 a3 v1 v3 v22 ((IntKind.i64.wrap (x26 + 1)), l33), Wk.ofk [0, 1, 2, 3, 4, 5, 6] hk (by rfl) (by simp -implicitDefEqProofs [spec_PlaceNode_l1_S, h_43, h_44, h_52, h_53, h_54, m_56, q_57, h_58, h_59, h_60, m_62, q_63]) (by simp -implicitDefEqProofs [spec_PlaceNode_l1_S, h_43, h_44, h_52, h_53, h_54, m_56, q_57, h_58, h_59, h_60, m_62, q_63]), hR⟩
          ·replace H := HS.cnd_f h_58 H
           try simp -implicitDefEqProofs +decide (maxSteps := 999999) [-selQ_sel, hokQ_of, h_43, h_44, h_52, h_53, h_54, m_56, q_57, h_58]
           have hr := (HS.some H).symm; subst hr
           exact Hid.mk ⟨spec_PlaceNode_l1_S a0 a2 a3 v1 v3 v22 ((IntKind.i64.wrap (x26 + 1)), l32), Wk.ofk [0, 1, 2, 3, 4, 5, 6] hk (by rfl) (by simp -implicitDefEqProofs [spec_PlaceNode_l1_S, h_43, h_44, h_52, h_53, h_54, m_56, q_57, h_58]) (by simp -implicitDefEqProofs [spec_PlaceNode_l1_S, h_43, h_44, h_52, h_53, h_54, m_56, q_57, h_58]), hR⟩
       ·revert H h_42; revert q; intro y34 h_42 H
        try dsimp only at H
        try simp -implicitDefEqProofs +decide (maxSteps := 999999) [-selQ_sel, hokQ_of, h_1, h_2, h_3, h_4, h_5, h_6, h_7, h_8, h_37, h_38, h_39, h_40, h_41, spec_PlaceNode_l1_X]
        obtain ⟨v35, h_64, H⟩ := HS.bnd H
        have k_65 := spec_SceneOk_k ((TScene.mk y34).nodes)
        simp -implicitDefEqProofs [-spec_SceneOk_k] at k_65
        try simp -implicitDefEqProofs +decide (maxSteps := 999999) [-selQ_sel, hokQ_of, h_1, h_2, h_3, h_4, h_5, h_6, h_7, h_8, h_37, h_38, h_39, h_40, h_41, h_64, k_65]
        refine Hid.brV (fun h_66 => ?_) (fun h_66 => ?_)
        ·replace H := HS.cnd_t h_66 H
         try simp -implicitDefEqProofs +decide (maxSteps := 999999) [-selQ_sel, hokQ_of, h_1, h_2, h_3, h_4, h_5, h_6, h_7, h_8, h_37, h_38, h_39, h_40, h_41, h_64, k_65, h_66]
         have hr := (HS.some H).symm; subst hr
         refine Hid.mk ⟨_, Wk.refl _, ?_⟩
         try simp -implicitDefEqProofs +decide (maxSteps := 999999) [-selQ_sel, hokQ_of, h_1, h_2, h_3, h_4, h_5, h_6, h_7, h_8, h_37, h_38, h_39, h_40, h_41, h_64, k_65, h_66]
        ·replace H := HS.cnd_f h_66 H
         try simp -implicitDefEqProofs +decide (maxSteps := 999999) [-selQ_sel, hokQ_of, h_1, h_2, h_3, h_4, h_5, h_6, h_7, h_8, h_37, h_38, h_39, h_40, h_41, h_64, k_65, h_66]
         have hr := (HS.some H).symm; subst hr
         refine Hid.mk ⟨_, Wk.refl _, ?_⟩
         try simp -implicitDefEqProofs +decide (maxSteps := 999999) [-selQ_sel, hokQ_of, h_1, h_2, h_3, h_4, h_5, h_6, h_7, h_8, h_37, h_38, h_39, h_40, h_41, h_64, k_65, h_66]
     ·replace H := HS.cnd_f h_38 H
      try simp -implicitDefEqProofs +decide (maxSteps := 999999) [-selQ_sel, hokQ_of, h_1, h_2, h_3, h_4, h_5, h_6, h_7, h_8, h_37, h_38]
      have hr := (HS.some H).symm; subst hr
      refine Hid.mk ⟨_, Wk.refl _, ?_⟩
      try simp -implicitDefEqProofs +decide (maxSteps := 999999) [-selQ_sel, hokQ_of, h_1, h_2, h_3, h_4, h_5, h_6, h_7, h_8, h_37, h_38]
   ·replace H := HS.cnd_f h_7 H
    try simp -implicitDefEqProofs +decide (maxSteps := 999999) [-selQ_sel, hokQ_of, h_1, h_2, h_3, h_4, h_5, h_6, h_7]
    refine Hid.selQ (fun h_67 => ?_) (fun h_67 => ?_)
    ·replace H := HS.cnd_t h_67 H
     try simp -implicitDefEqProofs +decide (maxSteps := 999999) [-selQ_sel, hokQ_of, h_1, h_2, h_3, h_4, h_5, h_6, h_7, h_67]
     obtain ⟨v36, h_68, H⟩ := HS.bnd H
     try simp -implicitDefEqProofs +decide (maxSteps := 999999) [-selQ_sel, hokQ_of, h_1, h_2, h_3, h_4, h_5, h_6, h_7, h_67, h_68]
     refine Hid.selQ (fun h_69 => ?_) (fun h_69 => ?_)
     ·replace H := HS.cnd_t h_69 H
      try simp -implicitDefEqProofs +decide (maxSteps := 999999) [-selQ_sel, hokQ_of, h_1, h_2, h_3, h_4, h_5, h_6, h_7, h_67, h_68, h_69]
      refine Hid.selQ (fun h_70 => ?_) (fun h_70 => ?_)
      ·replace H := HS.cnd_t h_70 H
       try simp -implicitDefEqProofs +decide (maxSteps := 999999) [-selQ_sel, hokQ_of, h_1, h_2, h_3, h_4, h_5, h_6, h_7, h_67, h_68, h_69, h_70]
       refine Hid.brV (fun h_71 => ?_) (fun h_71 => ?_)
       ·replace H := HS.cnd_t h_71 H
        try simp -implicitDefEqProofs +decide (maxSteps := 999999) [-selQ_sel, hokQ_of, h_1, h_2, h_3, h_4, h_5, h_6, h_7, h_67, h_68, h_69, h_70, h_71]
        have hr := (HS.some H).symm; subst hr
        refine Hid.mk ⟨_, Wk.refl _, ?_⟩
        try simp -implicitDefEqProofs +decide (maxSteps := 999999) [-selQ_sel, hokQ_of, h_1, h_2, h_3, h_4, h_5, h_6, h_7, h_67, h_68, h_69, h_70, h_71]
       ·replace H := HS.cnd_f h_71 H
        try simp -implicitDefEqProofs +decide (maxSteps := 999999) [-selQ_sel, hokQ_of, h_1, h_2, h_3, h_4, h_5, h_6, h_7, h_67, h_68, h_69, h_70, h_71]
        obtain ⟨v37, h_72, H⟩ := HS.bnd H
        try simp -implicitDefEqProofs +decide (maxSteps := 999999) [-selQ_sel, hokQ_of, h_1, h_2, h_3, h_4, h_5, h_6, h_7, h_67, h_68, h_69, h_70, h_71, h_72]
        refine Hid.brV (fun h_73 => ?_) (fun h_73 => ?_)
        ·replace H := HS.cnd_t h_73 H
         try simp -implicitDefEqProofs +decide (maxSteps := 999999) [-selQ_sel, hokQ_of, h_1, h_2, h_3, h_4, h_5, h_6, h_7, h_67, h_68, h_69, h_70, h_71, h_72, h_73]
         have hr := (HS.some H).symm; subst hr
         refine Hid.mk ⟨_, Wk.refl _, ?_⟩
         try simp -implicitDefEqProofs +decide (maxSteps := 999999) [-selQ_sel, hokQ_of, h_1, h_2, h_3, h_4, h_5, h_6, h_7, h_67, h_68, h_69, h_70, h_71, h_72, h_73]
        ·replace H := HS.cnd_f h_73 H
         try simp -implicitDefEqProofs +decide (maxSteps := 999999) [-selQ_sel, hokQ_of, h_1, h_2, h_3, h_4, h_5, h_6, h_7, h_67, h_68, h_69, h_70, h_71, h_72, h_73]
         obtain ⟨v38, h_74, H⟩ := HS.bnd H
         try simp -implicitDefEqProofs +decide (maxSteps := 999999) [-selQ_sel, hokQ_of, h_1, h_2, h_3, h_4, h_5, h_6, h_7, h_67, h_68, h_69, h_70, h_71, h_72, h_73, h_74]
         obtain ⟨v39, h_75, H⟩ := HS.bnd H
         try simp -implicitDefEqProofs +decide (maxSteps := 999999) [-selQ_sel, hokQ_of, h_1, h_2, h_3, h_4, h_5, h_6, h_7, h_67, h_68, h_69, h_70, h_71, h_72, h_73, h_74, h_75]
         obtain ⟨q, h_76, H⟩ := HS.bnd H
         refine Hid.mk (Tr.weak (s' := (spec_PlaceNode_l2_S a0 a2 a3 v1 v3 v39) (0, [(TNode.mk v39.id a2 v39.group v39.mat v39.path v39.even v39.width v39.dashes v39.paint v39.mode v39.fade v39.clip)])) (Wk.ofk [0, 1, 3, 4, 5, 2, 7] hk (by rfl) (by simp -implicitDefEqProofs [spec_PlaceNode_l2_S, h_1, h_2, h_3, h_4, h_5, h_6, h_7, h_67, h_68, h_69, h_70, h_71, h_72, h_73, h_74, h_75]) (by simp -implicitDefEqProofs [spec_PlaceNode_l2_S, h_1, h_2, h_3, h_4, h_5, h_6, h_7, h_67, h_68, h_69, h_70, h_71, h_72, h_73, h_74, h_75])) ?_)
         refine wp_loop_of (S := (spec_PlaceNode_l2_S a0 a2 a3 v1 v3 v39)) (f := (spec_PlaceNode_l2 a0 a2 a3 v1 v3 v39)) (xt := (spec_PlaceNode_l2_X a0 a2 a3 v1 v3 v39)) ?_ ?_ h_76 ?_
         ·intro q; simp [spec_PlaceNode_l2_X]
         ·clear H h_76 q
          rintro ⟨x43, x44⟩ o R hf hR
          have H : HS (spec_PlaceNode_l2 a0 a2 a3 v1 v3 v39 (x43, x44)) o := hf
          clear hf; unfold spec_PlaceNode_l2 at H
          try simp -implicitDefEqProofs at H
          refine Tr.of_vc (cl := tabC [(116, spec_l15Copy_x), (117, spec_SceneOk_x), (119, spec_NodeAt_x), (121, spec_l15CopyNode_x), (126, spec_l15Under_x)]) (E := E0) [] (tab_cons k_spec_l15Copy (tab_cons k_spec_SceneOk (tab_cons k_spec_NodeAt (tab_cons k_spec_l15CopyNode (tab_cons k_spec_l15Under tab_nil))))) hm (by rw [hn]; decide +kernel) ?_
          try simp -implicitDefEqProofs +decide (maxSteps := 999999) [-selQ_sel, hokQ_of, spec_PlaceNode_l2_S]
          refine Hid.brV (fun h_77 => ?_) (fun h_77 => ?_)
          ·replace H := HS.cnd_t h_77 H
           try simp -implicitDefEqProofs +decide (maxSteps := 999999) [-selQ_sel, hokQ_of, h_77]
           have hr := (HS.some H).symm; subst hr
           exact Hid.mk ⟨(spec_PlaceNode_l2_X a0 a2 a3 v1 v3 v39 x44).2, Wk.ofk [1, 2, 4, 5, 6] hk (by rfl) (by simp -implicitDefEqProofs [spec_PlaceNode_l2_X, h_77]) (by simp -implicitDefEqProofs [spec_PlaceNode_l2_X, h_77]), hR⟩
          ·replace H := HS.cnd_f h_77 H
           try simp -implicitDefEqProofs +decide (maxSteps := 999999) [-selQ_sel, hokQ_of, h_77]
           refine Hid.brV (fun h_78 => ?_) (fun h_78 => ?_)
           ·replace H := HS.cnd_t h_78 H
            try simp -implicitDefEqProofs +decide (maxSteps := 999999) [-selQ_sel, hokQ_of, h_77, h_78]
            obtain ⟨v45, h_79, H⟩ := HS.bnd H
            try simp -implicitDefEqProofs +decide (maxSteps := 999999) [-selQ_sel, hokQ_of, h_77, h_78, h_79]
            refine Hid.selQ (fun h_80 => ?_) (fun h_80 => ?_)
            ·replace H := HS.cnd_t h_80 H
             try simp -implicitDefEqProofs +decide (maxSteps := 999999) [-selQ_sel, hokQ_of, h_77, h_78, h_79, h_80]
             refine Hid.brV (fun h_81 => ?_) (fun h_81 => ?_)
             ·replace H := HS.cnd_t h_81 H
              try simp -implicitDefEqProofs +decide (maxSteps := 999999) [-selQ_sel, hokQ_of, h_77, h_78, h_79, h_80, h_81]
              have hr := (HS.some H).symm; subst hr
              exact Hid.mk ⟨spec_PlaceNode_l2_S a0 a2 a3 v1 v3 v39 ((IntKind.i64.wrap (x43 + 1)), x44), Wk.ofk [0, 1, 2, 3, 4, 5, 6] hk (by rfl) (by simp -implicitDefEqProofs [spec_PlaceNode_l2_S, h_77, h_78, h_79, h_80, h_81]) (by simp -implicitDefEqProofs [spec_PlaceNode_l2_S, h_77, h_78, h_79, h_80, h_81]), hR⟩
             ·replace H := HS.cnd_f h_81 H
              try simp -implicitDefEqProofs +decide (maxSteps := 999999) [-selQ_sel, hokQ_of, h_77, h_78, h_79, h_80, h_81]
              obtain ⟨h_82, H⟩ := HS.chkP H
              try simp -implicitDefEqProofs +decide (maxSteps := 999999) [-selQ_sel, hokQ_of, h_77, h_78, h_79, h_80, h_81, h_82]
              obtain ⟨l46, h_83, H⟩ := HS.nam H
              have m_84 := congrArg (List.map eNode) h_83
              have q_85 := congrArg List.length h_83
              simp -implicitDefEqProofs at m_84 q_85
              try simp only [q_85] at m_84
              try simp only [q_85] at h_82
              try simp -implicitDefEqProofs +decide (maxSteps := 999999) [-selQ_sel, hokQ_of, h_77, h_78, h_79, h_80, h_81, h_82, m_84, q_85]
              have hr := (HS.some H).symm; subst hr
              exact Hid.mk ⟨spec_PlaceNode_l2_S a0 a2 a3 v1 v3 v39 ((IntKind.i64.wrap (x43 + 1)), l46), Wk.ofk [0, 1, 2, 3, 4, 5, 6] hk (by rfl) (by simp -implicitDefEqProofs [spec_PlaceNode_l2_S, h_77, h_78, h_79, h_80, h_81, h_82, m_84, q_85]) (by simp -implicitDefEqProofs [spec_PlaceNode_l2_S, h_77, h_78, h_79, h_80, h_81, h_82, m_84, q_85]), hR⟩
            ·replace H := HS.cnd_f h_80 H
             try simp -implicitDefEqProofs +decide (maxSteps := 999999) [-selQ_sel, hokQ_of, h_77, h_78, h_79, h_80]
             have hr := (HS.some H).symm; subst hr
             exact Hid.mk ⟨spec_PlaceNode_l2_S a0 a2 a3 v1 v3 v39 ((IntKind.i64.wrap (x43 + 1)), x44), Wk.ofk [0, 1, 2, 3, 4, 5, 6] hk (by rfl) (by simp -implicitDefEqProofs [spec_PlaceNode_l2_S, h_77, h_78, h_79, h_80]) (by simp -implicitDefEqProofs [spec_PlaceNode_l2_S, h_77, h_78, h_79, h_80]), hR⟩
           ·replace H := HS.cnd_f h_78 H
            try simp -implicitDefEqProofs +decide (maxSteps := 999999) [-selQ_sel, hokQ_of, h_77, h_78]
            obtain ⟨v47, h_86, H⟩ := HS.bnd H
            try simp -implicitDefEqProofs +decide (maxSteps := 999999) [-selQ_sel, hokQ_of, h_77, h_78, h_86]
            obtain ⟨v48, h_87, H⟩ := HS.bnd H
            try simp -implicitDefEqProofs +decide (maxSteps := 999999) [-selQ_sel, hokQ_of, h_77, h_78, h_86, h_87]
            obtain ⟨h_88, H⟩ := HS.chkP H
            try simp -implicitDefEqProofs +decide (maxSteps := 999999) [-selQ_sel, hokQ_of, h_77, h_78, h_86, h_87, h_88]
            obtain ⟨l49, h_89, H⟩ := HS.nam H
            have m_90 := congrArg (List.map eNode) h_89
            have q_91 := congrArg List.length h_89
            simp -implicitDefEqProofs at m_90 q_91
            try simp only [q_91] at m_90
            try simp only [q_91] at h_88
            try simp -implicitDefEqProofs +decide (maxSteps := 999999) [-selQ_sel, hokQ_of, h_77, h_78, h_86, h_87, h_88, m_90, q_91]
            refine Hid.selQ (fun h_92 => ?_) (fun h_92 => ?_)
            ·replace H := HS.cnd_t h_92 H
             try simp -implicitDefEqProofs +decide (maxSteps := 999999) [-selQ_sel, hokQ_of, h_77, h_78, h_86, h_87, h_88, m_90, q_91, h_92]
             refine Hid.brV (fun h_93 => ?_) (fun h_93 => ?_)
             ·replace H := HS.cnd_t h_93 H
              try simp -implicitDefEqProofs +decide (maxSteps := 999999) [-selQ_sel, hokQ_of, h_77, h_78, h_86, h_87, h_88, m_90, q_91, h_92, h_93]
              have hr := (HS.some H).symm; subst hr
              exact Hid.mk ⟨spec_PlaceNode_l2_S a0 a2 a3 v1 v3 v39 ((IntKind.i64.wrap (x43 + 1)), l49), Wk.ofk [0, 1, 2, 3, 4, 5, 6] hk (by rfl) (by simp -implicitDefEqProofs [spec_PlaceNode_l2_S, h_77, h_78, h_86, h_87, h_88, m_90, q_91, h_92, h_93]) (by simp -implicitDefEqProofs [spec_PlaceNode_l2_S, h_77, h_78, h_86, h_87, h_88, m_90, q_91, h_92, h_93]), hR⟩
             ·replace H := HS.cnd_f h_93 H
              try simp -implicitDefEqProofs +decide (maxSteps := 999999) [-selQ_sel, hokQ_of, h_77, h_78, h_86, h_87, h_88, m_90, q_91, h_92, h_93]
              obtain ⟨h_94, H⟩ := HS.chkP H
              try simp -implicitDefEqProofs +decide (maxSteps := 999999) [-selQ_sel, hokQ_of, h_77, h_78, h_86, h_87, h_88, m_90, q_91, h_92, h_93, h_94]
              obtain ⟨l50, h_95, H⟩ := HS.nam H
              have m_96 := congrArg (List.map eNode) h_95
              have q_97 := congrArg List.length h_95
              simp -implicitDefEqProofs at m_96 q_97
              try simp only [q_97] at m_96
              try simp only [q_97] at h_94
              try simp -implicitDefEqProofs +decide (maxSteps := 999999) [-selQ_sel, hokQ_of, h_77, h_78, h_86, h_87, h_88, m_90, q_91, h_92, h_93, h_94, m_96, q_97]
              have hr := (HS.some H).symm; subst hr
              exact Hid.mk ⟨spec_PlaceNode_l2_S a0 a2 a3 v1 v3 v39 ((IntKind.i64.wrap (x43 + 1)), l50), Wk.ofk [0, 1, 2, 3, 4, 5, 6] hk (by rfl) (by simp -implicitDefEqProofs [spec_PlaceNode_l2_S, h_77, h_78, h_86, h_87, h_88, m_90, q_91, h_92, h_93, h_94, m_96, q_97]) (by simp -implicitDefEqProofs [spec_PlaceNode_l2_S, h_77, h_78, h_86, h_87, h_88, m_90, q_91, h_92, h_93, h_94, m_96, q_97]), hR⟩
            ·replace H := HS.cnd_f h_92 H
             try simp -implicitDefEqProofs +decide (maxSteps := 999999) [-selQ_sel, hokQ_of, h_77, h_78, h_86, h_87, h_88, m_90, q_91, h_92]
             have hr := (HS.some H).symm; subst hr
             exact Hid.mk ⟨spec_PlaceNode_l2_S a0 a2 a3 v1 v3 v39 ((IntKind.i64.wrap (x43 + 1)), l49), Wk.ofk [0, 1, 2, 3, 4, 5, 6] hk (by rfl) (by simp -implicitDefEqProofs [spec_PlaceNode_l2_S, h_77, h_78, h_86, h_87, h_88, m_90, q_91, h_92]) (by simp -implicitDefEqProofs [spec_PlaceNode_l2_S, h_77, h_78, h_86, h_87, h_88, m_90, q_91, h_92]), hR⟩
         ·revert H h_76; revert q; intro y51 h_76 H
          try dsimp only at H
          try simp -implicitDefEqProofs +decide (maxSteps := 999999) [-selQ_sel, hokQ_of, h_1, h_2, h_3, h_4, h_5, h_6, h_7, h_67, h_68, h_69, h_70, h_71, h_72, h_73, h_74, h_75, spec_PlaceNode_l2_X]
          obtain ⟨v52, h_98, H⟩ := HS.bnd H
          have k_99 := spec_SceneOk_k ((TScene.mk y51).nodes)
          simp -implicitDefEqProofs [-spec_SceneOk_k] at k_99
          try simp -implicitDefEqProofs +decide (maxSteps := 999999) [-selQ_sel, hokQ_of, h_1, h_2, h_3, h_4, h_5, h_6, h_7, h_67, h_68, h_69, h_70, h_71, h_72, h_73, h_74, h_75, h_98, k_99]
          refine Hid.brV (fun h_100 => ?_) (fun h_100 => ?_)
          ·replace H := HS.cnd_t h_100 H
           try simp -implicitDefEqProofs +decide (maxSteps := 999999) [-selQ_sel, hokQ_of, h_1, h_2, h_3, h_4, h_5, h_6, h_7, h_67, h_68, h_69, h_70, h_71, h_72, h_73, h_74, h_75, h_98, k_99, h_100]
           have hr := (HS.some H).symm; subst hr
           refine Hid.mk ⟨_, Wk.refl _, ?_⟩
           try simp -implicitDefEqProofs +decide (maxSteps := 999999) [-selQ_sel, hokQ_of, h_1, h_2, h_3, h_4, h_5, h_6, h_7, h_67, h_68, h_69, h_70, h_71, h_72, h_73, h_74, h_75, h_98, k_99, h_100]
          ·replace H := HS.cnd_f h_100 H
           try simp -implicitDefEqProofs +decide (maxSteps := 999999) [-selQ_sel, hokQ_of, h_1, h_2, h_3, h_4, h_5, h_6, h_7, h_67, h_68, h_69, h_70, h_71, h_72, h_73, h_74, h_75, h_98, k_99, h_100]
           have hr := (HS.some H).symm; subst hr
           refine Hid.mk ⟨_, Wk.refl _, ?_⟩
           try simp -implicitDefEqProofs +decide (maxSteps := 999999) [-selQ_sel, hokQ_of, h_1, h_2, h_3, h_4, h_5, h_6, h_7, h_67, h_68, h_69, h_70, h_71, h_72, h_73, h_74, h_75, h_98, k_99, h_100]
      ·replace H := HS.cnd_f h_70 H
       try simp -implicitDefEqProofs +decide (maxSteps := 999999) [-selQ_sel, hokQ_of, h_1, h_2, h_3, h_4, h_5, h_6, h_7, h_67, h_68, h_69, h_70]
       obtain ⟨v53, h_101, H⟩ := HS.bnd H
       try simp -implicitDefEqProofs +decide (maxSteps := 999999) [-selQ_sel, hokQ_of, h_1, h_2, h_3, h_4, h_5, h_6, h_7, h_67, h_68, h_69, h_70, h_101]
       refine Hid.selQ (fun h_102 => ?_) (fun h_102 => ?_)
       ·replace H := HS.cnd_t h_102 H
        try simp -implicitDefEqProofs +decide (maxSteps := 999999) [-selQ_sel, hokQ_of, h_1, h_2, h_3, h_4, h_5, h_6, h_7, h_67, h_68, h_69, h_70, h_101, h_102]
        refine Hid.brV (fun h_103 => ?_) (fun h_103 => ?_)
        ·replace H := HS.cnd_t h_103 H
         try simp -implicitDefEqProofs +decide (maxSteps := 999999) [-selQ_sel, hokQ_of, h_1, h_2, h_3, h_4, h_5, h_6, h_7, h_67, h_68, h_69, h_70, h_101, h_102, h_103]
         have hr := (HS.some H).symm; subst hr
         refine Hid.mk ⟨_, Wk.refl _, ?_⟩
         try simp -implicitDefEqProofs +decide (maxSteps := 999999) [-selQ_sel, hokQ_of, h_1, h_2, h_3, h_4, h_5, h_6, h_7, h_67, h_68, h_69, h_70, h_101, h_102, h_103]
        ·replace H := HS.cnd_f h_103 H
         try simp -implicitDefEqProofs +decide (maxSteps := 999999) [-selQ_sel, hokQ_of, h_1, h_2, h_3, h_4, h_5, h_6, h_7, h_67, h_68, h_69, h_70, h_101, h_102, h_103]
         obtain ⟨v54, h_104, H⟩ := HS.bnd H
         try simp -implicitDefEqProofs +decide (maxSteps := 999999) [-selQ_sel, hokQ_of, h_1, h_2, h_3, h_4, h_5, h_6, h_7, h_67, h_68, h_69, h_70, h_101, h_102, h_103, h_104]
         refine Hid.brV (fun h_105 => ?_) (fun h_105 => ?_)
         ·replace H := HS.cnd_t h_105 H
          try simp -implicitDefEqProofs +decide (maxSteps := 999999) [-selQ_sel, hokQ_of, h_1, h_2, h_3, h_4, h_5, h_6, h_7, h_67, h_68, h_69, h_70, h_101, h_102, h_103, h_104, h_105]
          have hr := (HS.some H).symm; subst hr
          refine Hid.mk ⟨_, Wk.refl _, ?_⟩
          try simp -implicitDefEqProofs +decide (maxSteps := 999999) [-selQ_sel, hokQ_of, h_1, h_2, h_3, h_4, h_5, h_6, h_7, h_67, h_68, h_69, h_70, h_101, h_102, h_103, h_104, h_105]
         ·replace H := HS.cnd_f h_105 H
          try simp -implicitDefEqProofs +decide (maxSteps := 999999) [-selQ_sel, hokQ_of, h_1, h_2, h_3, h_4, h_5, h_6, h_7, h_67, h_68, h_69, h_70, h_101, h_102, h_103, h_104, h_105]
          obtain ⟨v55, h_106, H⟩ := HS.bnd H
          try simp -implicitDefEqProofs +decide (maxSteps := 999999) [-selQ_sel, hokQ_of, h_1, h_2, h_3, h_4, h_5, h_6, h_7, h_67, h_68, h_69, h_70, h_101, h_102, h_103, h_104, h_105, h_106]
          obtain ⟨v56, h_107, H⟩ := HS.bnd H
          try simp -implicitDefEqProofs +decide (maxSteps := 999999) [-selQ_sel, hokQ_of, h_1, h_2, h_3, h_4, h_5, h_6, h_7, h_67, h_68, h_69, h_70, h_101, h_102, h_103, h_104, h_105, h_106, h_107]
          obtain ⟨q, h_108, H⟩ := HS.bnd H
          refine Hid.mk (Tr.weak (s' := (spec_PlaceNode_l3_S a0 a2 a3 v1 v3 v56) (0, [])) (Wk.ofk [0, 1, 3, 4, 5, 2, 6] hk (by rfl) (by simp -implicitDefEqProofs [spec_PlaceNode_l3_S, h_1, h_2, h_3, h_4, h_5, h_6, h_7, h_67, h_68, h_69, h_70, h_101, h_102, h_103, h_104, h_105, h_106, h_107]) (by simp -implicitDefEqProofs [spec_PlaceNode_l3_S, h_1, h_2, h_3, h_4, h_5, h_6, h_7, h_67, h_68, h_69, h_70, h_101, h_102, h_103, h_104, h_105, h_106, h_107])) ?_)
          refine wp_loop_of (S := (spec_PlaceNode_l3_S a0 a2 a3 v1 v3 v56)) (f := (spec_PlaceNode_l3 a0 a2 a3 v1 v3 v56)) (xt := (spec_PlaceNode_l3_X a0 a2 a3 v1 v3 v56)) ?_ ?_ h_108 ?_
          ·intro q; simp [spec_PlaceNode_l3_X]
          ·clear H h_108 q
           rintro ⟨x60, x61⟩ o R hf hR
           have H : HS (spec_PlaceNode_l3 a0 a2 a3 v1 v3 v56 (x60, x61)) o := hf
           clear hf; unfold spec_PlaceNode_l3 at H
           try simp -implicitDefEqProofs at H
           refine Tr.of_vc (cl := tabC [(116, spec_l15Copy_x), (117, spec_SceneOk_x), (119, spec_NodeAt_x), (121, spec_l15CopyNode_x), (126, spec_l15Under_x)]) (E := E0) [] (tab_cons k_spec_l15Copy (tab_cons k_spec_SceneOk (tab_cons k_spec_NodeAt (tab_cons k_spec_l15CopyNode (tab_cons k_spec_l15Under tab_nil))))) hm (by rw [hn]; decide +kernel) ?_
           try simp -implicitDefEqProofs +decide (maxSteps := 999999) [-selQ_sel, hokQ_of, spec_PlaceNode_l3_S]
           refine Hid.brV (fun h_109 => ?_) (fun h_109 => ?_)
           ·replace H := HS.cnd_t h_109 H
            try simp -implicitDefEqProofs +decide (maxSteps := 999999) [-selQ_sel, hokQ_of, h_109]
            have hr := (HS.some H).symm; subst hr
            exact Hid.mk ⟨(spec_PlaceNode_l3_X a0 a2 a3 v1 v3 v56 x61).2, Wk.ofk [1, 2, 4, 5, 6] hk (by rfl) (by simp -implicitDefEqProofs [spec_PlaceNode_l3_X, h_109]) (by simp -implicitDefEqProofs [spec_PlaceNode_l3_X, h_109]), hR⟩
           ·replace H := HS.cnd_f h_109 H
            try simp -implicitDefEqProofs +decide (maxSteps := 999999) [-selQ_sel, hokQ_of, h_109]
            refine Hid.brV (fun h_110 => ?_) (fun h_110 => ?_)
            ·replace H := HS.cnd_t h_110 H
             try simp -implicitDefEqProofs +decide (maxSteps := 999999) [-selQ_sel, hokQ_of, h_109, h_110]
             obtain ⟨v62, h_111, H⟩ := HS.bnd H
             try simp -implicitDefEqProofs +decide (maxSteps := 999999) [-selQ_sel, hokQ_of, h_109, h_110, h_111]
             refine Hid.selQ (fun h_112 => ?_) (fun h_112 => ?_)
             ·replace H := HS.cnd_t h_112 H
              try simp -implicitDefEqProofs +decide (maxSteps := 999999) [-selQ_sel, hokQ_of, h_109, h_110, h_111, h_112]
              refine Hid.brV (fun h_113 => ?_) (fun h_113 => ?_)
              ·replace H := HS.cnd_t h_113 H
               try simp -implicitDefEqProofs +decide (maxSteps := 999999) [-selQ_sel, hokQ_of, h_109, h_110, h_111, h_112, h_113]
               have hr := (HS.some H).symm; subst hr
               exact Hid.mk ⟨spec_PlaceNode_l3_S a0 a2 a3 v1 v3 v56 ((IntKind.i64.wrap (x60 + 1)), x61), Wk.ofk [0, 1, 2, 3, 4, 5, 6] hk (by rfl) (by simp -implicitDefEqProofs [spec_PlaceNode_l3_S, h_109, h_110, h_111, h_112, h_113]) (by simp -implicitDefEqProofs [spec_PlaceNode_l3_S, h_109, h_110, h_111, h_112, h_113]), hR⟩
              ·replace H := HS.cnd_f h_113 H
               try simp -implicitDefEqProofs +decide (maxSteps := 999999) [-selQ_sel, hokQ_of, h_109, h_110, h_111, h_112, h_113]
               obtain ⟨h_114, H⟩ := HS.chkP H
               try simp -implicitDefEqProofs +decide (maxSteps := 999999) [-selQ_sel, hokQ_of, h_109, h_110, h_111, h_112, h_113, h_114]
               obtain ⟨l63, h_115, H⟩ := HS.nam H
               have m_116 := congrArg (List.map eNode) h_115
               have q_117 := congrArg List.length h_115
               simp -implicitDefEqProofs at m_116 q_117
               try simp only [q_117] at m_116
               try simp only [q_117] at h_114
               try simp -implicitDefEqProofs +decide (maxSteps := 999999) [-selQ_sel, hokQ_of, h_109, h_110, h_111, h_112, h_113, h_114, m_116, q_117]
               have hr := (HS.some H).symm; subst hr
               exact Hid.mk ⟨spec_PlaceNode_l3_S a0 a2 a3 v1 v3 v56 ((IntKind.i64.wrap (x60 + 1)), l63), Wk.ofk [0, 1, 2, 3, 4, 5, 6] hk (by rfl) (by simp -implicitDefEqProofs [spec_PlaceNode_l3_S, h_109, h_110, h_111, h_112, h_113, h_114, m_116, q_117]) (by simp -implicitDefEqProofs [spec_PlaceNode_l3_S, h_109, h_110, h_111, h_112, h_113, h_114, m_116, q_117]), hR⟩
             ·replace H := HS.cnd_f h_112 H
              try simp -implicitDefEqProofs +decide (maxSteps := 999999) [-selQ_sel, hokQ_of, h_109, h_110, h_111, h_112]
              have hr := (HS.some H).symm; subst hr
              exact Hid.mk ⟨spec_PlaceNode_l3_S a0 a2 a3 v1 v3 v56 ((IntKind.i64.wrap (x60 + 1)), x61), Wk.ofk [0, 1, 2, 3, 4, 5, 6] hk (by rfl) (by simp -implicitDefEqProofs [spec_PlaceNode_l3_S, h_109, h_110, h_111, h_112]) (by simp -implicitDefEqProofs [spec_PlaceNode_l3_S, h_109, h_110, h_111, h_112]), hR⟩
            ·replace H := HS.cnd_f h_110 H
             try simp -implicitDefEqProofs +decide (maxSteps := 999999) [-selQ_sel, hokQ_of, h_109, h_110]
             obtain ⟨v64, h_118, H⟩ := HS.bnd H
             try simp -implicitDefEqProofs +decide (maxSteps := 999999) [-selQ_sel, hokQ_of, h_109, h_110, h_118]
             obtain ⟨v65, h_119, H⟩ := HS.bnd H
             try simp -implicitDefEqProofs +decide (maxSteps := 999999) [-selQ_sel, hokQ_of, h_109, h_110, h_118, h_119]
             obtain ⟨h_120, H⟩ := HS.chkP H
             try simp -implicitDefEqProofs +decide (maxSteps := 999999) [-selQ_sel, hokQ_of, h_109, h_110, h_118, h_119, h_120]
             obtain ⟨l66, h_121, H⟩ := HS.nam H
             have m_122 := congrArg (List.map eNode) h_121
             have q_123 := congrArg List.length h_121
             simp -implicitDefEqProofs at m_122 q_123
             try simp only [q_123] at m_122
             try simp only [q_123] at h_120
             try simp -implicitDefEqProofs +decide (maxSteps := 999999) [-selQ_sel, hokQ_of, h_109, h_110, h_118, h_119, h_120, m_122, q_123]
             refine Hid.selQ (fun h_124 => ?_) (fun h_124 => ?_)
             ·replace H := HS.cnd_t h_124 H
              try simp -implicitDefEqProofs +decide (maxSteps := 999999) [-selQ_sel, hokQ_of, h_109, h_110, h_118, h_119, h_120, m_122, q_123, h_124]
              refine Hid.brV (fun h_125 => ?_) (fun h_125 => ?_)
              ·replace H := HS.cnd_t h_125 H
               try simp -implicitDefEqProofs +decide (maxSteps := 999999) [-selQ_sel, hokQ_of, h_109, h_110, h_118, h_119, h_120, m_122, q_123, h_124, h_125]
               have hr := (HS.some H).symm; subst hr
               exact Hid.mk ⟨spec_PlaceNode_l3_S a0 a2 a3 v1 v3 v56 ((IntKind.i64.wrap (x60 + 1)), l66), Wk.ofk [0, 1, 2, 3, 4, 5, 6] hk (by rfl) (by simp -implicitDefEqProofs [spec_PlaceNode_l3_S, h_109, h_110, h_118, h_119, h_120, m_122, q_123, h_124, h_125]) (by simp -implicitDefEqProofs [spec_PlaceNode_l3_S, h_109, h_110, h_118, h_119, h_120, m_122, q_123, h_124, h_125]), hR⟩
              ·replace H := HS.cnd_f h_125 H
               try simp -implicitDefEqProofs +decide (maxSteps := 999999) [-selQ_sel, hokQ_of, h_109, h_110, h_118, h_119, h_120, m_122, q_123, h_124, h_125]
               obtain ⟨h_126, H⟩ := HS.chkP H
               try simp -implicitDefEqProofs +decide (maxSteps := 999999) [-selQ_sel, hokQ_of, h_109, h_110, h_118, h_119, h_120, m_122, q_123, h_124, h_125, h_126]
               obtain ⟨l67, h_127, H⟩ := HS.nam H
               have m_128 := congrArg (List.map eNode) h_127
               have q_129 := congrArg List.length h_127
               simp -implicitDefEqProofs at m_128 q_129
               try simp only [q_129] at m_128
               try simp only [q_129] at h_126
               try simp -implicitDefEqProofs +decide (maxSteps := 999999) [-selQ_sel, hokQ_of, h_109, h_110, h_118, h_119, h_120, m_122, q_123, h_124, h_125, h_126, m_128, q_129]
               have hr := (HS.some H).symm; subst hr
               exact Hid.mk ⟨spec_PlaceNode_l3_S a0 a2 a3 v1 v3 v56 ((IntKind.i64.wrap (x60 + 1)), l67), Wk.ofk [0, 1, 2, 3, 4, 5, 6] hk (by rfl) (by simp -implicitDefEqProofs [spec_PlaceNode_l3_S, h_109, h_110, h_118, h_119, h_120, m_122, q_123, h_124, h_125, h_126, m_128, q_129]) (by simp -implicitDefEqProofs [spec_PlaceNode_l3_S, h_109, h_110, h_118, h_119, h_120, m_122, q_123, h_124, h_125, h_126, m_128, q_129]), hR⟩
             ·replace H := HS.cnd_f h_124 H
              try simp -implicitDefEqProofs +decide (maxSteps := 999999) [-selQ_sel, hokQ_of, h_109, h_110, h_118, h_119, h_120, m_122, q_123, h_124]
              have hr := (HS.some H).symm; subst hr
              exact Hid.mk ⟨spec_PlaceNode_l3_S a0 a2 a3 v1 v3 v56 ((IntKind.i64.wrap (x60 + 1)), l66), Wk.ofk [0, 1, 2, 3, 4, 5, 6] hk (by rfl) (by simp -implicitDefEqProofs [spec_PlaceNode_l3_S, h_109, h_110, h_118, h_119, h_120, m_122, q_123, h_124]) (by simp -implicitDefEqProofs [spec_PlaceNode_l3_S, h_109, h_110, h_118, h_119, h_120, m_122, q_123, h_124]), hR⟩
          ·revert H h_108; revert q; intro y68 h_108 H
           try dsimp only at H
           try simp -implicitDefEqProofs +decide (maxSteps := 999999) [-selQ_sel, hokQ_of, h_1, h_2, h_3, h_4, h_5, h_6, h_7, h_67, h_68, h_69, h_70, h_101, h_102, h_103, h_104, h_105, h_106, h_107, spec_PlaceNode_l3_X]
           obtain ⟨v69, h_130, H⟩ := HS.bnd H
           have k_131 := spec_SceneOk_k ((TScene.mk y68).nodes)
           simp -implicitDefEqProofs [-spec_SceneOk_k] at k_131
           try simp -implicitDefEqProofs +decide (maxSteps := 999999) [-selQ_sel, hokQ_of, h_1, h_2, h_3, h_4, h_5, h_6, h_7, h_67, h_68, h_69, h_70, h_101, h_102, h_103, h_104, h_105, h_106, h_107, h_130, k_131]
           refine Hid.brV (fun h_132 => ?_) (fun h_132 => ?_)
           ·replace H := HS.cnd_t h_132 H
            try simp -implicitDefEqProofs +decide (maxSteps := 999999) [-selQ_sel, hokQ_of, h_1, h_2, h_3, h_4, h_5, h_6, h_7, h_67, h_68, h_69, h_70, h_101, h_102, h_103, h_104, h_105, h_106, h_107, h_130, k_131, h_132]
            have hr := (HS.some H).symm; subst hr
            refine Hid.mk ⟨_, Wk.refl _, ?_⟩
            try simp -implicitDefEqProofs +decide (maxSteps := 999999) [-selQ_sel, hokQ_of, h_1, h_2, h_3, h_4, h_5, h_6, h_7, h_67, h_68, h_69, h_70, h_101, h_102, h_103, h_104, h_105, h_106, h_107, h_130, k_131, h_132]
           ·replace H := HS.cnd_f h_132 H
            try simp -implicitDefEqProofs +decide (maxSteps := 999999) [-selQ_sel, hokQ_of, h_1, h_2, h_3, h_4, h_5, h_6, h_7, h_67, h_68, h_69, h_70, h_101, h_102, h_103, h_104, h_105, h_106, h_107, h_130, k_131, h_132]
            have hr := (HS.some H).symm; subst hr
            refine Hid.mk ⟨_, Wk.refl _, ?_⟩
            try simp -implicitDefEqProofs +decide (maxSteps := 999999) [-selQ_sel, hokQ_of, h_1, h_2, h_3, h_4, h_5, h_6, h_7, h_67, h_68, h_69, h_70, h_101, h_102, h_103, h_104, h_105, h_106, h_107, h_130, k_131, h_132]
       ·replace H := HS.cnd_f h_102 H
        try simp -implicitDefEqProofs +decide (maxSteps := 999999) [-selQ_sel, hokQ_of, h_1, h_2, h_3, h_4, h_5, h_6, h_7, h_67, h_68, h_69, h_70, h_101, h_102]
        have hr := (HS.some H).symm; subst hr
        refine Hid.mk ⟨_, Wk.refl _, ?_⟩
        try simp -implicitDefEqProofs +decide (maxSteps := 999999) [-selQ_sel, hokQ_of, h_1, h_2, h_3, h_4, h_5, h_6, h_7, h_67, h_68, h_69, h_70, h_101, h_102]
     ·replace H := HS.cnd_f h_69 H
      try simp -implicitDefEqProofs +decide (maxSteps := 999999) [-selQ_sel, hokQ_of, h_1, h_2, h_3, h_4, h_5, h_6, h_7, h_67, h_68, h_69]
      have hr := (HS.some H).symm; subst hr
      refine Hid.mk ⟨_, Wk.refl _, ?_⟩
      try simp -implicitDefEqProofs +decide (maxSteps := 999999) [-selQ_sel, hokQ_of, h_1, h_2, h_3, h_4, h_5, h_6, h_7, h_67, h_68, h_69]
    ·replace H := HS.cnd_f h_67 H
     try simp -implicitDefEqProofs +decide (maxSteps := 999999) [-selQ_sel, hokQ_of, h_1, h_2, h_3, h_4, h_5, h_6, h_7, h_67]
     have hr := (HS.some H).symm; subst hr
     refine Hid.mk ⟨_, Wk.refl _, ?_⟩
     try simp -implicitDefEqProofs +decide (maxSteps := 999999) [-selQ_sel, hokQ_of, h_1, h_2, h_3, h_4, h_5, h_6, h_7, h_67]
  ·replace H := HS.cnd_f h_6 H
   try simp -implicitDefEqProofs +decide (maxSteps := 999999) [-selQ_sel, hokQ_of, h_1, h_2, h_3, h_4, h_5, h_6]
   have hr := (HS.some H).symm; subst hr
   refine Hid.mk ⟨_, Wk.refl _, ?_⟩
   try simp -implicitDefEqProofs +decide (maxSteps := 999999) [-selQ_sel, hokQ_of, h_1, h_2, h_3, h_4, h_5, h_6]
 ·replace H := HS.cnd_f h_3 H
  try simp -implicitDefEqProofs +decide (maxSteps := 999999) [-selQ_sel, hokQ_of, h_1, h_2, h_3]
  have hr := (HS.some H).symm; subst hr
  refine Hid.mk ⟨_, Wk.refl _, ?_⟩
  try simp -implicitDefEqProofs +decide (maxSteps := 999999) [-selQ_sel, hokQ_of, h_1, h_2, h_3]
theorem spec_l15Scene_ok0 (hm : Try.prog.follows .mixedOrders = true) (k_spec_l01Below : Sound Try.prog 107 spec_l01Below_x) (k_spec_l15Node : Sound Try.prog 110 spec_l15Node_x) (k_spec_DepthOf : Sound Try.prog 120 spec_DepthOf_x) (k_spec_l01Once : Sound Try.prog 170 spec_l01Once_x) : Sound Try.prog 109 spec_l15Scene_x := by
 refine xOf_sound fun q r h => ?_
 revert h; revert r; revert q; intro a0 r h
 refine fn_ok E0 hm Try.func109 rfl (by decide +kernel) (by rfl) fun Γ hn hk => ?_
 dsimp only [spec_l15Scene_e, spec_l15Scene_v]
 replace hn : Γ.n = 81 := hn
 replace hk : Γ.k = 1 := hk
 have H : HS (spec_l15Scene a0) r := h
 clear h; unfold spec_l15Scene at H
 try simp -implicitDefEqProofs at H
 refine Tr.of_vc (cl := tabC [(107, spec_l01Below_x), (110, spec_l15Node_x), (120, spec_DepthOf_x), (170, spec_l01Once_x)]) (E := E0) [] (tab_cons k_spec_l01Below (tab_cons k_spec_l15Node (tab_cons k_spec_DepthOf (tab_cons k_spec_l01Once tab_nil)))) hm (by rw [hn]; decide +kernel) ?_
 try simp -implicitDefEqProofs +decide (maxSteps := 999999) [-selQ_sel, hokQ_of]
 obtain ⟨q, h_1, H⟩ := HS.bnd H
 refine Hid.mk (Tr.weak (s' := spec_l15Scene_l1_S (0, a0.b, a0.i, a0.h, [])) (Wk.ofk [0, 1, 2, 3] hk (by rfl) (by simp -implicitDefEqProofs [spec_l15Scene_l1_S]) (by simp -implicitDefEqProofs [spec_l15Scene_l1_S])) ?_)
 refine wp_loop_of (S := spec_l15Scene_l1_S) (f := spec_l15Scene_l1) (xt := spec_l15Scene_l1_X) ?_ ?_ h_1 ?_
 ·intro q; rcases q with ⟨y38, y39, y40, y41⟩ <;> simp [spec_l15Scene_l1_X]
 ·clear H h_1 q
  rintro ⟨x7, x8, x9, x10, x11⟩ o R hf hR
  have H : HS (spec_l15Scene_l1 (x7, x8, x9, x10, x11)) o := hf
  clear hf; unfold spec_l15Scene_l1 at H
  try simp -implicitDefEqProofs at H
  refine Tr.of_vc (cl := tabC [(107, spec_l01Below_x), (110, spec_l15Node_x), (120, spec_DepthOf_x), (170, spec_l01Once_x)]) (E := E0) [] (tab_cons k_spec_l01Below (tab_cons k_spec_l15Node (tab_cons k_spec_DepthOf (tab_cons k_spec_l01Once tab_nil)))) hm (by rw [hn]; decide +kernel) ?_
  try simp -implicitDefEqProofs +decide (maxSteps := 999999) [-selQ_sel, hokQ_of, spec_l15Scene_l1_S]
  obtain ⟨⟨w13, w14⟩, h_2, H⟩ := HS.bnd H
  dsimp only at H
  have k_3 := spec_l01Below_k 6 ((TL01Cur.mk x8 x9 x10).b) ((TL01Cur.mk x8 x9 x10).i) ((TL01Cur.mk x8 x9 x10).h)
  simp -implicitDefEqProofs [-spec_l01Below_k] at k_3
  try simp -implicitDefEqProofs +decide (maxSteps := 999999) [-selQ_sel, hokQ_of, h_2, k_3]
  refine Hid.brV (fun h_4 => ?_) (fun h_4 => ?_)
  ·replace H := HS.cnd_t h_4 H
   try simp -implicitDefEqProofs +decide (maxSteps := 999999) [-selQ_sel, hokQ_of, h_2, k_3, h_4]
   have hr := (HS.some H).symm; subst hr
   exact Hid.mk ⟨(spec_l15Scene_l1_X (w14.b, w14.i, w14.h, x11)).2, Wk.ofk [0, 1, 2, 3] hk (by rfl) (by simp -implicitDefEqProofs [spec_l15Scene_l1_X, h_2, k_3, h_4]) (by simp -implicitDefEqProofs [spec_l15Scene_l1_X, h_2, k_3, h_4]), hR⟩
  ·replace H := HS.cnd_f h_4 H
   try simp -implicitDefEqProofs +decide (maxSteps := 999999) [-selQ_sel, hokQ_of, h_2, k_3, h_4]
   obtain ⟨q, h_5, H⟩ := HS.bnd H
   refine Hid.mk (Tr.weak (s' := (spec_l15Scene_l0_S x7 x11) (0, 0, w14.b, w14.i, w14.h)) (Wk.ofk [0, 1, 2, 3] hk (by rfl) (by simp -implicitDefEqProofs [spec_l15Scene_l0_S, h_2, k_3, h_4]) (by simp -implicitDefEqProofs [spec_l15Scene_l0_S, h_2, k_3, h_4])) ?_)
   refine wp_loop_of (S := (spec_l15Scene_l0_S x7 x11)) (f := (spec_l15Scene_l0 x7 x11)) (xt := (spec_l15Scene_l0_X x7 x11)) ?_ ?_ h_5 ?_
   ·intro q; rcases q with ⟨y30, y31, y32, y33⟩ <;> simp [spec_l15Scene_l0_X]
   ·clear H h_5 q
    rintro ⟨x20, x21, x22, x23, x24⟩ o R hf hR
    have H : HS (spec_l15Scene_l0 x7 x11 (x20, x21, x22, x23, x24)) o := hf
    clear hf; unfold spec_l15Scene_l0 at H
    try simp -implicitDefEqProofs at H
    refine Tr.of_vc (cl := tabC [(107, spec_l01Below_x), (110, spec_l15Node_x), (120, spec_DepthOf_x), (170, spec_l01Once_x)]) (E := E0) [] (tab_cons k_spec_l01Below (tab_cons k_spec_l15Node (tab_cons k_spec_DepthOf (tab_cons k_spec_l01Once tab_nil)))) hm (by rw [hn]; decide +kernel) ?_
    try simp -implicitDefEqProofs +decide (maxSteps := 999999) [-selQ_sel, hokQ_of, spec_l15Scene_l0_S]
    refine Hid.brV (fun h_6 => ?_) (fun h_6 => ?_)
    ·replace H := HS.cnd_t h_6 H
     try simp -implicitDefEqProofs +decide (maxSteps := 999999) [-selQ_sel, hokQ_of, h_6]
     have hr := (HS.some H).symm; subst hr
     exact Hid.mk ⟨(spec_l15Scene_l0_X x7 x11 (x22, x23, x24, x21)).2, Wk.ofk [0, 1, 2, 3] hk (by rfl) (by simp -implicitDefEqProofs [spec_l15Scene_l0_X, h_6]) (by simp -implicitDefEqProofs [spec_l15Scene_l0_X, h_6]), hR⟩
    ·replace H := HS.cnd_f h_6 H
     try simp -implicitDefEqProofs +decide (maxSteps := 999999) [-selQ_sel, hokQ_of, h_6]
     obtain ⟨v25, h_7, H⟩ := HS.bnd H
     have g_8 := idx_get h_7
     try simp -implicitDefEqProofs +decide (maxSteps := 999999) [-selQ_sel, hokQ_of, h_6, h_7, g_8]
     refine Hid.selQ (fun h_9 => ?_) (fun h_9 => ?_)
     ·replace H := HS.cnd_t h_9 H
      try simp -implicitDefEqProofs +decide (maxSteps := 999999) [-selQ_sel, hokQ_of, h_6, h_7, g_8, h_9]
      obtain ⟨v26, h_10, H⟩ := HS.bnd H
      have k_11 := spec_DepthOf_k ((TScene.mk x11).nodes) v25.id
      simp -implicitDefEqProofs [-spec_DepthOf_k] at k_11
      try simp -implicitDefEqProofs +decide (maxSteps := 999999) [-selQ_sel, hokQ_of, h_6, h_7, g_8, h_9, h_10, k_11]
      refine Hid.selQ (fun h_12 => ?_) (fun h_12 => ?_)
      ·replace H := HS.cnd_t h_12 H
       try simp -implicitDefEqProofs +decide (maxSteps := 999999) [-selQ_sel, hokQ_of, h_6, h_7, g_8, h_9, h_10, k_11, h_12]
       have hr := (HS.some H).symm; subst hr
       exact Hid.mk ⟨spec_l15Scene_l0_S x7 x11 ((IntKind.i64.wrap (x20 + 1)), x21, x22, x23, x24), Wk.ofk [0, 1, 2, 3] hk (by rfl) (by simp -implicitDefEqProofs [spec_l15Scene_l0_S, h_6, h_7, g_8, h_9, h_10, k_11, h_12]) (by simp -implicitDefEqProofs [spec_l15Scene_l0_S, h_6, h_7, g_8, h_9, h_10, k_11, h_12]), hR⟩
      ·replace H := HS.cnd_f h_12 H
       try simp -implicitDefEqProofs +decide (maxSteps := 999999) [-selQ_sel, hokQ_of, h_6, h_7, g_8, h_9, h_10, k_11, h_12]
       obtain ⟨⟨w28, w29⟩, h_13, H⟩ := HS.bnd H
       dsimp only at H
       have k_14 := spec_l01Once_k 2 ((TL01Cur.mk x22 x23 x24).b) ((TL01Cur.mk x22 x23 x24).i) ((TL01Cur.mk x22 x23 x24).h)
       simp -implicitDefEqProofs [-spec_l01Once_k] at k_14
       try simp -implicitDefEqProofs +decide (maxSteps := 999999) [-selQ_sel, hokQ_of, h_6, h_7, g_8, h_9, h_10, k_11, h_12, h_13, k_14]
       refine Hid.brV (fun h_15 => ?_) (fun h_15 => ?_)
       ·replace H := HS.cnd_t h_15 H
        try simp -implicitDefEqProofs +decide (maxSteps := 999999) [-selQ_sel, hokQ_of, h_6, h_7, g_8, h_9, h_10, k_11, h_12, h_13, k_14, h_15]
        have hr := (HS.some H).symm; subst hr
        exact Hid.mk ⟨spec_l15Scene_l0_S x7 x11 ((IntKind.i64.wrap (x20 + 1)), v25.id, w29.b, w29.i, w29.h), Wk.ofk [0, 1, 2, 3] hk (by rfl) (by simp -implicitDefEqProofs [spec_l15Scene_l0_S, h_6, h_7, g_8, h_9, h_10, k_11, h_12, h_13, k_14, h_15]) (by simp -implicitDefEqProofs [spec_l15Scene_l0_S, h_6, h_7, g_8, h_9, h_10, k_11, h_12, h_13, k_14, h_15]), hR⟩
       ·replace H := HS.cnd_f h_15 H
        try simp -implicitDefEqProofs +decide (maxSteps := 999999) [-selQ_sel, hokQ_of, h_6, h_7, g_8, h_9, h_10, k_11, h_12, h_13, k_14, h_15]
        have hr := (HS.some H).symm; subst hr
        exact Hid.mk ⟨spec_l15Scene_l0_S x7 x11 ((IntKind.i64.wrap (x20 + 1)), x21, w29.b, w29.i, w29.h), Wk.ofk [0, 1, 2, 3] hk (by rfl) (by simp -implicitDefEqProofs [spec_l15Scene_l0_S, h_6, h_7, g_8, h_9, h_10, k_11, h_12, h_13, k_14, h_15]) (by simp -implicitDefEqProofs [spec_l15Scene_l0_S, h_6, h_7, g_8, h_9, h_10, k_11, h_12, h_13, k_14, h_15]), hR⟩
     ·replace H := HS.cnd_f h_9 H
      try simp -implicitDefEqProofs +decide (maxSteps := 999999) [-selQ_sel, hokQ_of, h_6, h_7, g_8, h_9]
      have hr := (HS.some H).symm; subst hr
      exact Hid.mk ⟨spec_l15Scene_l0_S x7 x11 ((IntKind.i64.wrap (x20 + 1)), x21, x22, x23, x24), Wk.ofk [0, 1, 2, 3] hk (by rfl) (by simp -implicitDefEqProofs [spec_l15Scene_l0_S, h_6, h_7, g_8, h_9]) (by simp -implicitDefEqProofs [spec_l15Scene_l0_S, h_6, h_7, g_8, h_9]), hR⟩
   ·obtain ⟨y30, y31, y32, y33⟩ := q
    try dsimp only at H
    try simp -implicitDefEqProofs +decide (maxSteps := 999999) [-selQ_sel, hokQ_of, h_2, k_3, h_4, spec_l15Scene_l0_X]
    obtain ⟨⟨w35, w36⟩, h_16, H⟩ := HS.bnd H
    dsimp only at H
    have k_17 := spec_l15Node_k (IntKind.i64.wrap (x7 + 1)) y33 ((TL01Cur.mk y30 y31 y32).b) ((TL01Cur.mk y30 y31 y32).i) ((TL01Cur.mk y30 y31 y32).h)
    simp -implicitDefEqProofs [-spec_l15Node_k] at k_17
    try simp -implicitDefEqProofs +decide (maxSteps := 999999) [-selQ_sel, hokQ_of, h_2, k_3, h_4, h_16, k_17]
    obtain ⟨h_18, H⟩ := HS.chkP H
    try simp -implicitDefEqProofs +decide (maxSteps := 999999) [-selQ_sel, hokQ_of, h_2, k_3, h_4, h_16, k_17, h_18]
    obtain ⟨l37, h_19, H⟩ := HS.nam H
    have m_20 := congrArg (List.map eNode) h_19
    have q_21 := congrArg List.length h_19
    simp -implicitDefEqProofs at m_20 q_21
    try simp only [q_21] at m_20
    try simp only [q_21] at h_18
    try simp -implicitDefEqProofs +decide (maxSteps := 999999) [-selQ_sel, hokQ_of, h_2, k_3, h_4, h_16, k_17, h_18, m_20, q_21]
    have hr := (HS.some H).symm; subst hr
    exact Hid.mk ⟨spec_l15Scene_l1_S ((IntKind.i64.wrap (x7 + 1)), w36.b, w36.i, w36.h, l37), Wk.ofk [0, 1, 2, 3] hk (by rfl) (by simp -implicitDefEqProofs [spec_l15Scene_l1_S, h_2, k_3, h_4, h_16, k_17, h_18, m_20, q_21]) (by simp -implicitDefEqProofs [spec_l15Scene_l1_S, h_2, k_3, h_4, h_16, k_17, h_18, m_20, q_21]), hR⟩
 ·obtain ⟨y38, y39, y40, y41⟩ := q
  try dsimp only at H
  try simp -implicitDefEqProofs +decide (maxSteps := 999999) [-selQ_sel, hokQ_of, spec_l15Scene_l1_X]
  refine Hid.selQ (fun h_22 => ?_) (fun h_22 => ?_)
  ·replace H := HS.cnd_t h_22 H
   try simp -implicitDefEqProofs +decide (maxSteps := 999999) [-selQ_sel, hokQ_of, h_22]
   have hr := (HS.some H).symm; subst hr
   refine Hid.mk ⟨_, Wk.refl _, ?_⟩
   try simp -implicitDefEqProofs +decide (maxSteps := 999999) [-selQ_sel, hokQ_of, h_22]
  ·replace H := HS.cnd_f h_22 H
   try simp -implicitDefEqProofs +decide (maxSteps := 999999) [-selQ_sel, hokQ_of, h_22]
   obtain ⟨⟨w43, w44⟩, h_23, H⟩ := HS.bnd H
   dsimp only at H
   have k_24 := spec_l01Once_k 3 ((TL01Cur.mk y38 y39 y40).b) ((TL01Cur.mk y38 y39 y40).i) ((TL01Cur.mk y38 y39 y40).h)
   simp -implicitDefEqProofs [-spec_l01Once_k] at k_24
   try simp -implicitDefEqProofs +decide (maxSteps := 999999) [-selQ_sel, hokQ_of, h_22, h_23, k_24]
   refine Hid.brV (fun h_25 => ?_) (fun h_25 => ?_)
   ·replace H := HS.cnd_t h_25 H
    try simp -implicitDefEqProofs +decide (maxSteps := 999999) [-selQ_sel, hokQ_of, h_22, h_23, k_24, h_25]
    obtain ⟨v45, h_26, H⟩ := HS.bnd H
    have g_27 := idx_get h_26
    simp only [Int.reduceToNat] at g_27
    try simp -implicitDefEqProofs +decide (maxSteps := 999999) [-selQ_sel, hokQ_of, h_22, h_23, k_24, h_25, h_26, g_27]
    obtain ⟨v46, h_28, H⟩ := HS.bnd H
    have s_29 := (slc_spec h_28).1
    have s_30 := slc_fit h_28
    have s_31 := slc_map (e := eNode) h_28
    have s_32 := (slc_spec h_28).2.1
    simp -implicitDefEqProofs at s_29 s_30 s_31 s_32
    try simp only [s_32] at s_30 s_31
    try simp -implicitDefEqProofs +decide (maxSteps := 999999) [-selQ_sel, hokQ_of, h_22, h_23, k_24, h_25, h_26, g_27, h_28, s_29, s_30, s_31, s_32]
    obtain ⟨h_33, H⟩ := HS.chkP H
    try simp -implicitDefEqProofs +decide (maxSteps := 999999) [-selQ_sel, hokQ_of, h_22, h_23, k_24, h_25, h_26, g_27, h_28, s_29, s_30, s_31, s_32, h_33]
    obtain ⟨l47, h_34, H⟩ := HS.nam H
    have m_35 := congrArg (List.map eNode) h_34
    have q_36 := congrArg List.length h_34
    simp -implicitDefEqProofs at m_35 q_36
    try simp only [q_36] at m_35
    try simp only [q_36] at h_33
    try simp only [q_36] at s_29
    try simp only [q_36] at s_30
    try simp only [q_36] at s_31
    try simp only [q_36] at s_32
    try simp -implicitDefEqProofs +decide (maxSteps := 999999) [-selQ_sel, hokQ_of, h_22, h_23, k_24, h_25, h_26, g_27, h_28, s_29, s_30, s_31, s_32, h_33, m_35, q_36]
    obtain ⟨h_37, H⟩ := HS.chkP H
    try simp -implicitDefEqProofs +decide (maxSteps := 999999) [-selQ_sel, hokQ_of, h_22, h_23, k_24, h_25, h_26, g_27, h_28, s_29, s_30, s_31, s_32, h_33, m_35, q_36, h_37]
    obtain ⟨l48, h_38, H⟩ := HS.nam H
    have m_39 := congrArg (List.map eNode) h_38
    have q_40 := congrArg List.length h_38
    simp -implicitDefEqProofs at m_39 q_40
    try simp only [q_40] at m_39
    try simp only [q_40] at h_37
    try simp only [q_40] at s_29
    try simp only [q_40] at s_30
    try simp only [q_40] at s_31
    try simp only [q_40] at s_32
    try simp -implicitDefEqProofs +decide (maxSteps := 999999) [-selQ_sel, hokQ_of, h_22, h_23, k_24, h_25, h_26, g_27, h_28, s_29, s_30, s_31, s_32, h_33, m_35, q_36, h_37, m_39, q_40]
    have hr := (HS.some H).symm; subst hr
    refine Hid.mk ⟨_, Wk.refl _, ?_⟩
    try simp -implicitDefEqProofs +decide (maxSteps := 999999) [-selQ_sel, hokQ_of, h_22, h_23, k_24, h_25, h_26, g_27, h_28, s_29, s_30, s_31, s_32, h_33, m_35, q_36, h_37, m_39, q_40]
   ·replace H := HS.cnd_f h_25 H
    try simp -implicitDefEqProofs +decide (maxSteps := 999999) [-selQ_sel, hokQ_of, h_22, h_23, k_24, h_25]
    have hr := (HS.some H).symm; subst hr
    refine Hid.mk ⟨_, Wk.refl _, ?_⟩
    try simp -implicitDefEqProofs +decide (maxSteps := 999999) [-selQ_sel, hokQ_of, h_22, h_23, k_24, h_25]
theorem spec_l15Any_ok0 (hm : Try.prog.follows .mixedOrders = true) (k_spec_l15Scene : Sound Try.prog 109 spec_l15Scene_x) (k_spec_l15Copy : Sound Try.prog 116 spec_l15Copy_x) (k_spec_l01Below : Sound Try.prog 107 spec_l01Below_x) (k_spec_l15AnyNode : Sound Try.prog 192 spec_l15AnyNode_x) (k_spec_l15CopyNode : Sound Try.prog 121 spec_l15CopyNode_x) : Sound Try.prog 129 spec_l15Any_x := by
 refine xOf_sound fun q r h => ?_
 revert h; revert r; revert q; intro a0 r h
 refine fn_ok E0 hm Try.func129 rfl (by decide +kernel) (by rfl) fun Γ hn hk => ?_
 dsimp only [spec_l15Any_e, spec_l15Any_v]
 replace hn : Γ.n = 64 := hn
 replace hk : Γ.k = 1 := hk
 have H : HS (spec_l15Any a0) r := h
 clear h; unfold spec_l15Any at H
 try simp -implicitDefEqProofs at H
 refine Tr.of_vc (cl := tabC [(109, spec_l15Scene_x), (116, spec_l15Copy_x), (107, spec_l01Below_x), (192, spec_l15AnyNode_x), (121, spec_l15CopyNode_x)]) (E := E0) [] (tab_cons k_spec_l15Scene (tab_cons k_spec_l15Copy (tab_cons k_spec_l01Below (tab_cons k_spec_l15AnyNode (tab_cons k_spec_l15CopyNode tab_nil))))) hm (by rw [hn]; decide +kernel) ?_
 try simp -implicitDefEqProofs +decide (maxSteps := 999999) [-selQ_sel, hokQ_of]
 obtain ⟨⟨w2, w3⟩, h_1, H⟩ := HS.bnd H
 dsimp only at H
 try simp -implicitDefEqProofs +decide (maxSteps := 999999) [-selQ_sel, hokQ_of, h_1]
 obtain ⟨v4, h_2, H⟩ := HS.bnd H
 try simp -implicitDefEqProofs +decide (maxSteps := 999999) [-selQ_sel, hokQ_of, h_1, h_2]
 obtain ⟨⟨w6, w7⟩, h_3, H⟩ := HS.bnd H
 dsimp only at H
 try simp -implicitDefEqProofs +decide (maxSteps := 999999) [-selQ_sel, hokQ_of, h_1, h_2, h_3]
 refine Hid.brV (fun h_4 => ?_) (fun h_4 => ?_)
 ·replace H := HS.cnd_t h_4 H
  try simp -implicitDefEqProofs +decide (maxSteps := 999999) [-selQ_sel, hokQ_of, h_1, h_2, h_3, h_4]
  obtain ⟨⟨w9, w10⟩, h_5, H⟩ := HS.bnd H
  dsimp only at H
  try simp -implicitDefEqProofs +decide (maxSteps := 999999) [-selQ_sel, hokQ_of, h_1, h_2, h_3, h_4, h_5]
  obtain ⟨h_6, H⟩ := HS.chkP H
  try simp -implicitDefEqProofs +decide (maxSteps := 999999) [-selQ_sel, hokQ_of, h_1, h_2, h_3, h_4, h_5, h_6]
  obtain ⟨l11, h_7, H⟩ := HS.nam H
  have m_8 := congrArg (List.map eNode) h_7
  have q_9 := congrArg List.length h_7
  simp -implicitDefEqProofs at m_8 q_9
  try simp only [q_9] at m_8
  try simp only [q_9] at h_6
  try simp -implicitDefEqProofs +decide (maxSteps := 999999) [-selQ_sel, hokQ_of, h_1, h_2, h_3, h_4, h_5, h_6, m_8, q_9]
  have hr := (HS.some H).symm; subst hr
  refine Hid.mk ⟨_, Wk.refl _, ?_⟩
  try simp -implicitDefEqProofs +decide (maxSteps := 999999) [-selQ_sel, hokQ_of, h_1, h_2, h_3, h_4, h_5, h_6, m_8, q_9]
 ·replace H := HS.cnd_f h_4 H
  try simp -implicitDefEqProofs +decide (maxSteps := 999999) [-selQ_sel, hokQ_of, h_1, h_2, h_3, h_4]
  refine Hid.brV (fun h_10 => ?_) (fun h_10 => ?_)
  ·replace H := HS.cnd_t h_10 H
   try simp -implicitDefEqProofs +decide (maxSteps := 999999) [-selQ_sel, hokQ_of, h_1, h_2, h_3, h_4, h_10]
   refine Hid.brV (fun h_11 => ?_) (fun h_11 => ?_)
   ·replace H := HS.cnd_t h_11 H
    try simp -implicitDefEqProofs +decide (maxSteps := 999999) [-selQ_sel, hokQ_of, h_1, h_2, h_3, h_4, h_10, h_11]
    have hr := (HS.some H).symm; subst hr
    refine Hid.mk ⟨_, Wk.refl _, ?_⟩
    try simp -implicitDefEqProofs +decide (maxSteps := 999999) [-selQ_sel, hokQ_of, h_1, h_2, h_3, h_4, h_10, h_11]
   ·replace H := HS.cnd_f h_11 H
    try simp -implicitDefEqProofs +decide (maxSteps := 999999) [-selQ_sel, hokQ_of, h_1, h_2, h_3, h_4, h_10, h_11]
    obtain ⟨⟨w13, w14⟩, h_12, H⟩ := HS.bnd H
    dsimp only at H
    try simp -implicitDefEqProofs +decide (maxSteps := 999999) [-selQ_sel, hokQ_of, h_1, h_2, h_3, h_4, h_10, h_11, h_12]
    obtain ⟨v15, h_13, H⟩ := HS.bnd H
    have g_14 := idx_get h_13
    simp only [Int.reduceToNat] at g_14
    try simp -implicitDefEqProofs +decide (maxSteps := 999999) [-selQ_sel, hokQ_of, h_1, h_2, h_3, h_4, h_10, h_11, h_12, h_13, g_14]
    obtain ⟨l16, h_15, H⟩ := HS.nam H
    have m_16 := congrArg (List.map eNode) h_15
    have q_17 := congrArg List.length h_15
    simp -implicitDefEqProofs at m_16 q_17
    try simp only [q_17] at m_16
    try simp only [q_17] at g_14
    try simp -implicitDefEqProofs +decide (maxSteps := 999999) [-selQ_sel, hokQ_of, h_1, h_2, h_3, h_4, h_10, h_11, h_12, h_13, g_14, m_16, q_17]
    have hr := (HS.some H).symm; subst hr
    refine Hid.mk ⟨_, Wk.refl _, ?_⟩
    try simp -implicitDefEqProofs +decide (maxSteps := 999999) [-selQ_sel, hokQ_of, h_1, h_2, h_3, h_4, h_10, h_11, h_12, h_13, g_14, m_16, q_17]
  ·replace H := HS.cnd_f h_10 H
   try simp -implicitDefEqProofs +decide (maxSteps := 999999) [-selQ_sel, hokQ_of, h_1, h_2, h_3, h_4, h_10]
   refine Hid.brV (fun h_18 => ?_) (fun h_18 => ?_)
   ·replace H := HS.cnd_t h_18 H
    try simp -implicitDefEqProofs +decide (maxSteps := 999999) [-selQ_sel, hokQ_of, h_1, h_2, h_3, h_4, h_10, h_18]
    obtain ⟨q, h_19, H⟩ := HS.bnd H
    refine Hid.mk (Tr.weak (s' := spec_l15Any_l0_S (w7.b, w7.i, w7.h, v4)) (Wk.ofk [0, 1, 3, 2] hk (by rfl) (by simp -implicitDefEqProofs [spec_l15Any_l0_S, h_1, h_2, h_3, h_4, h_10, h_18]) (by simp -implicitDefEqProofs [spec_l15Any_l0_S, h_1, h_2, h_3, h_4, h_10, h_18])) ?_)
    refine wp_loop_of (S := spec_l15Any_l0_S) (f := spec_l15Any_l0) (xt := spec_l15Any_l0_X) ?_ ?_ h_19 ?_
    ·intro q; rcases q with ⟨y33, y34, y35, y36⟩ <;> simp [spec_l15Any_l0_X]
    ·clear H h_19 q
     rintro ⟨x23, x24, x25, x26⟩ o R hf hR
     have H : HS (spec_l15Any_l0 (x23, x24, x25, x26)) o := hf
     clear hf; unfold spec_l15Any_l0 at H
     try simp -implicitDefEqProofs at H
     refine Tr.of_vc (cl := tabC [(109, spec_l15Scene_x), (116, spec_l15Copy_x), (107, spec_l01Below_x), (192, spec_l15AnyNode_x), (121, spec_l15CopyNode_x)]) (E := E0) [] (tab_cons k_spec_l15Scene (tab_cons k_spec_l15Copy (tab_cons k_spec_l01Below (tab_cons k_spec_l15AnyNode (tab_cons k_spec_l15CopyNode tab_nil))))) hm (by rw [hn]; decide +kernel) ?_
     try simp -implicitDefEqProofs +decide (maxSteps := 999999) [-selQ_sel, hokQ_of, spec_l15Any_l0_S]
     refine Hid.selQ (fun h_20 => ?_) (fun h_20 => ?_)
     ·replace H := HS.cnd_t h_20 H
      try simp -implicitDefEqProofs +decide (maxSteps := 999999) [-selQ_sel, hokQ_of, h_20]
      have hr := (HS.some H).symm; subst hr
      exact Hid.mk ⟨(spec_l15Any_l0_X (x23, x24, x25, x26)).2, Wk.ofk [0, 1, 2, 3] hk (by rfl) (by simp -implicitDefEqProofs [spec_l15Any_l0_X, h_20]) (by simp -implicitDefEqProofs [spec_l15Any_l0_X, h_20]), hR⟩
     ·replace H := HS.cnd_f h_20 H
      try simp -implicitDefEqProofs +decide (maxSteps := 999999) [-selQ_sel, hokQ_of, h_20]
      obtain ⟨⟨w28, w29⟩, h_21, H⟩ := HS.bnd H
      dsimp only at H
      have k_22 := spec_l01Below_k 2 ((TL01Cur.mk x23 x24 x25).b) ((TL01Cur.mk x23 x24 x25).i) ((TL01Cur.mk x23 x24 x25).h)
      simp -implicitDefEqProofs [-spec_l01Below_k] at k_22
      try simp -implicitDefEqProofs +decide (maxSteps := 999999) [-selQ_sel, hokQ_of, h_20, h_21, k_22]
      refine Hid.brV (fun h_23 => ?_) (fun h_23 => ?_)
      ·replace H := HS.cnd_t h_23 H
       try simp -implicitDefEqProofs +decide (maxSteps := 999999) [-selQ_sel, hokQ_of, h_20, h_21, k_22, h_23]
       have hr := (HS.some H).symm; subst hr
       exact Hid.mk ⟨(spec_l15Any_l0_X (w29.b, w29.i, w29.h, x26)).2, Wk.ofk [0, 1, 2, 3] hk (by rfl) (by simp -implicitDefEqProofs [spec_l15Any_l0_X, h_20, h_21, k_22, h_23]) (by simp -implicitDefEqProofs [spec_l15Any_l0_X, h_20, h_21, k_22, h_23]), hR⟩
      ·replace H := HS.cnd_f h_23 H
       try simp -implicitDefEqProofs +decide (maxSteps := 999999) [-selQ_sel, hokQ_of, h_20, h_21, k_22, h_23]
       obtain ⟨v30, h_24, H⟩ := HS.bnd H
       have g_25 := idx_get h_24
       simp only [Int.reduceToNat] at g_25
       try simp -implicitDefEqProofs +decide (maxSteps := 999999) [-selQ_sel, hokQ_of, h_20, h_21, k_22, h_23, h_24, g_25]
       obtain ⟨v31, h_26, H⟩ := HS.bnd H
       try simp -implicitDefEqProofs +decide (maxSteps := 999999) [-selQ_sel, hokQ_of, h_20, h_21, k_22, h_23, h_24, g_25, h_26]
       obtain ⟨h_27, H⟩ := HS.chkP H
       try simp -implicitDefEqProofs +decide (maxSteps := 999999) [-selQ_sel, hokQ_of, h_20, h_21, k_22, h_23, h_24, g_25, h_26, h_27]
       obtain ⟨l32, h_28, H⟩ := HS.nam H
       have m_29 := congrArg (List.map eNode) h_28
       have q_30 := congrArg List.length h_28
       simp -implicitDefEqProofs at m_29 q_30
       try simp only [q_30] at m_29
       try simp only [q_30] at h_27
       try simp -implicitDefEqProofs +decide (maxSteps := 999999) [-selQ_sel, hokQ_of, h_20, h_21, k_22, h_23, h_24, g_25, h_26, h_27, m_29, q_30]
       have hr := (HS.some H).symm; subst hr
       exact Hid.mk ⟨spec_l15Any_l0_S (w29.b, w29.i, w29.h, l32), Wk.ofk [0, 1, 2, 3] hk (by rfl) (by simp -implicitDefEqProofs [spec_l15Any_l0_S, h_20, h_21, k_22, h_23, h_24, g_25, h_26, h_27, m_29, q_30]) (by simp -implicitDefEqProofs [spec_l15Any_l0_S, h_20, h_21, k_22, h_23, h_24, g_25, h_26, h_27, m_29, q_30]), hR⟩
    ·obtain ⟨y33, y34, y35, y36⟩ := q
     try dsimp only at H
     try simp -implicitDefEqProofs +decide (maxSteps := 999999) [-selQ_sel, hokQ_of, h_1, h_2, h_3, h_4, h_10, h_18, spec_l15Any_l0_X]
     have hr := (HS.some H).symm; subst hr
     refine Hid.mk ⟨_, Wk.refl _, ?_⟩
     try simp -implicitDefEqProofs +decide (maxSteps := 999999) [-selQ_sel, hokQ_of, h_1, h_2, h_3, h_4, h_10, h_18]
   ·replace H := HS.cnd_f h_18 H
    try simp -implicitDefEqProofs +decide (maxSteps := 999999) [-selQ_sel, hokQ_of, h_1, h_2, h_3, h_4, h_10, h_18]
    have hr := (HS.some H).symm; subst hr
    refine Hid.mk ⟨_, Wk.refl _, ?_⟩
    try simp -implicitDefEqProofs +decide (maxSteps := 999999) [-selQ_sel, hokQ_of, h_1, h_2, h_3, h_4, h_10, h_18]
theorem spec_l15AnyNode_ok0 (hm : Try.prog.follows .mixedOrders = true) (k_spec_l01Below : Sound Try.prog 107 spec_l01Below_x) (k_spec_l15Node : Sound Try.prog 110 spec_l15Node_x) (k_spec_l15CopyNode : Sound Try.prog 121 spec_l15CopyNode_x) (k_spec_l01PickInt : Sound Try.prog 171 spec_l01PickInt_x) (k_spec_l04AnyMat : Sound Try.prog 223 spec_l04AnyMat_x) (k_spec_l06Any : Sound Try.prog 224 spec_l06Any_x) : Sound Try.prog 192 spec_l15AnyNode_x := by
 refine xOf_sound fun q r h => ?_
 revert h; revert r; revert q; intro a0 r h
 refine fn_ok E0 hm Try.func192 rfl (by decide +kernel) (by rfl) fun Γ hn hk => ?_
 dsimp only [spec_l15AnyNode_e, spec_l15AnyNode_v]
 replace hn : Γ.n = 60 := hn
 replace hk : Γ.k = 1 := hk
 have H : HS (spec_l15AnyNode a0) r := h
 clear h; unfold spec_l15AnyNode at H
 try simp -implicitDefEqProofs at H
 refine Tr.of_vc (cl := tabC [(107, spec_l01Below_x), (110, spec_l15Node_x), (121, spec_l15CopyNode_x), (171, spec_l01PickInt_x), (223, spec_l04AnyMat_x), (224, spec_l06Any_x)]) (E := E0) [] (tab_cons k_spec_l01Below (tab_cons k_spec_l15Node (tab_cons k_spec_l15CopyNode (tab_cons k_spec_l01PickInt (tab_cons k_spec_l04AnyMat (tab_cons k_spec_l06Any tab_nil)))))) hm (by rw [hn]; decide +kernel) ?_
 try simp -implicitDefEqProofs (maxSteps := 999999) [-selQ_sel]
 obtain ⟨⟨w2, w3⟩, h_1, H⟩ := HS.bnd H
 dsimp only at H
 try simp -implicitDefEqProofs (maxSteps := 999999) [-selQ_sel, h_1]
 obtain ⟨⟨w5, w6⟩, h_2, H⟩ := HS.bnd H
 dsimp only at H
 try simp -implicitDefEqProofs (maxSteps := 999999) [-selQ_sel, h_1, h_2]
 obtain ⟨v7, h_3, H⟩ := HS.bnd H
 try simp -implicitDefEqProofs (maxSteps := 999999) [-selQ_sel, h_1, h_2, h_3]
 obtain ⟨⟨w9, w10⟩, h_4, H⟩ := HS.bnd H
 dsimp only at H
 try simp -implicitDefEqProofs (maxSteps := 999999) [-selQ_sel, h_1, h_2, h_3, h_4]
 refine Hid.brV (fun h_5 => ?_) (fun h_5 => ?_)
 ·replace H := HS.cnd_t h_5 H
  try simp -implicitDefEqProofs (maxSteps := 999999) [-selQ_sel, h_1, h_2, h_3, h_4, h_5]
  obtain ⟨⟨w12, w13⟩, h_6, H⟩ := HS.bnd H
  dsimp only at H
  have k_7 := spec_l01PickInt_k w10.b w10.i w10.h [0, (-1), 99, 100]
  simp -implicitDefEqProofs [-spec_l01PickInt_k] at k_7
  try simp -implicitDefEqProofs (maxSteps := 999999) [-selQ_sel, h_1, h_2, h_3, h_4, h_5, h_6, k_7]
  have hr := (HS.some H).symm; subst hr
  refine Hid.mk ⟨_, Wk.refl _, ?_⟩
  try simp -implicitDefEqProofs (maxSteps := 999999) [-selQ_sel, h_1, h_2, h_3, h_4, h_5, h_6, k_7]
 ·replace H := HS.cnd_f h_5 H
  try simp -implicitDefEqProofs (maxSteps := 999999) [-selQ_sel, h_1, h_2, h_3, h_4, h_5]
  refine Hid.brV (fun h_8 => ?_) (fun h_8 => ?_)
  ·replace H := HS.cnd_t h_8 H
   try simp -implicitDefEqProofs (maxSteps := 999999) [-selQ_sel, h_1, h_2, h_3, h_4, h_5, h_8]
   obtain ⟨⟨w15, w16⟩, h_9, H⟩ := HS.bnd H
   dsimp only at H
   have k_10 := spec_l01PickInt_k w10.b w10.i w10.h [(-1), v7.id, 3, 100]
   simp -implicitDefEqProofs [-spec_l01PickInt_k] at k_10
   try simp -implicitDefEqProofs (maxSteps := 999999) [-selQ_sel, h_1, h_2, h_3, h_4, h_5, h_8, h_9, k_10]
   have hr := (HS.some H).symm; subst hr
   refine Hid.mk ⟨_, Wk.refl _, ?_⟩
   try simp -implicitDefEqProofs (maxSteps := 999999) [-selQ_sel, h_1, h_2, h_3, h_4, h_5, h_8, h_9, k_10]
  ·replace H := HS.cnd_f h_8 H
   try simp -implicitDefEqProofs (maxSteps := 999999) [-selQ_sel, h_1, h_2, h_3, h_4, h_5, h_8]
   refine Hid.brV (fun h_11 => ?_) (fun h_11 => ?_)
   ·replace H := HS.cnd_t h_11 H
    try simp -implicitDefEqProofs (maxSteps := 999999) [-selQ_sel, h_1, h_2, h_3, h_4, h_5, h_8, h_11]
    obtain ⟨⟨w18, w19⟩, h_12, H⟩ := HS.bnd H
    dsimp only at H
    try simp -implicitDefEqProofs (maxSteps := 999999) [-selQ_sel, h_1, h_2, h_3, h_4, h_5, h_8, h_11, h_12]
    have hr := (HS.some H).symm; subst hr
    refine Hid.mk ⟨_, Wk.refl _, ?_⟩
    try simp -implicitDefEqProofs (maxSteps := 999999) [-selQ_sel, h_1, h_2, h_3, h_4, h_5, h_8, h_11, h_12]
   ·replace H := HS.cnd_f h_11 H
    try simp -implicitDefEqProofs (maxSteps := 999999) [-selQ_sel, h_1, h_2, h_3, h_4, h_5, h_8, h_11]
    refine Hid.brV (fun h_13 => ?_) (fun h_13 => ?_)
    ·replace H := HS.cnd_t h_13 H
     try simp -implicitDefEqProofs (maxSteps := 999999) [-selQ_sel, h_1, h_2, h_3, h_4, h_5, h_8, h_11, h_13]
     obtain ⟨⟨w21, w22⟩, h_14, H⟩ := HS.bnd H
     dsimp only at H
     have k_15 := spec_l01PickInt_k w10.b w10.i w10.h [(-1), 256]
     simp -implicitDefEqProofs [-spec_l01PickInt_k] at k_15
     try simp -implicitDefEqProofs (maxSteps := 999999) [-selQ_sel, h_1, h_2, h_3, h_4, h_5, h_8, h_11, h_13, h_14, k_15]
     have hr := (HS.some H).symm; subst hr
     refine Hid.mk ⟨_, Wk.refl _, ?_⟩
     try simp -implicitDefEqProofs (maxSteps := 999999) [-selQ_sel, h_1, h_2, h_3, h_4, h_5, h_8, h_11, h_13, h_14, k_15]
    ·replace H := HS.cnd_f h_13 H
     try simp -implicitDefEqProofs (maxSteps := 999999) [-selQ_sel, h_1, h_2, h_3, h_4, h_5, h_8, h_11, h_13]
     refine Hid.brV (fun h_16 => ?_) (fun h_16 => ?_)
     ·replace H := HS.cnd_t h_16 H
      try simp -implicitDefEqProofs (maxSteps := 999999) [-selQ_sel, h_1, h_2, h_3, h_4, h_5, h_8, h_11, h_13, h_16]
      obtain ⟨⟨w24, w25⟩, h_17, H⟩ := HS.bnd H
      dsimp only at H
      have k_18 := spec_l01PickInt_k w10.b w10.i w10.h [(-1), 2049]
      simp -implicitDefEqProofs [-spec_l01PickInt_k] at k_18
      try simp -implicitDefEqProofs (maxSteps := 999999) [-selQ_sel, h_1, h_2, h_3, h_4, h_5, h_8, h_11, h_13, h_16, h_17, k_18]
      have hr := (HS.some H).symm; subst hr
      refine Hid.mk ⟨_, Wk.refl _, ?_⟩
      try simp -implicitDefEqProofs (maxSteps := 999999) [-selQ_sel, h_1, h_2, h_3, h_4, h_5, h_8, h_11, h_13, h_16, h_17, k_18]
     ·replace H := HS.cnd_f h_16 H
      try simp -implicitDefEqProofs (maxSteps := 999999) [-selQ_sel, h_1, h_2, h_3, h_4, h_5, h_8, h_11, h_13, h_16]
      refine Hid.brV (fun h_19 => ?_) (fun h_19 => ?_)
      ·replace H := HS.cnd_t h_19 H
       try simp -implicitDefEqProofs (maxSteps := 999999) [-selQ_sel, h_1, h_2, h_3, h_4, h_5, h_8, h_11, h_13, h_16, h_19]
       have hr := (HS.some H).symm; subst hr
       refine Hid.mk ⟨_, Wk.refl _, ?_⟩
       try simp -implicitDefEqProofs (maxSteps := 999999) [-selQ_sel, h_1, h_2, h_3, h_4, h_5, h_8, h_11, h_13, h_16, h_19]
      ·replace H := HS.cnd_f h_19 H
       try simp -implicitDefEqProofs (maxSteps := 999999) [-selQ_sel, h_1, h_2, h_3, h_4, h_5, h_8, h_11, h_13, h_16, h_19]
       refine Hid.brV (fun h_20 => ?_) (fun h_20 => ?_)
       ·replace H := HS.cnd_t h_20 H
        try simp -implicitDefEqProofs (maxSteps := 999999) [-selQ_sel, h_1, h_2, h_3, h_4, h_5, h_8, h_11, h_13, h_16, h_19, h_20]
        obtain ⟨⟨w27, w28⟩, h_21, H⟩ := HS.bnd H
        dsimp only at H
        try simp -implicitDefEqProofs (maxSteps := 999999) [-selQ_sel, h_1, h_2, h_3, h_4, h_5, h_8, h_11, h_13, h_16, h_19, h_20, h_21]
        have hr := (HS.some H).symm; subst hr
        refine Hid.mk ⟨_, Wk.refl _, ?_⟩
        try simp -implicitDefEqProofs (maxSteps := 999999) [-selQ_sel, h_1, h_2, h_3, h_4, h_5, h_8, h_11, h_13, h_16, h_19, h_20, h_21]
       ·replace H := HS.cnd_f h_20 H
        try simp -implicitDefEqProofs (maxSteps := 999999) [-selQ_sel, h_1, h_2, h_3, h_4, h_5, h_8, h_11, h_13, h_16, h_19, h_20]
        refine Hid.brV (fun h_22 => ?_) (fun h_22 => ?_)
        ·replace H := HS.cnd_t h_22 H
         try simp -implicitDefEqProofs (maxSteps := 999999) [-selQ_sel, h_1, h_2, h_3, h_4, h_5, h_8, h_11, h_13, h_16, h_19, h_20, h_22]
         obtain ⟨⟨w30, w31⟩, h_23, H⟩ := HS.bnd H
         dsimp only at H
         try simp -implicitDefEqProofs (maxSteps := 999999) [-selQ_sel, h_1, h_2, h_3, h_4, h_5, h_8, h_11, h_13, h_16, h_19, h_20, h_22, h_23]
         have hr := (HS.some H).symm; subst hr
         refine Hid.mk ⟨_, Wk.refl _, ?_⟩
         try simp -implicitDefEqProofs (maxSteps := 999999) [-selQ_sel, h_1, h_2, h_3, h_4, h_5, h_8, h_11, h_13, h_16, h_19, h_20, h_22, h_23]
        ·replace H := HS.cnd_f h_22 H
         try simp -implicitDefEqProofs (maxSteps := 999999) [-selQ_sel, h_1, h_2, h_3, h_4, h_5, h_8, h_11, h_13, h_16, h_19, h_20, h_22]
         have hr := (HS.some H).symm; subst hr
         refine Hid.mk ⟨_, Wk.refl _, ?_⟩
         try simp -implicitDefEqProofs (maxSteps := 999999) [-selQ_sel, h_1, h_2, h_3, h_4, h_5, h_8, h_11, h_13, h_16, h_19, h_20, h_22]
theorem slices_Delete_Node_ok0 (hm : Try.prog.follows .mixedOrders = true) : Sound Try.prog 132 slices_Delete_Node_x := by
 refine xOf_sound fun q r h => ?_
 obtain ⟨a0, a1, a2, a3⟩ := q
 refine fn_ok E0 hm Try.func132 rfl (by decide +kernel) (by rfl) fun Γ hn hk => ?_
 dsimp only [slices_Delete_Node_e, slices_Delete_Node_v]
 replace hn : Γ.n = 33 := hn
 replace hk : Γ.k = 1 := hk
 have H : HS (slices_Delete_Node a0 a1 a2 a3) r := h
 clear h; unfold slices_Delete_Node at H
 try simp -implicitDefEqProofs at H
 refine Tr.of_vc (cl := tabC []) (E := E0) [] tab_nil hm (by rw [hn]; decide +kernel) ?_
 try simp -implicitDefEqProofs +decide (maxSteps := 999999) [-selQ_sel, hokQ_of, -appO_some, appO_part, appO_whole]
 obtain ⟨h_1, H⟩ := HS.chkP H
 try simp -implicitDefEqProofs +decide (maxSteps := 999999) [-selQ_sel, hokQ_of, -appO_some, appO_part, appO_whole, h_1]
 obtain ⟨h_2, H⟩ := HS.chkP H
 try simp -implicitDefEqProofs +decide (maxSteps := 999999) [-selQ_sel, hokQ_of, -appO_some, appO_part, appO_whole, h_1, h_2]
 refine Hid.brV (fun h_3 => ?_) (fun h_3 => ?_)
 ·replace H := HS.cnd_t h_3 H
  try simp -implicitDefEqProofs +decide (maxSteps := 999999) [-selQ_sel, hokQ_of, -appO_some, appO_part, appO_whole, h_1, h_2, h_3]
  have hr := (HS.some H).symm; subst hr
  refine Hid.mk ⟨⟨[(6, AV.osl 0 0 a0 (List.length a3))], [(0, Ob.arr 31 (List.map eNode a3) false)], 1⟩, Wk.ofk [0] hk (by rfl) (by simp -implicitDefEqProofs [h_1, h_2, h_3]) (by simp -implicitDefEqProofs [h_1, h_2, h_3]), ?_⟩
  try simp -implicitDefEqProofs +decide (maxSteps := 999999) [-selQ_sel, hokQ_of, -appO_some, appO_part, appO_whole, h_1, h_2, h_3]
 ·replace H := HS.cnd_f h_3 H
  try simp -implicitDefEqProofs +decide (maxSteps := 999999) [-selQ_sel, hokQ_of, -appO_some, appO_part, appO_whole, h_1, h_2, h_3]
  obtain ⟨v1, h_4, H⟩ := HS.bnd H
  have s_5 := (slc_spec h_4).1
  have s_6 := slc_fit h_4
  have s_7 := slc_map (e := eNode) h_4
  have s_8 := (slc_spec h_4).2.1
  simp -implicitDefEqProofs at s_5 s_6 s_7 s_8
  try simp only [s_8] at s_6 s_7
  try simp -implicitDefEqProofs +decide (maxSteps := 999999) [-selQ_sel, hokQ_of, -appO_some, appO_part, appO_whole, h_1, h_2, h_3, h_4, s_5, s_6, s_7, s_8]
  obtain ⟨v2, h_9, H⟩ := HS.bnd H
  have s_10 := (slc_spec h_9).1
  have s_11 := slc_fit h_9
  have s_12 := slc_map (e := eNode) h_9
  have s_13 := (slc_spec h_9).2.1
  simp -implicitDefEqProofs at s_10 s_11 s_12 s_13
  try simp only [s_13] at s_11 s_12
  try simp -implicitDefEqProofs +decide (maxSteps := 999999) [-selQ_sel, hokQ_of, -appO_some, appO_part, appO_whole, h_1, h_2, h_3, h_4, s_5, s_6, s_7, s_8, h_9, s_10, s_11, s_12, s_13]
  obtain ⟨h_14, H⟩ := HS.chkP H
  try simp -implicitDefEqProofs +decide (maxSteps := 999999) [-selQ_sel, hokQ_of, -appO_some, appO_part, appO_whole, h_1, h_2, h_3, h_4, s_5, s_6, s_7, s_8, h_9, s_10, s_11, s_12, s_13, h_14]
  obtain ⟨h_15, H⟩ := HS.chkP H
  try simp -implicitDefEqProofs +decide (maxSteps := 999999) [-selQ_sel, hokQ_of, -appO_some, appO_part, appO_whole, h_1, h_2, h_3, h_4, s_5, s_6, s_7, s_8, h_9, s_10, s_11, s_12, s_13, h_14, h_15]
  obtain ⟨l3, h_16, H⟩ := HS.nam H
  have m_17 := congrArg (List.map eNode) h_16
  have q_18 := congrArg List.length h_16
  rw [ovr_len (by simp -implicitDefEqProofs [h_1, h_2, h_3, h_4, s_5, s_6, s_7, s_8, h_9, s_10, s_11, s_12, s_13, h_14, h_15])] at q_18
  simp -implicitDefEqProofs at m_17 q_18
  try simp only [q_18] at m_17
  try simp only [q_18] at h_15
  try simp only [q_18] at s_5
  try simp only [q_18] at s_6
  try simp only [q_18] at s_7
  try simp only [q_18] at s_8
  try simp only [q_18] at s_10
  try simp only [q_18] at s_11
  try simp only [q_18] at s_12
  try simp only [q_18] at s_13
  try simp -implicitDefEqProofs +decide (maxSteps := 999999) [-selQ_sel, hokQ_of, -appO_some, appO_part, appO_whole, h_1, h_2, h_3, h_4, s_5, s_6, s_7, s_8, h_9, s_10, s_11, s_12, s_13, h_14, h_15, m_17, q_18]
  obtain ⟨v4, h_19, H⟩ := HS.bnd H
  have s_20 := (slc_spec h_19).1
  have s_21 := slc_fit h_19
  have s_22 := slc_map (e := eNode) h_19
  have s_23 := (slc_spec h_19).2.1
  simp -implicitDefEqProofs at s_20 s_21 s_22 s_23
  try simp only [s_23] at s_21 s_22
  have s_24 := slc_hi h_19
  try simp -implicitDefEqProofs +decide (maxSteps := 999999) [-selQ_sel, hokQ_of, -appO_some, appO_part, appO_whole, h_1, h_2, h_3, h_4, s_5, s_6, s_7, s_8, h_9, s_10, s_11, s_12, s_13, h_14, h_15, m_17, q_18, h_19, s_20, s_21, s_22, s_23, s_24]
  obtain ⟨v5, h_25, H⟩ := HS.bnd H
  have s_26 := (slc_spec h_25).1
  have s_27 := slc_fit h_25
  have s_28 := slc_map (e := eNode) h_25
  have s_29 := (slc_spec h_25).2.1
  simp -implicitDefEqProofs at s_26 s_27 s_28 s_29
  try simp only [s_29] at s_27 s_28
  try simp -implicitDefEqProofs +decide (maxSteps := 999999) [-selQ_sel, hokQ_of, -appO_some, appO_part, appO_whole, h_1, h_2, h_3, h_4, s_5, s_6, s_7, s_8, h_9, s_10, s_11, s_12, s_13, h_14, h_15, m_17, q_18, h_19, s_20, s_21, s_22, s_23, s_24, h_25, s_26, s_27, s_28, s_29]
  obtain ⟨l6, h_30, H⟩ := HS.nam H
  have m_31 := congrArg (List.map eNode) h_30
  have q_32 := congrArg List.length h_30
  rw [clrL_len (by simp -implicitDefEqProofs [h_1, h_2, h_3, h_4, s_5, s_6, s_7, s_8, h_9, s_10, s_11, s_12, s_13, h_14, h_15, h_19, s_20, s_21, s_22, s_23, s_24, h_25, s_26, s_27, s_28, s_29])] at q_32
  simp -implicitDefEqProofs at m_31 q_32
  try simp only [q_32] at m_31
  try simp only [q_32] at s_29
  try simp only [q_32] at s_5
  try simp only [q_32] at s_6
  try simp only [q_32] at s_7
  try simp only [q_32] at s_8
  try simp only [q_32] at s_10
  try simp only [q_32] at s_11
  try simp only [q_32] at s_12
  try simp only [q_32] at s_13
  try simp only [q_32] at s_20
  try simp only [q_32] at s_21
  try simp only [q_32] at s_22
  try simp only [q_32] at s_23
  try simp only [q_32] at s_24
  try simp only [q_32] at s_26
  try simp only [q_32] at s_27
  try simp only [q_32] at s_28
  try simp -implicitDefEqProofs +decide (maxSteps := 999999) [-selQ_sel, hokQ_of, -appO_some, appO_part, appO_whole, h_1, h_2, h_3, h_4, s_5, s_6, s_7, s_8, h_9, s_10, s_11, s_12, s_13, h_14, h_15, m_17, q_18, h_19, s_20, s_21, s_22, s_23, s_24, h_25, s_26, s_27, s_28, s_29, m_31, q_32]
  have hr := (HS.some H).symm; subst hr
  refine Hid.mk ⟨⟨[(6, AV.osl 0 0 (List.length v4) (List.length l6))], [(0, Ob.arr 31 (List.map eNode l6) false)], 1⟩, Wk.ofk [0] hk (by rfl) (by simp -implicitDefEqProofs [h_1, h_2, h_3, h_4, s_5, s_6, s_7, s_8, h_9, s_10, s_11, s_12, s_13, h_14, h_15, m_17, q_18, h_19, s_20, s_21, s_22, s_23, s_24, h_25, s_26, s_27, s_28, s_29, m_31, q_32]) (by simp -implicitDefEqProofs [h_1, h_2, h_3, h_4, s_5, s_6, s_7, s_8, h_9, s_10, s_11, s_12, s_13, h_14, h_15, m_17, q_18, h_19, s_20, s_21, s_22, s_23, s_24, h_25, s_26, s_27, s_28, s_29, m_31, q_32]), ?_⟩
  try simp -implicitDefEqProofs +decide (maxSteps := 999999) [-selQ_sel, hokQ_of, -appO_some, appO_part, appO_whole, h_1, h_2, h_3, h_4, s_5, s_6, s_7, s_8, h_9, s_10, s_11, s_12, s_13, h_14, h_15, m_17, q_18, h_19, s_20, s_21, s_22, s_23, s_24, h_25, s_26, s_27, s_28, s_29, m_31, q_32]
theorem impl_UnderOf_ok0 (hm : Try.prog.follows .mixedOrders = true) (k_impl_NodeAt : Sound Try.prog 53 impl_NodeAt_x) (k_impl_Scene_comesTo : Sound Try.prog 190 impl_Scene_comesTo_x) : Sound Try.prog 122 impl_UnderOf_x := by
 refine xOf_sound fun q r h => ?_
 obtain ⟨a0, a1⟩ := q
 refine fn_ok E0 hm Try.func122 rfl (by decide +kernel) (by rfl) fun Γ hn hk => ?_
 dsimp only [impl_UnderOf_e, impl_UnderOf_v]
 replace hn : Γ.n = 30 := hn
 replace hk : Γ.k = 0 := hk
 have H : HS (impl_UnderOf a0 a1) r := h
 clear h; unfold impl_UnderOf at H
 try simp -implicitDefEqProofs at H
 refine Tr.of_vc (cl := tabC [(53, impl_NodeAt_x), (190, impl_Scene_comesTo_x)]) (E := E0) [] (tab_cons k_impl_NodeAt (tab_cons k_impl_Scene_comesTo tab_nil)) hm (by rw [hn]; decide +kernel) ?_
 try simp -implicitDefEqProofs (maxSteps := 999999) [-selQ_sel]
 obtain ⟨v1, h_1, H⟩ := HS.bnd H
 try simp -implicitDefEqProofs (maxSteps := 999999) [-selQ_sel, h_1]
 refine Hid.brV (fun h_2 => ?_) (fun h_2 => ?_)
 ·replace H := HS.cnd_t h_2 H
  try simp -implicitDefEqProofs (maxSteps := 999999) [-selQ_sel, h_1, h_2]
  obtain ⟨q, h_3, H⟩ := HS.bnd H
  refine Hid.mk (Tr.weak (s' := (impl_UnderOf_l0_S a0 a1) ([], 0)) (Wk.ofk [0, 1] hk (by rfl) (by simp -implicitDefEqProofs [impl_UnderOf_l0_S, h_1, h_2]) (by simp -implicitDefEqProofs [impl_UnderOf_l0_S, h_1, h_2])) ?_)
  refine wp_loop_of (S := (impl_UnderOf_l0_S a0 a1)) (f := (impl_UnderOf_l0 a0 a1)) (xt := (impl_UnderOf_l0_X a0 a1)) ?_ ?_ h_3 ?_
  ·intro q; simp [impl_UnderOf_l0_X]
  ·clear H h_3 q
   rintro ⟨x4, x5⟩ o R hf hR
   have H : HS (impl_UnderOf_l0 a0 a1 (x4, x5)) o := hf
   clear hf; unfold impl_UnderOf_l0 at H
   try simp -implicitDefEqProofs at H
   refine Tr.of_vc (cl := tabC [(53, impl_NodeAt_x), (190, impl_Scene_comesTo_x)]) (E := E0) [] (tab_cons k_impl_NodeAt (tab_cons k_impl_Scene_comesTo tab_nil)) hm (by rw [hn]; decide +kernel) ?_
   try simp -implicitDefEqProofs (maxSteps := 999999) [-selQ_sel, impl_UnderOf_l0_S]
   refine Hid.brV (fun h_4 => ?_) (fun h_4 => ?_)
   ·replace H := HS.cnd_t h_4 H
    try simp -implicitDefEqProofs (maxSteps := 999999) [-selQ_sel, h_4]
    have hr := (HS.some H).symm; subst hr
    exact Hid.mk ⟨(impl_UnderOf_l0_X a0 a1 x4).2, Wk.ofk [1] hk (by rfl) (by simp -implicitDefEqProofs [impl_UnderOf_l0_X, h_4]) (by simp -implicitDefEqProofs [impl_UnderOf_l0_X, h_4]), hR⟩
   ·replace H := HS.cnd_f h_4 H
    try simp -implicitDefEqProofs (maxSteps := 999999) [-selQ_sel, h_4]
    obtain ⟨v6, h_5, H⟩ := HS.bnd H
    try simp -implicitDefEqProofs (maxSteps := 999999) [-selQ_sel, h_4, h_5]
    obtain ⟨v7, h_6, H⟩ := HS.bnd H
    try simp -implicitDefEqProofs (maxSteps := 999999) [-selQ_sel, h_4, h_5, h_6]
    refine Hid.brV (fun h_7 => ?_) (fun h_7 => ?_)
    ·replace H := HS.cnd_t h_7 H
     try simp -implicitDefEqProofs (maxSteps := 999999) [-selQ_sel, h_4, h_5, h_6, h_7]
     obtain ⟨h_8, H⟩ := HS.chkP H
     try simp -implicitDefEqProofs (maxSteps := 999999) [-selQ_sel, h_4, h_5, h_6, h_7, h_8]
     obtain ⟨l8, h_9, H⟩ := HS.nam H
     have m_10 := congrArg (List.map (AV.int .i64)) h_9
     have q_11 := congrArg List.length h_9
     simp -implicitDefEqProofs at m_10 q_11
     try simp only [q_11] at m_10
     try simp only [q_11] at h_8
     try simp -implicitDefEqProofs (maxSteps := 999999) [-selQ_sel, h_4, h_5, h_6, h_7, h_8, m_10, q_11]
     have hr := (HS.some H).symm; subst hr
     exact Hid.mk ⟨impl_UnderOf_l0_S a0 a1 (l8, (IntKind.i64.wrap (x5 + 1))), Wk.ofk [0, 1] hk (by rfl) (by simp -implicitDefEqProofs [impl_UnderOf_l0_S, h_4, h_5, h_6, h_7, h_8, m_10, q_11]) (by simp -implicitDefEqProofs [impl_UnderOf_l0_S, h_4, h_5, h_6, h_7, h_8, m_10, q_11]), hR⟩
    ·replace H := HS.cnd_f h_7 H
     try simp -implicitDefEqProofs (maxSteps := 999999) [-selQ_sel, h_4, h_5, h_6, h_7]
     have hr := (HS.some H).symm; subst hr
     exact Hid.mk ⟨impl_UnderOf_l0_S a0 a1 (x4, (IntKind.i64.wrap (x5 + 1))), Wk.ofk [0, 1] hk (by rfl) (by simp -implicitDefEqProofs [impl_UnderOf_l0_S, h_4, h_5, h_6, h_7]) (by simp -implicitDefEqProofs [impl_UnderOf_l0_S, h_4, h_5, h_6, h_7]), hR⟩
  ·revert H h_3; revert q; intro y9 h_3 H
   try dsimp only at H
   try simp -implicitDefEqProofs (maxSteps := 999999) [-selQ_sel, h_1, h_2, impl_UnderOf_l0_X]
   have hr := (HS.some H).symm; subst hr
   refine Hid.mk ⟨_, Wk.refl _, ?_⟩
   try simp -implicitDefEqProofs (maxSteps := 999999) [-selQ_sel, h_1, h_2]
 ·replace H := HS.cnd_f h_2 H
  try simp -implicitDefEqProofs (maxSteps := 999999) [-selQ_sel, h_1, h_2]
  have hr := (HS.some H).symm; subst hr
  refine Hid.mk ⟨_, Wk.refl _, ?_⟩
  try simp -implicitDefEqProofs (maxSteps := 999999) [-selQ_sel, h_1, h_2]
theorem laws_samePoints_ok0 (hm : Try.prog.follows .mixedOrders = true) : Sound Try.prog 191 laws_samePoints_x := by
 refine xOf_sound fun q r h => ?_
 obtain ⟨a0, a1⟩ := q
 refine fn_ok E0 hm Try.func191 rfl (by decide +kernel) (by rfl) fun Γ hn hk => ?_
 dsimp only [laws_samePoints_e, laws_samePoints_v]
 replace hn : Γ.n = 26 := hn
 replace hk : Γ.k = 0 := hk
 have H : HS (laws_samePoints a0 a1) r := h
 clear h; unfold laws_samePoints at H
 try simp -implicitDefEqProofs at H
 refine Tr.of_vc (cl := tabC []) (E := E0) [] tab_nil hm (by rw [hn]; decide +kernel) ?_
 try simp -implicitDefEqProofs +decide (maxSteps := 999999) [-selQ_sel, hokQ_of]
 refine Hid.brV (fun h_1 => ?_) (fun h_1 => ?_)
 ·replace H := HS.cnd_t h_1 H
  try simp -implicitDefEqProofs +decide (maxSteps := 999999) [-selQ_sel, hokQ_of, h_1]
  obtain ⟨q, h_2, H⟩ := HS.bnd H
  refine Hid.mk (Tr.weak (s' := (laws_samePoints_l0_S a0 a1) 0) (Wk.ofk [] hk (by rfl) (by simp -implicitDefEqProofs [laws_samePoints_l0_S, h_1]) (by simp -implicitDefEqProofs [laws_samePoints_l0_S, h_1])) ?_)
  refine wp_loop_of (S := (laws_samePoints_l0_S a0 a1)) (f := (laws_samePoints_l0 a0 a1)) (xt := (laws_samePoints_l0_X a0 a1)) ?_ ?_ h_2 ?_
  ·intro q; rcases q with ⟨⟩ | ⟨⟩ <;> simp [laws_samePoints_l0_X]
  ·clear H h_2 q
   rintro x3 o R hf hR
   have H : HS (laws_samePoints_l0 a0 a1 x3) o := hf
   clear hf; unfold laws_samePoints_l0 at H
   try simp -implicitDefEqProofs at H
   refine Tr.of_vc (cl := tabC []) (E := E0) [] tab_nil hm (by rw [hn]; decide +kernel) ?_
   try simp -implicitDefEqProofs +decide (maxSteps := 999999) [-selQ_sel, hokQ_of, laws_samePoints_l0_S]
   refine Hid.brV (fun h_3 => ?_) (fun h_3 => ?_)
   ·replace H := HS.cnd_t h_3 H
    try simp -implicitDefEqProofs +decide (maxSteps := 999999) [-selQ_sel, hokQ_of, h_3]
    have hr := (HS.some H).symm; subst hr
    exact Hid.mk ⟨(laws_samePoints_l0_X a0 a1 (.inl ())).2, Wk.ofk [] hk (by rfl) (by simp -implicitDefEqProofs [laws_samePoints_l0_X, h_3]) (by simp -implicitDefEqProofs [laws_samePoints_l0_X, h_3]), hR⟩
   ·replace H := HS.cnd_f h_3 H
    try simp -implicitDefEqProofs +decide (maxSteps := 999999) [-selQ_sel, hokQ_of, h_3]
    obtain ⟨v4, h_4, H⟩ := HS.bnd H
    try simp -implicitDefEqProofs +decide (maxSteps := 999999) [-selQ_sel, hokQ_of, h_3, h_4]
    obtain ⟨v5, h_5, H⟩ := HS.bnd H
    try simp -implicitDefEqProofs +decide (maxSteps := 999999) [-selQ_sel, hokQ_of, h_3, h_4, h_5]
    refine Hid.brV (fun h_6 => ?_) (fun h_6 => ?_)
    ·replace H := HS.cnd_t h_6 H
     try simp -implicitDefEqProofs +decide (maxSteps := 999999) [-selQ_sel, hokQ_of, h_3, h_4, h_5, h_6]
     have hr := (HS.some H).symm; subst hr
     exact Hid.mk ⟨laws_samePoints_l0_S a0 a1 (IntKind.i64.wrap (x3 + 1)), Wk.ofk [] hk (by rfl) (by simp -implicitDefEqProofs [laws_samePoints_l0_S, h_3, h_4, h_5, h_6]) (by simp -implicitDefEqProofs [laws_samePoints_l0_S, h_3, h_4, h_5, h_6]), hR⟩
    ·replace H := HS.cnd_f h_6 H
     try simp -implicitDefEqProofs +decide (maxSteps := 999999) [-selQ_sel, hokQ_of, h_3, h_4, h_5, h_6]
     have hr := (HS.some H).symm; subst hr
     exact Hid.mk ⟨(laws_samePoints_l0_X a0 a1 (.inr ())).2, Wk.ofk [] hk (by rfl) (by simp -implicitDefEqProofs [laws_samePoints_l0_X, h_3, h_4, h_5, h_6]) (by simp -implicitDefEqProofs [laws_samePoints_l0_X, h_3, h_4, h_5, h_6]), hR⟩
  ·rcases q with ⟨⟩ | ⟨⟩
   ·dsimp only at H
    try simp -implicitDefEqProofs +decide (maxSteps := 999999) [-selQ_sel, hokQ_of, h_1, laws_samePoints_l0_X]
    have hr := (HS.some H).symm; subst hr
    refine Hid.mk ⟨_, Wk.refl _, ?_⟩
    try simp -implicitDefEqProofs +decide (maxSteps := 999999) [-selQ_sel, hokQ_of, h_1]
   ·dsimp only at H
    try simp -implicitDefEqProofs +decide (maxSteps := 999999) [-selQ_sel, hokQ_of, h_1, laws_samePoints_l0_X]
    have hr := (HS.some H).symm; subst hr
    refine Hid.mk ⟨_, Wk.refl _, ?_⟩
    try simp -implicitDefEqProofs +decide (maxSteps := 999999) [-selQ_sel, hokQ_of, h_1]
 ·replace H := HS.cnd_f h_1 H
  try simp -implicitDefEqProofs +decide (maxSteps := 999999) [-selQ_sel, hokQ_of, h_1]
  have hr := (HS.some H).symm; subst hr
  refine Hid.mk ⟨_, Wk.refl _, ?_⟩
  try simp -implicitDefEqProofs +decide (maxSteps := 999999) [-selQ_sel, hokQ_of, h_1]
theorem laws_sameInts_ok0 (hm : Try.prog.follows .mixedOrders = true) : Sound Try.prog 108 laws_sameInts_x := by
 refine xOf_sound fun q r h => ?_
 obtain ⟨a0, a1⟩ := q
 refine fn_ok E0 hm Try.func108 rfl (by decide +kernel) (by rfl) fun Γ hn hk => ?_
 dsimp only [laws_sameInts_e, laws_sameInts_v]
 replace hn : Γ.n = 26 := hn
 replace hk : Γ.k = 0 := hk
 have H : HS (laws_sameInts a0 a1) r := h
 clear h; unfold laws_sameInts at H
 try simp -implicitDefEqProofs at H
 refine Tr.of_vc (cl := tabC []) (E := E0) [] tab_nil hm (by rw [hn]; decide +kernel) ?_
 try simp -implicitDefEqProofs +decide (maxSteps := 999999) [-selQ_sel, hokQ_of]
 refine Hid.brV (fun h_1 => ?_) (fun h_1 => ?_)
 ·replace H := HS.cnd_t h_1 H
  try simp -implicitDefEqProofs +decide (maxSteps := 999999) [-selQ_sel, hokQ_of, h_1]
  obtain ⟨q, h_2, H⟩ := HS.bnd H
  refine Hid.mk (Tr.weak (s' := (laws_sameInts_l0_S a0 a1) 0) (Wk.ofk [] hk (by rfl) (by simp -implicitDefEqProofs [laws_sameInts_l0_S, h_1]) (by simp -implicitDefEqProofs [laws_sameInts_l0_S, h_1])) ?_)
  refine wp_loop_of (S := (laws_sameInts_l0_S a0 a1)) (f := (laws_sameInts_l0 a0 a1)) (xt := (laws_sameInts_l0_X a0 a1)) ?_ ?_ h_2 ?_
  ·intro q; rcases q with ⟨⟩ | ⟨⟩ <;> simp [laws_sameInts_l0_X]
  ·clear H h_2 q
   rintro x3 o R hf hR
   have H : HS (laws_sameInts_l0 a0 a1 x3) o := hf
   clear hf; unfold laws_sameInts_l0 at H
   try simp -implicitDefEqProofs at H
   refine Tr.of_vc (cl := tabC []) (E := E0) [] tab_nil hm (by rw [hn]; decide +kernel) ?_
   try simp -implicitDefEqProofs +decide (maxSteps := 999999) [-selQ_sel, hokQ_of, laws_sameInts_l0_S]
   refine Hid.brV (fun h_3 => ?_) (fun h_3 => ?_)
   ·replace H := HS.cnd_t h_3 H
    try simp -implicitDefEqProofs +decide (maxSteps := 999999) [-selQ_sel, hokQ_of, h_3]
    have hr := (HS.some H).symm; subst hr
    exact Hid.mk ⟨(laws_sameInts_l0_X a0 a1 (.inl ())).2, Wk.ofk [] hk (by rfl) (by simp -implicitDefEqProofs [laws_sameInts_l0_X, h_3]) (by simp -implicitDefEqProofs [laws_sameInts_l0_X, h_3]), hR⟩
   ·replace H := HS.cnd_f h_3 H
    try simp -implicitDefEqProofs +decide (maxSteps := 999999) [-selQ_sel, hokQ_of, h_3]
    obtain ⟨v4, h_4, H⟩ := HS.bnd H
    try simp -implicitDefEqProofs +decide (maxSteps := 999999) [-selQ_sel, hokQ_of, h_3, h_4]
    obtain ⟨v5, h_5, H⟩ := HS.bnd H
    try simp -implicitDefEqProofs +decide (maxSteps := 999999) [-selQ_sel, hokQ_of, h_3, h_4, h_5]
    refine Hid.brV (fun h_6 => ?_) (fun h_6 => ?_)
    ·replace H := HS.cnd_t h_6 H
     try simp -implicitDefEqProofs +decide (maxSteps := 999999) [-selQ_sel, hokQ_of, h_3, h_4, h_5, h_6]
     have hr := (HS.some H).symm; subst hr
     exact Hid.mk ⟨laws_sameInts_l0_S a0 a1 (IntKind.i64.wrap (x3 + 1)), Wk.ofk [] hk (by rfl) (by simp -implicitDefEqProofs [laws_sameInts_l0_S, h_3, h_4, h_5, h_6]) (by simp -implicitDefEqProofs [laws_sameInts_l0_S, h_3, h_4, h_5, h_6]), hR⟩
    ·replace H := HS.cnd_f h_6 H
     try simp -implicitDefEqProofs +decide (maxSteps := 999999) [-selQ_sel, hokQ_of, h_3, h_4, h_5, h_6]
     have hr := (HS.some H).symm; subst hr
     exact Hid.mk ⟨(laws_sameInts_l0_X a0 a1 (.inr ())).2, Wk.ofk [] hk (by rfl) (by simp -implicitDefEqProofs [laws_sameInts_l0_X, h_3, h_4, h_5, h_6]) (by simp -implicitDefEqProofs [laws_sameInts_l0_X, h_3, h_4, h_5, h_6]), hR⟩
  ·rcases q with ⟨⟩ | ⟨⟩
   ·dsimp only at H
    try simp -implicitDefEqProofs +decide (maxSteps := 999999) [-selQ_sel, hokQ_of, h_1, laws_sameInts_l0_X]
    have hr := (HS.some H).symm; subst hr
    refine Hid.mk ⟨_, Wk.refl _, ?_⟩
    try simp -implicitDefEqProofs +decide (maxSteps := 999999) [-selQ_sel, hokQ_of, h_1]
   ·dsimp only at H
    try simp -implicitDefEqProofs +decide (maxSteps := 999999) [-selQ_sel, hokQ_of, h_1, laws_sameInts_l0_X]
    have hr := (HS.some H).symm; subst hr
    refine Hid.mk ⟨_, Wk.refl _, ?_⟩
    try simp -implicitDefEqProofs +decide (maxSteps := 999999) [-selQ_sel, hokQ_of, h_1]
 ·replace H := HS.cnd_f h_1 H
  try simp -implicitDefEqProofs +decide (maxSteps := 999999) [-selQ_sel, hokQ_of, h_1]
  have hr := (HS.some H).symm; subst hr
  refine Hid.mk ⟨_, Wk.refl _, ?_⟩
  try simp -implicitDefEqProofs +decide (maxSteps := 999999) [-selQ_sel, hokQ_of, h_1]
theorem spec_l04AnyPoint_ok0 (hm : Try.prog.follows .mixedOrders = true) (k_spec_l04Point : Sound Try.prog 214 spec_l04Point_x) (k_spec_l01Once : Sound Try.prog 170 spec_l01Once_x) (k_spec_l01PickInt : Sound Try.prog 171 spec_l01PickInt_x) : Sound Try.prog 230 spec_l04AnyPoint_x := by
 refine xOf_sound fun q r h => ?_
 revert h; revert r; revert q; intro a0 r h
 refine fn_ok E0 hm Try.func230 rfl (by decide +kernel) (by rfl) fun Γ hn hk => ?_
 dsimp only [spec_l04AnyPoint_e, spec_l04AnyPoint_v]
 replace hn : Γ.n = 19 := hn
 replace hk : Γ.k = 1 := hk
 have H : HS (spec_l04AnyPoint a0) r := h
 clear h; unfold spec_l04AnyPoint at H
 try simp -implicitDefEqProofs at H
 refine Tr.of_vc (cl := tabC [(214, spec_l04Point_x), (170, spec_l01Once_x), (171, spec_l01PickInt_x)]) (E := E0) [] (tab_cons k_spec_l04Point (tab_cons k_spec_l01Once (tab_cons k_spec_l01PickInt tab_nil))) hm (by rw [hn]; decide +kernel) ?_
 try simp -implicitDefEqProofs (maxSteps := 999999) [-selQ_sel]
 obtain ⟨⟨w2, w3⟩, h_1, H⟩ := HS.bnd H
 dsimp only at H
 try simp -implicitDefEqProofs (maxSteps := 999999) [-selQ_sel, h_1]
 obtain ⟨⟨w5, w6⟩, h_2, H⟩ := HS.bnd H
 dsimp only at H
 try simp -implicitDefEqProofs (maxSteps := 999999) [-selQ_sel, h_1, h_2]
 refine Hid.brV (fun h_3 => ?_) (fun h_3 => ?_)
 ·replace H := HS.cnd_t h_3 H
  try simp -implicitDefEqProofs (maxSteps := 999999) [-selQ_sel, h_1, h_2, h_3]
  obtain ⟨⟨w8, w9⟩, h_4, H⟩ := HS.bnd H
  dsimp only at H
  have k_5 := spec_l01PickInt_k w6.b w6.i w6.h [(-8388608), 8388608, 8388609, (-8388609), 9223372036854775807, (-9223372036854775808)]
  simp -implicitDefEqProofs [-spec_l01PickInt_k] at k_5
  try simp -implicitDefEqProofs (maxSteps := 999999) [-selQ_sel, h_1, h_2, h_3, h_4, k_5]
  obtain ⟨⟨w11, w12⟩, h_6, H⟩ := HS.bnd H
  dsimp only at H
  try simp -implicitDefEqProofs (maxSteps := 999999) [-selQ_sel, h_1, h_2, h_3, h_4, k_5, h_6]
  refine Hid.brV (fun h_7 => ?_) (fun h_7 => ?_)
  ·replace H := HS.cnd_t h_7 H
   try simp -implicitDefEqProofs (maxSteps := 999999) [-selQ_sel, h_1, h_2, h_3, h_4, k_5, h_6, h_7]
   obtain ⟨⟨w14, w15⟩, h_8, H⟩ := HS.bnd H
   dsimp only at H
   have k_9 := spec_l01PickInt_k w12.b w12.i w12.h [(-8388608), 8388608, 8388609]
   simp -implicitDefEqProofs [-spec_l01PickInt_k] at k_9
   try simp -implicitDefEqProofs (maxSteps := 999999) [-selQ_sel, h_1, h_2, h_3, h_4, k_5, h_6, h_7, h_8, k_9]
   have hr := (HS.some H).symm; subst hr
   refine Hid.mk ⟨_, Wk.refl _, ?_⟩
   try simp -implicitDefEqProofs (maxSteps := 999999) [-selQ_sel, h_1, h_2, h_3, h_4, k_5, h_6, h_7, h_8, k_9]
  ·replace H := HS.cnd_f h_7 H
   try simp -implicitDefEqProofs (maxSteps := 999999) [-selQ_sel, h_1, h_2, h_3, h_4, k_5, h_6, h_7]
   have hr := (HS.some H).symm; subst hr
   refine Hid.mk ⟨_, Wk.refl _, ?_⟩
   try simp -implicitDefEqProofs (maxSteps := 999999) [-selQ_sel, h_1, h_2, h_3, h_4, k_5, h_6, h_7]
 ·replace H := HS.cnd_f h_3 H
  try simp -implicitDefEqProofs (maxSteps := 999999) [-selQ_sel, h_1, h_2, h_3]
  obtain ⟨⟨w17, w18⟩, h_10, H⟩ := HS.bnd H
  dsimp only at H
  try simp -implicitDefEqProofs (maxSteps := 999999) [-selQ_sel, h_1, h_2, h_3, h_10]
  refine Hid.brV (fun h_11 => ?_) (fun h_11 => ?_)
  ·replace H := HS.cnd_t h_11 H
   try simp -implicitDefEqProofs (maxSteps := 999999) [-selQ_sel, h_1, h_2, h_3, h_10, h_11]
   obtain ⟨⟨w20, w21⟩, h_12, H⟩ := HS.bnd H
   dsimp only at H
   have k_13 := spec_l01PickInt_k w18.b w18.i w18.h [(-8388608), 8388608, 8388609]
   simp -implicitDefEqProofs [-spec_l01PickInt_k] at k_13
   try simp -implicitDefEqProofs (maxSteps := 999999) [-selQ_sel, h_1, h_2, h_3, h_10, h_11, h_12, k_13]
   have hr := (HS.some H).symm; subst hr
   refine Hid.mk ⟨_, Wk.refl _, ?_⟩
   try simp -implicitDefEqProofs (maxSteps := 999999) [-selQ_sel, h_1, h_2, h_3, h_10, h_11, h_12, k_13]
  ·replace H := HS.cnd_f h_11 H
   try simp -implicitDefEqProofs (maxSteps := 999999) [-selQ_sel, h_1, h_2, h_3, h_10, h_11]
   have hr := (HS.some H).symm; subst hr
   refine Hid.mk ⟨_, Wk.refl _, ?_⟩
   try simp -implicitDefEqProofs (maxSteps := 999999) [-selQ_sel, h_1, h_2, h_3, h_10, h_11]
theorem slices_IndexFunc_Node_NodeAt_1_ok0 (hm : Try.prog.follows .mixedOrders = true) (k_impl_NodeAt_1 : Sound Try.prog 128 impl_NodeAt_1_x) : Sound Try.prog 127 slices_IndexFunc_Node_NodeAt_1_x := by
 refine xOf_sound fun q r h => ?_
 obtain ⟨a0, a1⟩ := q
 refine fn_ok E0 hm Try.func127 rfl (by decide +kernel) (by rfl) fun Γ hn hk => ?_
 dsimp only [slices_IndexFunc_Node_NodeAt_1_e, slices_IndexFunc_Node_NodeAt_1_v]
 replace hn : Γ.n = 19 := hn
 replace hk : Γ.k = 0 := hk
 have H : HS (slices_IndexFunc_Node_NodeAt_1 a0 a1) r := h
 clear h; unfold slices_IndexFunc_Node_NodeAt_1 at H
 try simp -implicitDefEqProofs at H
 refine Tr.of_vc (cl := tabC [(128, impl_NodeAt_1_x)]) (E := E0) [] (tab_cons k_impl_NodeAt_1 tab_nil) hm (by rw [hn]; decide +kernel) ?_
 try simp -implicitDefEqProofs (maxSteps := 999999) [-selQ_sel]
 obtain ⟨q, h_1, H⟩ := HS.bnd H
 refine Hid.mk (Tr.weak (s' := (slices_IndexFunc_Node_NodeAt_1_l0_S a0 a1) 0) (Wk.ofk [] hk (by rfl) (by simp -implicitDefEqProofs [slices_IndexFunc_Node_NodeAt_1_l0_S]) (by simp -implicitDefEqProofs [slices_IndexFunc_Node_NodeAt_1_l0_S])) ?_)
 refine wp_loop_of (S := (slices_IndexFunc_Node_NodeAt_1_l0_S a0 a1)) (f := (slices_IndexFunc_Node_NodeAt_1_l0 a0 a1)) (xt := (slices_IndexFunc_Node_NodeAt_1_l0_X a0 a1)) ?_ ?_ h_1 ?_
 ·intro q; rcases q with ⟨⟩ | y6 <;> simp [slices_IndexFunc_Node_NodeAt_1_l0_X]
 ·clear H h_1 q
  rintro x3 o R hf hR
  have H : HS (slices_IndexFunc_Node_NodeAt_1_l0 a0 a1 x3) o := hf
  clear hf; unfold slices_IndexFunc_Node_NodeAt_1_l0 at H
  try simp -implicitDefEqProofs at H
  refine Tr.of_vc (cl := tabC [(128, impl_NodeAt_1_x)]) (E := E0) [] (tab_cons k_impl_NodeAt_1 tab_nil) hm (by rw [hn]; decide +kernel) ?_
  try simp -implicitDefEqProofs (maxSteps := 999999) [-selQ_sel, slices_IndexFunc_Node_NodeAt_1_l0_S]
  refine Hid.brV (fun h_2 => ?_) (fun h_2 => ?_)
  ·replace H := HS.cnd_t h_2 H
   try simp -implicitDefEqProofs (maxSteps := 999999) [-selQ_sel, h_2]
   have hr := (HS.some H).symm; subst hr
   exact Hid.mk ⟨(slices_IndexFunc_Node_NodeAt_1_l0_X a0 a1 (.inl ())).2, Wk.ofk [] hk (by rfl) (by simp -implicitDefEqProofs [slices_IndexFunc_Node_NodeAt_1_l0_X, h_2]) (by simp -implicitDefEqProofs [slices_IndexFunc_Node_NodeAt_1_l0_X, h_2]), hR⟩
  ·replace H := HS.cnd_f h_2 H
   try simp -implicitDefEqProofs (maxSteps := 999999) [-selQ_sel, h_2]
   obtain ⟨v4, h_3, H⟩ := HS.bnd H
   try simp -implicitDefEqProofs (maxSteps := 999999) [-selQ_sel, h_2, h_3]
   obtain ⟨v5, h_4, H⟩ := HS.bnd H
   try simp -implicitDefEqProofs (maxSteps := 999999) [-selQ_sel, h_2, h_3, h_4]
   refine Hid.brV (fun h_5 => ?_) (fun h_5 => ?_)
   ·replace H := HS.cnd_t h_5 H
    try simp -implicitDefEqProofs (maxSteps := 999999) [-selQ_sel, h_2, h_3, h_4, h_5]
    have hr := (HS.some H).symm; subst hr
    exact Hid.mk ⟨(slices_IndexFunc_Node_NodeAt_1_l0_X a0 a1 (.inr x3)).2, Wk.ofk [] hk (by rfl) (by simp -implicitDefEqProofs [slices_IndexFunc_Node_NodeAt_1_l0_X, h_2, h_3, h_4, h_5]) (by simp -implicitDefEqProofs [slices_IndexFunc_Node_NodeAt_1_l0_X, h_2, h_3, h_4, h_5]), hR⟩
   ·replace H := HS.cnd_f h_5 H
    try simp -implicitDefEqProofs (maxSteps := 999999) [-selQ_sel, h_2, h_3, h_4, h_5]
    have hr := (HS.some H).symm; subst hr
    exact Hid.mk ⟨slices_IndexFunc_Node_NodeAt_1_l0_S a0 a1 (IntKind.i64.wrap (x3 + 1)), Wk.ofk [] hk (by rfl) (by simp -implicitDefEqProofs [slices_IndexFunc_Node_NodeAt_1_l0_S, h_2, h_3, h_4, h_5]) (by simp -implicitDefEqProofs [slices_IndexFunc_Node_NodeAt_1_l0_S, h_2, h_3, h_4, h_5]), hR⟩
 ·rcases q with ⟨⟩ | y6
  ·dsimp only at H
   try simp -implicitDefEqProofs (maxSteps := 999999) [-selQ_sel, slices_IndexFunc_Node_NodeAt_1_l0_X]
   have hr := (HS.some H).symm; subst hr
   refine Hid.mk ⟨_, Wk.refl _, ?_⟩
   try simp -implicitDefEqProofs (maxSteps := 999999) [-selQ_sel]
  ·dsimp only at H
   try simp -implicitDefEqProofs (maxSteps := 999999) [-selQ_sel, slices_IndexFunc_Node_NodeAt_1_l0_X]
   have hr := (HS.some H).symm; subst hr
   refine Hid.mk ⟨_, Wk.refl _, ?_⟩
   try simp -implicitDefEqProofs (maxSteps := 999999) [-selQ_sel]
theorem spec_l15Copy_ok0 (hm : Try.prog.follows .mixedOrders = true) (k_spec_l15CopyNode : Sound Try.prog 121 spec_l15CopyNode_x) : Sound Try.prog 116 spec_l15Copy_x := by
 refine xOf_sound fun q r h => ?_
 revert h; revert r; revert q; intro a0 r h
 refine fn_ok E0 hm Try.func116 rfl (by decide +kernel) (by rfl) fun Γ hn hk => ?_
 dsimp only [spec_l15Copy_e, spec_l15Copy_v]
 replace hn : Γ.n = 25 := hn
 replace hk : Γ.k = 0 := hk
 have H : HS (spec_l15Copy a0) r := h
 clear h; unfold spec_l15Copy at H
 try simp -implicitDefEqProofs at H
 refine Tr.of_vc (cl := tabC [(121, spec_l15CopyNode_x)]) (E := E0) [] (tab_cons k_spec_l15CopyNode tab_nil) hm (by rw [hn]; decide +kernel) ?_
 try simp -implicitDefEqProofs +decide (maxSteps := 999999) [-selQ_sel, hokQ_of]
 obtain ⟨q, h_1, H⟩ := HS.bnd H
 refine Hid.mk (Tr.weak (s' := (spec_l15Copy_l0_S a0) (0, [])) (Wk.ofk [0, 1, 2, 3] hk (by rfl) (by simp -implicitDefEqProofs [spec_l15Copy_l0_S]) (by simp -implicitDefEqProofs [spec_l15Copy_l0_S])) ?_)
 refine wp_loop_of (S := (spec_l15Copy_l0_S a0)) (f := (spec_l15Copy_l0 a0)) (xt := (spec_l15Copy_l0_X a0)) ?_ ?_ h_1 ?_
 ·intro q; simp [spec_l15Copy_l0_X]
 ·clear H h_1 q
  rintro ⟨x3, x4⟩ o R hf hR
  have H : HS (spec_l15Copy_l0 a0 (x3, x4)) o := hf
  clear hf; unfold spec_l15Copy_l0 at H
  try simp -implicitDefEqProofs at H
  refine Tr.of_vc (cl := tabC [(121, spec_l15CopyNode_x)]) (E := E0) [] (tab_cons k_spec_l15CopyNode tab_nil) hm (by rw [hn]; decide +kernel) ?_
  try simp -implicitDefEqProofs +decide (maxSteps := 999999) [-selQ_sel, hokQ_of, spec_l15Copy_l0_S]
  refine Hid.brV (fun h_2 => ?_) (fun h_2 => ?_)
  ·replace H := HS.cnd_t h_2 H
   try simp -implicitDefEqProofs +decide (maxSteps := 999999) [-selQ_sel, hokQ_of, h_2]
   have hr := (HS.some H).symm; subst hr
   exact Hid.mk ⟨(spec_l15Copy_l0_X a0 x4).2, Wk.ofk [1, 2, 3] hk (by rfl) (by simp -implicitDefEqProofs [spec_l15Copy_l0_X, h_2]) (by simp -implicitDefEqProofs [spec_l15Copy_l0_X, h_2]), hR⟩
  ·replace H := HS.cnd_f h_2 H
   try simp -implicitDefEqProofs +decide (maxSteps := 999999) [-selQ_sel, hokQ_of, h_2]
   obtain ⟨v5, h_3, H⟩ := HS.bnd H
   try simp -implicitDefEqProofs +decide (maxSteps := 999999) [-selQ_sel, hokQ_of, h_2, h_3]
   obtain ⟨v6, h_4, H⟩ := HS.bnd H
   try simp -implicitDefEqProofs +decide (maxSteps := 999999) [-selQ_sel, hokQ_of, h_2, h_3, h_4]
   obtain ⟨h_5, H⟩ := HS.chkP H
   try simp -implicitDefEqProofs +decide (maxSteps := 999999) [-selQ_sel, hokQ_of, h_2, h_3, h_4, h_5]
   obtain ⟨l7, h_6, H⟩ := HS.nam H
   have m_7 := congrArg (List.map eNode) h_6
   have q_8 := congrArg List.length h_6
   simp -implicitDefEqProofs at m_7 q_8
   try simp only [q_8] at m_7
   try simp only [q_8] at h_5
   try simp -implicitDefEqProofs +decide (maxSteps := 999999) [-selQ_sel, hokQ_of, h_2, h_3, h_4, h_5, m_7, q_8]
   have hr := (HS.some H).symm; subst hr
   exact Hid.mk ⟨spec_l15Copy_l0_S a0 ((IntKind.i64.wrap (x3 + 1)), l7), Wk.ofk [0, 1, 2, 3] hk (by rfl) (by simp -implicitDefEqProofs [spec_l15Copy_l0_S, h_2, h_3, h_4, h_5, m_7, q_8]) (by simp -implicitDefEqProofs [spec_l15Copy_l0_S, h_2, h_3, h_4, h_5, m_7, q_8]), hR⟩
 ·revert H h_1; revert q; intro y8 h_1 H
  try dsimp only at H
  try simp -implicitDefEqProofs +decide (maxSteps := 999999) [-selQ_sel, hokQ_of, spec_l15Copy_l0_X]
  have hr := (HS.some H).symm; subst hr
  refine Hid.mk ⟨⟨[(2, AV.optr 0 0 1)], [(0, Ob.box [AV.osl 1 0 (List.length y8) (List.length y8)]), (1, Ob.arr 31 (List.map eNode y8) false)], 2⟩, Wk.ofk [0, 2] hk (by rfl) (by simp -implicitDefEqProofs []) (by simp -implicitDefEqProofs []), ?_⟩
  try simp -implicitDefEqProofs +decide (maxSteps := 999999) [-selQ_sel, hokQ_of]
theorem spec_l04Mat_ok0 (hm : Try.prog.follows .mixedOrders = true) (k_spec_l01Below : Sound Try.prog 107 spec_l01Below_x) (k_spec_Shift : Sound Try.prog 215 spec_Shift_x) : Sound Try.prog 173 spec_l04Mat_x := by
 refine xOf_sound fun q r h => ?_
 revert h; revert r; revert q; intro a0 r h
 refine fn_ok E0 hm Try.func173 rfl (by decide +kernel) (by rfl) fun Γ hn hk => ?_
 dsimp only [spec_l04Mat_e, spec_l04Mat_v]
 replace hn : Γ.n = 36 := hn
 replace hk : Γ.k = 1 := hk
 have H : HS (spec_l04Mat a0) r := h
 clear h; unfold spec_l04Mat at H
 try simp -implicitDefEqProofs at H
 refine Tr.of_vc (cl := tabC [(107, spec_l01Below_x), (215, spec_Shift_x)]) (E := E0) [] (tab_cons k_spec_l01Below (tab_cons k_spec_Shift tab_nil)) hm (by rw [hn]; decide +kernel) ?_
 try simp -implicitDefEqProofs (maxSteps := 999999) [-selQ_sel]
 obtain ⟨⟨w2, w3⟩, h_1, H⟩ := HS.bnd H
 dsimp only at H
 try simp -implicitDefEqProofs (maxSteps := 999999) [-selQ_sel, h_1]
 obtain ⟨⟨w5, w6⟩, h_2, H⟩ := HS.bnd H
 dsimp only at H
 try simp -implicitDefEqProofs (maxSteps := 999999) [-selQ_sel, h_1, h_2]
 obtain ⟨v7, h_3, H⟩ := HS.bnd H
 try simp -implicitDefEqProofs (maxSteps := 999999) [-selQ_sel, h_1, h_2, h_3]
 obtain ⟨⟨w9, w10⟩, h_4, H⟩ := HS.bnd H
 dsimp only at H
 try simp -implicitDefEqProofs (maxSteps := 999999) [-selQ_sel, h_1, h_2, h_3, h_4]
 refine Hid.brV (fun h_5 => ?_) (fun h_5 => ?_)
 ·replace H := HS.cnd_t h_5 H
  try simp -implicitDefEqProofs (maxSteps := 999999) [-selQ_sel, h_1, h_2, h_3, h_4, h_5]
  obtain ⟨⟨w12, w13⟩, h_6, H⟩ := HS.bnd H
  dsimp only at H
  try simp -implicitDefEqProofs (maxSteps := 999999) [-selQ_sel, h_1, h_2, h_3, h_4, h_5, h_6]
  obtain ⟨⟨w15, w16⟩, h_7, H⟩ := HS.bnd H
  dsimp only at H
  try simp -implicitDefEqProofs (maxSteps := 999999) [-selQ_sel, h_1, h_2, h_3, h_4, h_5, h_6, h_7]
  have hr := (HS.some H).symm; subst hr
  refine Hid.mk ⟨_, Wk.refl _, ?_⟩
  try simp -implicitDefEqProofs (maxSteps := 999999) [-selQ_sel, h_1, h_2, h_3, h_4, h_5, h_6, h_7]
 ·replace H := HS.cnd_f h_5 H
  try simp -implicitDefEqProofs (maxSteps := 999999) [-selQ_sel, h_1, h_2, h_3, h_4, h_5]
  refine Hid.brV (fun h_8 => ?_) (fun h_8 => ?_)
  ·replace H := HS.cnd_t h_8 H
   try simp -implicitDefEqProofs (maxSteps := 999999) [-selQ_sel, h_1, h_2, h_3, h_4, h_5, h_8]
   have hr := (HS.some H).symm; subst hr
   refine Hid.mk ⟨_, Wk.refl _, ?_⟩
   try simp -implicitDefEqProofs (maxSteps := 999999) [-selQ_sel, h_1, h_2, h_3, h_4, h_5, h_8]
  ·replace H := HS.cnd_f h_8 H
   try simp -implicitDefEqProofs (maxSteps := 999999) [-selQ_sel, h_1, h_2, h_3, h_4, h_5, h_8]
   refine Hid.brV (fun h_9 => ?_) (fun h_9 => ?_)
   ·replace H := HS.cnd_t h_9 H
    try simp -implicitDefEqProofs (maxSteps := 999999) [-selQ_sel, h_1, h_2, h_3, h_4, h_5, h_8, h_9]
    obtain ⟨⟨w18, w19⟩, h_10, H⟩ := HS.bnd H
    dsimp only at H
    try simp -implicitDefEqProofs (maxSteps := 999999) [-selQ_sel, h_1, h_2, h_3, h_4, h_5, h_8, h_9, h_10]
    have hr := (HS.some H).symm; subst hr
    refine Hid.mk ⟨_, Wk.refl _, ?_⟩
    try simp -implicitDefEqProofs (maxSteps := 999999) [-selQ_sel, h_1, h_2, h_3, h_4, h_5, h_8, h_9, h_10]
   ·replace H := HS.cnd_f h_9 H
    try simp -implicitDefEqProofs (maxSteps := 999999) [-selQ_sel, h_1, h_2, h_3, h_4, h_5, h_8, h_9]
    have hr := (HS.some H).symm; subst hr
    refine Hid.mk ⟨_, Wk.refl _, ?_⟩
    try simp -implicitDefEqProofs (maxSteps := 999999) [-selQ_sel, h_1, h_2, h_3, h_4, h_5, h_8, h_9]
theorem spec_l01New_ok0 (hm : Try.prog.follows .mixedOrders = true) : Sound Try.prog 104 spec_l01New_x := by
 refine xOf_sound fun q r h => ?_
 revert h; revert r; revert q; intro a0 r h
 refine fn_ok E0 hm Try.func104 rfl (by decide +kernel) (by rfl) fun Γ hn hk => ?_
 dsimp only [spec_l01New_e, spec_l01New_v]
 replace hn : Γ.n = 32 := hn
 replace hk : Γ.k = 0 := hk
 have H : HS (spec_l01New a0) r := h
 clear h; unfold spec_l01New at H
 try simp -implicitDefEqProofs at H
 refine Tr.of_vc (cl := tabC []) (E := E0) [] tab_nil hm (by rw [hn]; decide +kernel) ?_
 try simp -implicitDefEqProofs (maxSteps := 999999) [-selQ_sel]
 obtain ⟨q, h_1, H⟩ := HS.bnd H
 refine Hid.mk (Tr.weak (s' := (spec_l01New_l0_S a0) ((IntKind.i64.wrap (28001 + (List.length a0 : Int))), 0)) (Wk.ofk [] hk (by rfl) (by simp -implicitDefEqProofs [spec_l01New_l0_S]) (by simp -implicitDefEqProofs [spec_l01New_l0_S])) ?_)
 refine wp_loop_of (S := (spec_l01New_l0_S a0)) (f := (spec_l01New_l0 a0)) (xt := (spec_l01New_l0_X a0)) ?_ ?_ h_1 ?_
 ·intro q; simp [spec_l01New_l0_X]
 ·clear H h_1 q
  rintro ⟨x2, x3⟩ o R hf hR
  have H : HS (spec_l01New_l0 a0 (x2, x3)) o := hf
  clear hf; unfold spec_l01New_l0 at H
  try simp -implicitDefEqProofs at H
  refine Tr.of_vc (cl := tabC []) (E := E0) [] tab_nil hm (by rw [hn]; decide +kernel) ?_
  try simp -implicitDefEqProofs (maxSteps := 999999) [-selQ_sel, spec_l01New_l0_S]
  refine Hid.selQ (fun h_2 => ?_) (fun h_2 => ?_)
  ·replace H := HS.cnd_t h_2 H
   try simp -implicitDefEqProofs (maxSteps := 999999) [-selQ_sel, h_2]
   have hr := (HS.some H).symm; subst hr
   exact Hid.mk ⟨(spec_l01New_l0_X a0 x2).2, Wk.ofk [] hk (by rfl) (by simp -implicitDefEqProofs [spec_l01New_l0_X, h_2]) (by simp -implicitDefEqProofs [spec_l01New_l0_X, h_2]), hR⟩
  ·replace H := HS.cnd_f h_2 H
   try simp -implicitDefEqProofs (maxSteps := 999999) [-selQ_sel, h_2]
   refine Hid.brV (fun h_3 => ?_) (fun h_3 => ?_)
   ·replace H := HS.cnd_t h_3 H
    try simp -implicitDefEqProofs (maxSteps := 999999) [-selQ_sel, h_2, h_3]
    have hr := (HS.some H).symm; subst hr
    exact Hid.mk ⟨(spec_l01New_l0_X a0 x2).2, Wk.ofk [] hk (by rfl) (by simp -implicitDefEqProofs [spec_l01New_l0_X, h_2, h_3]) (by simp -implicitDefEqProofs [spec_l01New_l0_X, h_2, h_3]), hR⟩
   ·replace H := HS.cnd_f h_3 H
    try simp -implicitDefEqProofs (maxSteps := 999999) [-selQ_sel, h_2, h_3]
    obtain ⟨v4, h_4, H⟩ := HS.bnd H
    try simp -implicitDefEqProofs (maxSteps := 999999) [-selQ_sel, h_2, h_3, h_4]
    have hr := (HS.some H).symm; subst hr
    exact Hid.mk ⟨spec_l01New_l0_S a0 ((andI .i64 (IntKind.i64.wrap ((IntKind.i64.wrap ((IntKind.i64.wrap (x2 * 131)) + (IntKind.i64.wrap v4))) + 7)) 1073741823), (IntKind.i64.wrap (x3 + 1))), Wk.ofk [] hk (by rfl) (by simp -implicitDefEqProofs [spec_l01New_l0_S, h_2, h_3, h_4]) (by simp -implicitDefEqProofs [spec_l01New_l0_S, h_2, h_3, h_4]), hR⟩
 ·revert H h_1; revert q; intro y5 h_1 H
  try dsimp only at H
  try simp -implicitDefEqProofs (maxSteps := 999999) [-selQ_sel, spec_l01New_l0_X]
  have hr := (HS.some H).symm; subst hr
  refine Hid.mk ⟨⟨[(2, AV.optr 0 0 3)], [(0, Ob.box [AV.fsl (List.map (AV.int .u8) a0), AV.int .i64 0, AV.int .i64 y5])], 1⟩, Wk.ofk [0] hk (by rfl) (by simp -implicitDefEqProofs []) (by simp -implicitDefEqProofs []), ?_⟩
  try simp -implicitDefEqProofs (maxSteps := 999999) [-selQ_sel]
theorem spec_NodeAt_ok0 (hm : Try.prog.follows .mixedOrders = true) : Sound Try.prog 119 spec_NodeAt_x := by
 refine xOf_sound fun q r h => ?_
 obtain ⟨a0, a1⟩ := q
 refine fn_ok E0 hm Try.func119 rfl (by decide +kernel) (by rfl) fun Γ hn hk => ?_
 dsimp only [spec_NodeAt_e, spec_NodeAt_v]
 replace hn : Γ.n = 22 := hn
 replace hk : Γ.k = 0 := hk
 have H : HS (spec_NodeAt a0 a1) r := h
 clear h; unfold spec_NodeAt at H
 try simp -implicitDefEqProofs at H
 refine Tr.of_vc (cl := tabC []) (E := E0) [] tab_nil hm (by rw [hn]; decide +kernel) ?_
 try simp -implicitDefEqProofs (maxSteps := 999999) [-selQ_sel]
 obtain ⟨q, h_1, H⟩ := HS.bnd H
 refine Hid.mk (Tr.weak (s' := (spec_NodeAt_l0_S a0 a1) 0) (Wk.ofk [0] hk (by rfl) (by simp -implicitDefEqProofs [spec_NodeAt_l0_S]) (by simp -implicitDefEqProofs [spec_NodeAt_l0_S])) ?_)
 refine wp_loop_of (S := (spec_NodeAt_l0_S a0 a1)) (f := (spec_NodeAt_l0 a0 a1)) (xt := (spec_NodeAt_l0_X a0 a1)) ?_ ?_ h_1 ?_
 ·intro q; rcases q with ⟨⟩ | y4 <;> simp [spec_NodeAt_l0_X]
 ·clear H h_1 q
  rintro x2 o R hf hR
  have H : HS (spec_NodeAt_l0 a0 a1 x2) o := hf
  clear hf; unfold spec_NodeAt_l0 at H
  try simp -implicitDefEqProofs at H
  refine Tr.of_vc (cl := tabC []) (E := E0) [] tab_nil hm (by rw [hn]; decide +kernel) ?_
  try simp -implicitDefEqProofs (maxSteps := 999999) [-selQ_sel, spec_NodeAt_l0_S]
  refine Hid.brV (fun h_2 => ?_) (fun h_2 => ?_)
  ·replace H := HS.cnd_t h_2 H
   try simp -implicitDefEqProofs (maxSteps := 999999) [-selQ_sel, h_2]
   have hr := (HS.some H).symm; subst hr
   exact Hid.mk ⟨(spec_NodeAt_l0_X a0 a1 (.inl ())).2, Wk.ofk [] hk (by rfl) (by simp -implicitDefEqProofs [spec_NodeAt_l0_X, h_2]) (by simp -implicitDefEqProofs [spec_NodeAt_l0_X, h_2]), hR⟩
  ·replace H := HS.cnd_f h_2 H
   try simp -implicitDefEqProofs (maxSteps := 999999) [-selQ_sel, h_2]
   obtain ⟨v3, h_3, H⟩ := HS.bnd H
   try simp -implicitDefEqProofs (maxSteps := 999999) [-selQ_sel, h_2, h_3]
   refine Hid.brV (fun h_4 => ?_) (fun h_4 => ?_)
   ·replace H := HS.cnd_t h_4 H
    try simp -implicitDefEqProofs (maxSteps := 999999) [-selQ_sel, h_2, h_3, h_4]
    have hr := (HS.some H).symm; subst hr
    exact Hid.mk ⟨(spec_NodeAt_l0_X a0 a1 (.inr x2)).2, Wk.ofk [] hk (by rfl) (by simp -implicitDefEqProofs [spec_NodeAt_l0_X, h_2, h_3, h_4]) (by simp -implicitDefEqProofs [spec_NodeAt_l0_X, h_2, h_3, h_4]), hR⟩
   ·replace H := HS.cnd_f h_4 H
    try simp -implicitDefEqProofs (maxSteps := 999999) [-selQ_sel, h_2, h_3, h_4]
    have hr := (HS.some H).symm; subst hr
    exact Hid.mk ⟨spec_NodeAt_l0_S a0 a1 (IntKind.i64.wrap (x2 + 1)), Wk.ofk [0] hk (by rfl) (by simp -implicitDefEqProofs [spec_NodeAt_l0_S, h_2, h_3, h_4]) (by simp -implicitDefEqProofs [spec_NodeAt_l0_S, h_2, h_3, h_4]), hR⟩
 ·rcases q with ⟨⟩ | y4
  ·dsimp only at H
   try simp -implicitDefEqProofs (maxSteps := 999999) [-selQ_sel, spec_NodeAt_l0_X]
   have hr := (HS.some H).symm; subst hr
   refine Hid.mk ⟨_, Wk.refl _, ?_⟩
   try simp -implicitDefEqProofs (maxSteps := 999999) [-selQ_sel]
  ·dsimp only at H
   try simp -implicitDefEqProofs (maxSteps := 999999) [-selQ_sel, spec_NodeAt_l0_X]
   have hr := (HS.some H).symm; subst hr
   refine Hid.mk ⟨_, Wk.refl _, ?_⟩
   try simp -implicitDefEqProofs (maxSteps := 999999) [-selQ_sel]
theorem spec_l01Below_ok0 (hm : Try.prog.follows .mixedOrders = true) (k_spec_l01Byte : Sound Try.prog 106 spec_l01Byte_x) : Sound Try.prog 107 spec_l01Below_x := by
 refine xOf_sound fun q r h => ?_
 obtain ⟨a0, a1⟩ := q
 refine fn_ok E0 hm Try.func107 rfl (by decide +kernel) (by rfl) fun Γ hn hk => ?_
 dsimp only [spec_l01Below_e, spec_l01Below_v]
 replace hn : Γ.n = 37 := hn
 replace hk : Γ.k = 1 := hk
 have H : HS (spec_l01Below a0 a1) r := h
 clear h; unfold spec_l01Below at H
 try simp -implicitDefEqProofs at H
 refine Tr.of_vc (cl := tabC [(106, spec_l01Byte_x)]) (E := E0) [] (tab_cons k_spec_l01Byte tab_nil) hm (by rw [hn]; decide +kernel) ?_
 try simp -implicitDefEqProofs (maxSteps := 999999) [-selQ_sel]
 refine Hid.brV (fun h_1 => ?_) (fun h_1 => ?_)
 ·replace H := HS.cnd_t h_1 H
  try simp -implicitDefEqProofs (maxSteps := 999999) [-selQ_sel, h_1]
  have hr := (HS.some H).symm; subst hr
  refine Hid.mk ⟨_, Wk.refl _, ?_⟩
  try simp -implicitDefEqProofs (maxSteps := 999999) [-selQ_sel, h_1]
 ·replace H := HS.cnd_f h_1 H
  try simp -implicitDefEqProofs (maxSteps := 999999) [-selQ_sel, h_1]
  refine Hid.brV (fun h_2 => ?_) (fun h_2 => ?_)
  ·replace H := HS.cnd_t h_2 H
   try simp -implicitDefEqProofs (maxSteps := 999999) [-selQ_sel, h_1, h_2]
   obtain ⟨⟨w2, w3⟩, h_3, H⟩ := HS.bnd H
   dsimp only at H
   try simp -implicitDefEqProofs (maxSteps := 999999) [-selQ_sel, h_1, h_2, h_3]
   obtain ⟨h_4, H⟩ := HS.chkP H
   try simp -implicitDefEqProofs (maxSteps := 999999) [-selQ_sel, h_1, h_2, h_3, h_4]
   have hr := (HS.some H).symm; subst hr
   refine Hid.mk ⟨_, Wk.refl _, ?_⟩
   try simp -implicitDefEqProofs (maxSteps := 999999) [-selQ_sel, h_1, h_2, h_3, h_4]
  ·replace H := HS.cnd_f h_2 H
   try simp -implicitDefEqProofs (maxSteps := 999999) [-selQ_sel, h_1, h_2]
   obtain ⟨⟨w5, w6⟩, h_5, H⟩ := HS.bnd H
   dsimp only at H
   try simp -implicitDefEqProofs (maxSteps := 999999) [-selQ_sel, h_1, h_2, h_5]
   obtain ⟨⟨w8, w9⟩, h_6, H⟩ := HS.bnd H
   dsimp only at H
   try simp -implicitDefEqProofs (maxSteps := 999999) [-selQ_sel, h_1, h_2, h_5, h_6]
   obtain ⟨⟨w11, w12⟩, h_7, H⟩ := HS.bnd H
   dsimp only at H
   try simp -implicitDefEqProofs (maxSteps := 999999) [-selQ_sel, h_1, h_2, h_5, h_6, h_7]
   obtain ⟨⟨w14, w15⟩, h_8, H⟩ := HS.bnd H
   dsimp only at H
   try simp -implicitDefEqProofs (maxSteps := 999999) [-selQ_sel, h_1, h_2, h_5, h_6, h_7, h_8]
   obtain ⟨h_9, H⟩ := HS.chkP H
   try simp -implicitDefEqProofs (maxSteps := 999999) [-selQ_sel, h_1, h_2, h_5, h_6, h_7, h_8, h_9]
   have hr := (HS.some H).symm; subst hr
   refine Hid.mk ⟨_, Wk.refl _, ?_⟩
   try simp -implicitDefEqProofs (maxSteps := 999999) [-selQ_sel, h_1, h_2, h_5, h_6, h_7, h_8, h_9]
theorem spec_DrawPlaceNode_ok0 (hm : Try.prog.follows .mixedOrders = true) (k_spec_l01New : Sound Try.prog 104 spec_l01New_x) (k_spec_l15Any : Sound Try.prog 129 spec_l15Any_x) (k_spec_l01Place : Sound Try.prog 130 spec_l01Place_x) (k_spec_l01Below : Sound Try.prog 107 spec_l01Below_x) : Sound Try.prog 54 spec_DrawPlaceNode_x := by
 refine xOf_sound fun q r h => ?_
 revert h; revert r; revert q; intro a0 r h
 refine fn_ok E0 hm Try.func54 rfl (by decide +kernel) (by rfl) fun Γ hn hk => ?_
 dsimp only [spec_DrawPlaceNode_e, spec_DrawPlaceNode_v]
 replace hn : Γ.n = 17 := hn
 replace hk : Γ.k = 0 := hk
 have H : HS (spec_DrawPlaceNode a0) r := h
 clear h; unfold spec_DrawPlaceNode at H
 try simp -implicitDefEqProofs at H
 refine Tr.of_vc (cl := tabC [(104, spec_l01New_x), (129, spec_l15Any_x), (130, spec_l01Place_x), (107, spec_l01Below_x)]) (E := E0) [] (tab_cons k_spec_l01New (tab_cons k_spec_l15Any (tab_cons k_spec_l01Place (tab_cons k_spec_l01Below tab_nil)))) hm (by rw [hn]; decide +kernel) ?_
 try simp -implicitDefEqProofs (maxSteps := 999999) [-selQ_sel]
 obtain ⟨v1, h_1, H⟩ := HS.bnd H
 try simp -implicitDefEqProofs (maxSteps := 999999) [-selQ_sel, h_1]
 obtain ⟨⟨w3, w4⟩, h_2, H⟩ := HS.bnd H
 dsimp only at H
 try simp -implicitDefEqProofs (maxSteps := 999999) [-selQ_sel, h_1, h_2]
 obtain ⟨⟨w6, w7⟩, h_3, H⟩ := HS.bnd H
 dsimp only at H
 try simp -implicitDefEqProofs (maxSteps := 999999) [-selQ_sel, h_1, h_2, h_3]
 obtain ⟨⟨w9, w10⟩, h_4, H⟩ := HS.bnd H
 dsimp only at H
 try simp -implicitDefEqProofs (maxSteps := 999999) [-selQ_sel, h_1, h_2, h_3, h_4]
 obtain ⟨⟨w12, w13⟩, h_5, H⟩ := HS.bnd H
 dsimp only at H
 try simp -implicitDefEqProofs (maxSteps := 999999) [-selQ_sel, h_1, h_2, h_3, h_4, h_5]
 have hr := (HS.some H).symm; subst hr
 refine Hid.mk ⟨_, Wk.refl _, ?_⟩
 try simp -implicitDefEqProofs (maxSteps := 999999) [-selQ_sel, h_1, h_2, h_3, h_4, h_5]
theorem spec_l12Color_ok0 (hm : Try.prog.follows .mixedOrders = true) (k_spec_l01Below : Sound Try.prog 107 spec_l01Below_x) (k_spec_l01PickInt : Sound Try.prog 171 spec_l01PickInt_x) : Sound Try.prog 216 spec_l12Color_x := by
 refine xOf_sound fun q r h => ?_
 revert h; revert r; revert q; intro a0 r h
 refine fn_ok E0 hm Try.func216 rfl (by decide +kernel) (by rfl) fun Γ hn hk => ?_
 dsimp only [spec_l12Color_e, spec_l12Color_v]
 replace hn : Γ.n = 15 := hn
 replace hk : Γ.k = 1 := hk
 have H : HS (spec_l12Color a0) r := h
 clear h; unfold spec_l12Color at H
 try simp -implicitDefEqProofs at H
 refine Tr.of_vc (cl := tabC [(107, spec_l01Below_x), (171, spec_l01PickInt_x)]) (E := E0) [] (tab_cons k_spec_l01Below (tab_cons k_spec_l01PickInt tab_nil)) hm (by rw [hn]; decide +kernel) ?_
 try simp -implicitDefEqProofs (maxSteps := 999999) [-selQ_sel]
 obtain ⟨⟨w2, w3⟩, h_1, H⟩ := HS.bnd H
 dsimp only at H
 try simp -implicitDefEqProofs (maxSteps := 999999) [-selQ_sel, h_1]
 obtain ⟨⟨w5, w6⟩, h_2, H⟩ := HS.bnd H
 dsimp only at H
 try simp -implicitDefEqProofs (maxSteps := 999999) [-selQ_sel, h_1, h_2]
 obtain ⟨⟨w8, w9⟩, h_3, H⟩ := HS.bnd H
 dsimp only at H
 try simp -implicitDefEqProofs (maxSteps := 999999) [-selQ_sel, h_1, h_2, h_3]
 obtain ⟨⟨w11, w12⟩, h_4, H⟩ := HS.bnd H
 dsimp only at H
 have k_5 := spec_l01PickInt_k w9.b w9.i w9.h [255, 255, 128, 0, 1, 200]
 simp -implicitDefEqProofs [-spec_l01PickInt_k] at k_5
 try simp -implicitDefEqProofs (maxSteps := 999999) [-selQ_sel, h_1, h_2, h_3, h_4, k_5]
 have hr := (HS.some H).symm; subst hr
 refine Hid.mk ⟨_, Wk.refl _, ?_⟩
 try simp -implicitDefEqProofs (maxSteps := 999999) [-selQ_sel, h_1, h_2, h_3, h_4, k_5]
theorem spec_l15CopyNode_ok0 (hm : Try.prog.follows .mixedOrders = true) (k_spec_l15CopyPath : Sound Try.prog 189 spec_l15CopyPath_x) : Sound Try.prog 121 spec_l15CopyNode_x := by
 refine xOf_sound fun q r h => ?_
 revert h; revert r; revert q; intro a0 r h
 refine fn_ok E0 hm Try.func121 rfl (by decide +kernel) (by rfl) fun Γ hn hk => ?_
 dsimp only [spec_l15CopyNode_e, spec_l15CopyNode_v]
 replace hn : Γ.n = 17 := hn
 replace hk : Γ.k = 0 := hk
 have H : HS (spec_l15CopyNode a0) r := h
 clear h; unfold spec_l15CopyNode at H
 try simp -implicitDefEqProofs at H
 refine Tr.of_vc (cl := tabC [(189, spec_l15CopyPath_x)]) (E := E0) [] (tab_cons k_spec_l15CopyPath tab_nil) hm (by rw [hn]; decide +kernel) ?_
 try simp -implicitDefEqProofs (maxSteps := 999999) [-selQ_sel]
 obtain ⟨v1, h_1, H⟩ := HS.bnd H
 try simp -implicitDefEqProofs (maxSteps := 999999) [-selQ_sel, h_1]
 obtain ⟨v2, h_2, H⟩ := HS.bnd H
 try simp -implicitDefEqProofs (maxSteps := 999999) [-selQ_sel, h_1, h_2]
 obtain ⟨h_3, H⟩ := HS.chkP H
 try simp -implicitDefEqProofs (maxSteps := 999999) [-selQ_sel, h_1, h_2, h_3]
 obtain ⟨l3, h_4, H⟩ := HS.nam H
 have m_5 := congrArg (List.map (AV.int .i64)) h_4
 have q_6 := congrArg List.length h_4
 simp -implicitDefEqProofs at m_5 q_6
 try simp only [q_6] at m_5
 try simp only [q_6] at h_3
 try simp -implicitDefEqProofs (maxSteps := 999999) [-selQ_sel, h_1, h_2, h_3, m_5, q_6]
 have hr := (HS.some H).symm; subst hr
 refine Hid.mk ⟨_, Wk.refl _, ?_⟩
 try simp -implicitDefEqProofs (maxSteps := 999999) [-selQ_sel, h_1, h_2, h_3, m_5, q_6]
theorem slices_Clone_int_ok0 (hm : Try.prog.follows .mixedOrders = true) : Sound Try.prog 165 slices_Clone_int_x := by
 refine xOf_sound fun q r h => ?_
 revert h; revert r; revert q; intro a0 r h
 refine fn_ok E0 hm Try.func165 rfl (by decide +kernel) (by rfl) fun Γ hn hk => ?_
 dsimp only [slices_Clone_int_e, slices_Clone_int_v]
 replace hn : Γ.n = 8 := hn
 replace hk : Γ.k = 0 := hk
 have H : HS (slices_Clone_int a0) r := h
 clear h; unfold slices_Clone_int at H
 obtain ⟨h_1, H⟩ := HS.chkP H
 have hr := (HS.some H).symm; subst hr
 refine Tr.of_vc (cl := tabC []) (E := E0) [1] tab_nil hm (by rw [hn]; decide +kernel) ?_
 simp -implicitDefEqProofs [-selQ_sel]
 refine Hid.mk (Tr_nil (E := E0) tab_nil (h1 := rfl) (hd1 := fun d h => by cases h; rw [hn]; decide) (ho := rfl) (hg := rfl) (hd := rfl) (hdn := by rw [hn]; decide) (hu := elt_36) (hx := rfl) fun b hb => ?_)
 refine Tr.of_vc (cl := tabC []) (E := E0) [] tab_nil hm (by rw [hn]; decide +kernel) ?_
 simp -implicitDefEqProofs [-selQ_sel, aft, putT]
 refine Hid.brV (fun h_2 => ?_) (fun h_2 => ?_)
 ·simp -implicitDefEqProofs [-selQ_sel]
  have h_3 := hb h_2; simp at h_3; subst h_3
  refine Hid.mk ⟨_, Wk.refl _, ?_⟩
  simp -implicitDefEqProofs [-selQ_sel, h_1]
  refine ⟨_, Wk.refl _, ?_⟩
  simp -implicitDefEqProofs [-selQ_sel, h_1]
 ·simp -implicitDefEqProofs [-selQ_sel]
  refine Hid.mk ⟨_, Wk.refl _, ?_⟩
  simp -implicitDefEqProofs [-selQ_sel, h_1]
  refine ⟨_, Wk.refl _, ?_⟩
  simp -implicitDefEqProofs [-selQ_sel, h_1]
theorem spec_l01Byte_ok0 (hm : Try.prog.follows .mixedOrders = true) : Sound Try.prog 106 spec_l01Byte_x := by
 refine xOf_sound fun q r h => ?_
 revert h; revert r; revert q; intro a0 r h
 refine fn_ok E0 hm Try.func106 rfl (by decide +kernel) (by rfl) fun Γ hn hk => ?_
 dsimp only [spec_l01Byte_e, spec_l01Byte_v]
 replace hn : Γ.n = 58 := hn
 replace hk : Γ.k = 1 := hk
 have H : HS (spec_l01Byte a0) r := h
 clear h; unfold spec_l01Byte at H
 try simp -implicitDefEqProofs at H
 refine Tr.of_vc (cl := tabC []) (E := E0) [] tab_nil hm (by rw [hn]; decide +kernel) ?_
 try simp -implicitDefEqProofs +decide (maxSteps := 999999) [-selQ_sel, hokQ_of]
 refine Hid.brV (fun h_1 => ?_) (fun h_1 => ?_)
 ·replace H := HS.cnd_t h_1 H
  try simp -implicitDefEqProofs +decide (maxSteps := 999999) [-selQ_sel, hokQ_of, h_1]
  have hr := (HS.some H).symm; subst hr
  refine Hid.mk ⟨_, Wk.refl _, ?_⟩
  try simp -implicitDefEqProofs +decide (maxSteps := 999999) [-selQ_sel, hokQ_of, h_1]
 ·replace H := HS.cnd_f h_1 H
  try simp -implicitDefEqProofs +decide (maxSteps := 999999) [-selQ_sel, hokQ_of, h_1]
  obtain ⟨v1, h_2, H⟩ := HS.bnd H
  try simp -implicitDefEqProofs +decide (maxSteps := 999999) [-selQ_sel, hokQ_of, h_1, h_2]
  have hr := (HS.some H).symm; subst hr
  refine Hid.mk ⟨_, Wk.refl _, ?_⟩
  try simp -implicitDefEqProofs +decide (maxSteps := 999999) [-selQ_sel, hokQ_of, h_1, h_2]
theorem spec_l15NoPath_ok0 (hm : Try.prog.follows .mixedOrders = true) : Sound Try.prog 186 spec_l15NoPath_x := by
 refine xOf_sound fun q r h => ?_
 revert h; revert r; revert q; intro a0 r h
 refine fn_ok E0 hm Try.func186 rfl (by decide +kernel) (by rfl) fun Γ hn hk => ?_
 dsimp only [spec_l15NoPath_e, spec_l15NoPath_v]
 replace hn : Γ.n = 13 := hn
 replace hk : Γ.k = 0 := hk
 have H : HS (spec_l15NoPath a0) r := h
 clear h; unfold spec_l15NoPath at H
 try simp -implicitDefEqProofs at H
 refine Tr.of_vc (cl := tabC []) (E := E0) [] tab_nil hm (by rw [hn]; decide +kernel) ?_
 try simp -implicitDefEqProofs (maxSteps := 999999) [-selQ_sel]
 refine Hid.selQ (fun h_1 => ?_) (fun h_1 => ?_)
 ·replace H := HS.cnd_t h_1 H
  try simp -implicitDefEqProofs (maxSteps := 999999) [-selQ_sel, h_1]
  have hr := (HS.some H).symm; subst hr
  refine Hid.mk ⟨_, Wk.refl _, ?_⟩
  try simp -implicitDefEqProofs (maxSteps := 999999) [-selQ_sel, h_1]
 ·replace H := HS.cnd_f h_1 H
  try simp -implicitDefEqProofs (maxSteps := 999999) [-selQ_sel, h_1]
  have hr := (HS.some H).symm; subst hr
  refine Hid.mk ⟨_, Wk.refl _, ?_⟩
  try simp -implicitDefEqProofs (maxSteps := 999999) [-selQ_sel, h_1]
theorem spec_l01PickInt_ok0 (hm : Try.prog.follows .mixedOrders = true) (k_spec_l01Below : Sound Try.prog 107 spec_l01Below_x) : Sound Try.prog 171 spec_l01PickInt_x := by
 refine xOf_sound fun q r h => ?_
 obtain ⟨a0, a1⟩ := q
 refine fn_ok E0 hm Try.func171 rfl (by decide +kernel) (by rfl) fun Γ hn hk => ?_
 dsimp only [spec_l01PickInt_e, spec_l01PickInt_v]
 replace hn : Γ.n = 12 := hn
 replace hk : Γ.k = 2 := hk
 have H : HS (spec_l01PickInt a0 a1) r := h
 clear h; unfold spec_l01PickInt at H
 try simp -implicitDefEqProofs at H
 refine Tr.of_vc (cl := tabC [(107, spec_l01Below_x)]) (E := E0) [] (tab_cons k_spec_l01Below tab_nil) hm (by rw [hn]; decide +kernel) ?_
 try simp -implicitDefEqProofs (maxSteps := 999999) [-selQ_sel]
 obtain ⟨⟨w2, w3⟩, h_1, H⟩ := HS.bnd H
 dsimp only at H
 try simp -implicitDefEqProofs (maxSteps := 999999) [-selQ_sel, h_1]
 obtain ⟨v4, h_2, H⟩ := HS.bnd H
 have g_3 := idx_get h_2
 try simp -implicitDefEqProofs (maxSteps := 999999) [-selQ_sel, h_1, h_2, g_3]
 have hr := (HS.some H).symm; subst hr
 refine Hid.mk ⟨_, Wk.refl _, ?_⟩
 try simp -implicitDefEqProofs (maxSteps := 999999) [-selQ_sel, h_1, h_2, g_3]
theorem slices_Contains_int_ok0 (hm : Try.prog.follows .mixedOrders = true) (k_slices_Index_int : Sound Try.prog 159 slices_Index_int_x) : Sound Try.prog 85 slices_Contains_int_x := by
 refine xOf_sound fun q r h => ?_
 obtain ⟨a0, a1⟩ := q
 refine fn_ok E0 hm Try.func85 rfl (by decide +kernel) (by rfl) fun Γ hn hk => ?_
 dsimp only [slices_Contains_int_e, slices_Contains_int_v]
 replace hn : Γ.n = 9 := hn
 replace hk : Γ.k = 0 := hk
 have H : HS (slices_Contains_int a0 a1) r := h
 clear h; unfold slices_Contains_int at H
 try simp -implicitDefEqProofs at H
 refine Tr.of_vc (cl := tabC [(159, slices_Index_int_x)]) (E := E0) [] (tab_cons k_slices_Index_int tab_nil) hm (by rw [hn]; decide +kernel) ?_
 try simp -implicitDefEqProofs (maxSteps := 999999) [-selQ_sel]
 obtain ⟨v1, h_1, H⟩ := HS.bnd H
 try simp -implicitDefEqProofs (maxSteps := 999999) [-selQ_sel, h_1]
 have hr := (HS.some H).symm; subst hr
 refine Hid.mk ⟨_, Wk.refl _, ?_⟩
 try simp -implicitDefEqProofs (maxSteps := 999999) [-selQ_sel, h_1]
theorem spec_l01Once_ok0 (hm : Try.prog.follows .mixedOrders = true) (k_spec_l01Below : Sound Try.prog 107 spec_l01Below_x) : Sound Try.prog 170 spec_l01Once_x := by
 refine xOf_sound fun q r h => ?_
 obtain ⟨a0, a1⟩ := q
 refine fn_ok E0 hm Try.func170 rfl (by decide +kernel) (by rfl) fun Γ hn hk => ?_
 dsimp only [spec_l01Once_e, spec_l01Once_v]
 replace hn : Γ.n = 9 := hn
 replace hk : Γ.k = 1 := hk
 have H : HS (spec_l01Once a0 a1) r := h
 clear h; unfold spec_l01Once at H
 try simp -implicitDefEqProofs at H
 refine Tr.of_vc (cl := tabC [(107, spec_l01Below_x)]) (E := E0) [] (tab_cons k_spec_l01Below tab_nil) hm (by rw [hn]; decide +kernel) ?_
 try simp -implicitDefEqProofs (maxSteps := 999999) [-selQ_sel]
 obtain ⟨⟨w2, w3⟩, h_1, H⟩ := HS.bnd H
 dsimp only at H
 try simp -implicitDefEqProofs (maxSteps := 999999) [-selQ_sel, h_1]
 have hr := (HS.some H).symm; subst hr
 refine Hid.mk ⟨_, Wk.refl _, ?_⟩
 try simp -implicitDefEqProofs (maxSteps := 999999) [-selQ_sel, h_1]
theorem spec_l15NoPaint_ok0 (hm : Try.prog.follows .mixedOrders = true) : Sound Try.prog 187 spec_l15NoPaint_x := by
 refine xOf_sound fun q r h => ?_
 revert h; revert r; revert q; intro a0 r h
 refine fn_ok E0 hm Try.func187 rfl (by decide +kernel) (by rfl) fun Γ hn hk => ?_
 dsimp only [spec_l15NoPaint_e, spec_l15NoPaint_v]
 replace hn : Γ.n = 6 := hn
 replace hk : Γ.k = 0 := hk
 have H : HS (spec_l15NoPaint a0) r := h
 clear h; unfold spec_l15NoPaint at H
 try simp -implicitDefEqProofs at H
 refine Tr.of_vc (cl := tabC []) (E := E0) [] tab_nil hm (by rw [hn]; decide +kernel) ?_
 try simp -implicitDefEqProofs (maxSteps := 999999) [-selQ_sel]
 have hr := (HS.some H).symm; subst hr
 refine Hid.mk ⟨_, Wk.refl _, ?_⟩
 try simp -implicitDefEqProofs (maxSteps := 999999) [-selQ_sel]
theorem laws_big_ok0 (hm : Try.prog.follows .mixedOrders = true) : Sound Try.prog 38 laws_big_x := by
 refine xOf_sound fun q r h => ?_
 revert h; revert r; revert q; intro a0 r h
 refine fn_ok E0 hm Try.func38 rfl (by decide +kernel) (by rfl) fun Γ hn hk => ?_
 dsimp only [laws_big_e, laws_big_v]
 replace hn : Γ.n = 6 := hn
 replace hk : Γ.k = 0 := hk
 have H : HS (laws_big a0) r := h
 clear h; unfold laws_big at H
 try simp -implicitDefEqProofs at H
 refine Tr.of_vc (cl := tabC []) (E := E0) [] tab_nil hm (by rw [hn]; decide +kernel) ?_
 try simp -implicitDefEqProofs (maxSteps := 999999) [-selQ_sel]
 have hr := (HS.some H).symm; subst hr
 refine Hid.mk ⟨_, Wk.refl _, ?_⟩
 try simp -implicitDefEqProofs (maxSteps := 999999) [-selQ_sel]
end Go.Proofs.Ytafljhadfoaceaa.Am
