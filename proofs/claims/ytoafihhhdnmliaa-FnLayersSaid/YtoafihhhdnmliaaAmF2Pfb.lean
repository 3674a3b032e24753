import Derived.Test.YtoafihhhdnmliaaAmF2Mo
set_option linter.unusedVariables false
set_option linter.unusedSimpArgs false
set_option linter.unusedSectionVars false
namespace Go.Proofs.Ytoafihhhdnmliaa.Am
open Go Go.Proofs
set_option maxRecDepth 100000
set_option linter.unusedSimpArgs false
set_option linter.unusedVariables false
set_option maxHeartbeats 4000000
theorem spec_FlatOf_ok0 (hm : Try.prog.follows .mixedOrders = true) (k_spec_PathOk : Sound Try.prog 204 spec_PathOk_x) (k_spec_NeedOf : Sound Try.prog 224 spec_NeedOf_x) (k_spec_QuadAt : Sound Try.prog 222 spec_QuadAt_x) (k_spec_CubicAt : Sound Try.prog 223 spec_CubicAt_x) : Sound Try.prog 182 spec_FlatOf_x := by
  refine xOf_sound fun q r h => ?_
  revert h; revert r; revert q; intro a0 r h
  refine fn_ok E0 hm Try.func182 rfl (by decide +kernel) (by rfl) fun Γ hn hk => ?_
  dsimp only [spec_FlatOf_e, spec_FlatOf_v]
  replace hn : Γ.n = 151 := hn
  replace hk : Γ.k = 0 := hk
  have H : HS (spec_FlatOf a0) r := h
  clear h; unfold spec_FlatOf at H
  try simp -implicitDefEqProofs at H
  refine Tr.of_vc (cl := tabC [(204, spec_PathOk_x), (224, spec_NeedOf_x), (222, spec_QuadAt_x), (223, spec_CubicAt_x)]) (E := E0) [] (tab_cons k_spec_PathOk (tab_cons k_spec_NeedOf (tab_cons k_spec_QuadAt (tab_cons k_spec_CubicAt tab_nil)))) hm (by rw [hn]; decide +kernel) ?_
  try simp -implicitDefEqProofs +decide (maxSteps := 2000000) [-selQ_sel, hokQ_of]
  obtain ⟨v1, h_1, H⟩ := HS.bnd H
  try simp -implicitDefEqProofs +decide (maxSteps := 2000000) [-selQ_sel, hokQ_of, h_1]
  refine Hid.brV (fun h_2 => ?_) (fun h_2 => ?_)
  · replace H := HS.cnd_t h_2 H
    try simp -implicitDefEqProofs +decide (maxSteps := 2000000) [-selQ_sel, hokQ_of, h_1, h_2]
    obtain ⟨q, h_3, H⟩ := HS.bnd H
    refine Hid.mk (Tr.weak (s' := (spec_FlatOf_l2_S a0) (0, 0, [], [])) (Wk.ofk [0, 1, 2] hk (by rfl) (by simp -implicitDefEqProofs [spec_FlatOf_l2_S, h_1, h_2]) (by simp -implicitDefEqProofs [spec_FlatOf_l2_S, h_1, h_2])) ?_)
    refine wp_loop_of (S := (spec_FlatOf_l2_S a0)) (f := (spec_FlatOf_l2 a0)) (xt := (spec_FlatOf_l2_X a0)) ?_ ?_ h_3 ?_
    · intro q; rcases q with ⟨y83, y84⟩ <;> simp [spec_FlatOf_l2_X]
    · clear H h_3 q
      rintro ⟨x36, x37, x38, x39⟩ o R hf hR
      have H : HS (spec_FlatOf_l2 a0 (x36, x37, x38, x39)) o := hf
      clear hf; unfold spec_FlatOf_l2 at H
      try simp -implicitDefEqProofs at H
      refine Tr.of_vc (cl := tabC [(204, spec_PathOk_x), (224, spec_NeedOf_x), (222, spec_QuadAt_x), (223, spec_CubicAt_x)]) (E := E0) [] (tab_cons k_spec_PathOk (tab_cons k_spec_NeedOf (tab_cons k_spec_QuadAt (tab_cons k_spec_CubicAt tab_nil)))) hm (by rw [hn]; decide +kernel) ?_
      try simp -implicitDefEqProofs +decide (maxSteps := 2000000) [-selQ_sel, hokQ_of, spec_FlatOf_l2_S]
      refine Hid.brV (fun h_4 => ?_) (fun h_4 => ?_)
      · replace H := HS.cnd_t h_4 H
        try simp -implicitDefEqProofs +decide (maxSteps := 2000000) [-selQ_sel, hokQ_of, h_4]
        have hr := (HS.some H).symm; subst hr
        exact Hid.mk ⟨(spec_FlatOf_l2_X a0 (x39, x38)).2, Wk.ofk [1, 2] hk (by rfl) (by simp -implicitDefEqProofs [spec_FlatOf_l2_X, h_4]) (by simp -implicitDefEqProofs [spec_FlatOf_l2_X, h_4]), hR⟩
      · replace H := HS.cnd_f h_4 H
        try simp -implicitDefEqProofs +decide (maxSteps := 2000000) [-selQ_sel, hokQ_of, h_4]
        obtain ⟨v40, h_5, H⟩ := HS.bnd H
        try simp -implicitDefEqProofs +decide (maxSteps := 2000000) [-selQ_sel, hokQ_of, h_4, h_5]
        refine Hid.brV (fun h_6 => ?_) (fun h_6 => ?_)
        · replace H := HS.cnd_t h_6 H
          try simp -implicitDefEqProofs +decide (maxSteps := 2000000) [-selQ_sel, hokQ_of, h_4, h_5, h_6]
          refine Hid.brV (fun h_7 => ?_) (fun h_7 => ?_)
          · replace H := HS.cnd_t h_7 H
            try simp -implicitDefEqProofs +decide (maxSteps := 2000000) [-selQ_sel, hokQ_of, h_4, h_5, h_6, h_7]
            obtain ⟨v41, h_8, H⟩ := HS.bnd H
            try simp -implicitDefEqProofs +decide (maxSteps := 2000000) [-selQ_sel, hokQ_of, h_4, h_5, h_6, h_7, h_8]
            obtain ⟨v42, h_9, H⟩ := HS.bnd H
            try simp -implicitDefEqProofs +decide (maxSteps := 2000000) [-selQ_sel, hokQ_of, h_4, h_5, h_6, h_7, h_8, h_9]
            have hr := (HS.some H).symm; subst hr
            exact Hid.mk ⟨spec_FlatOf_l2_S a0 ((IntKind.i64.wrap (x36 + v42)), (IntKind.i64.wrap (x37 + 1)), [v41], x39), Wk.ofk [0, 1, 3] hk (by rfl) (by simp -implicitDefEqProofs [spec_FlatOf_l2_S, h_4, h_5, h_6, h_7, h_8, h_9]) (by simp -implicitDefEqProofs [spec_FlatOf_l2_S, h_4, h_5, h_6, h_7, h_8, h_9]), hR⟩
          · replace H := HS.cnd_f h_7 H
            try simp -implicitDefEqProofs +decide (maxSteps := 2000000) [-selQ_sel, hokQ_of, h_4, h_5, h_6, h_7]
            obtain ⟨h_10, H⟩ := HS.chkP H
            try simp -implicitDefEqProofs +decide (maxSteps := 2000000) [-selQ_sel, hokQ_of, h_4, h_5, h_6, h_7, h_10]
            obtain ⟨l43, h_11, H⟩ := HS.nam H
            have m_12 := congrArg (List.map (eSl ePoint)) h_11
            have q_13 := congrArg List.length h_11
            simp -implicitDefEqProofs at m_12 q_13
            try simp only [q_13] at m_12
            try simp only [q_13] at h_10
            try simp -implicitDefEqProofs +decide (maxSteps := 2000000) [-selQ_sel, hokQ_of, h_4, h_5, h_6, h_7, h_10, m_12, q_13]
            obtain ⟨v44, h_14, H⟩ := HS.bnd H
            try simp -implicitDefEqProofs +decide (maxSteps := 2000000) [-selQ_sel, hokQ_of, h_4, h_5, h_6, h_7, h_10, m_12, q_13, h_14]
            obtain ⟨v45, h_15, H⟩ := HS.bnd H
            try simp -implicitDefEqProofs +decide (maxSteps := 2000000) [-selQ_sel, hokQ_of, h_4, h_5, h_6, h_7, h_10, m_12, q_13, h_14, h_15]
            have hr := (HS.some H).symm; subst hr
            exact Hid.mk ⟨spec_FlatOf_l2_S a0 ((IntKind.i64.wrap (x36 + v45)), (IntKind.i64.wrap (x37 + 1)), [v44], l43), Wk.ofk [0, 1, 4] hk (by rfl) (by simp -implicitDefEqProofs [spec_FlatOf_l2_S, h_4, h_5, h_6, h_7, h_10, m_12, q_13, h_14, h_15]) (by simp -implicitDefEqProofs [spec_FlatOf_l2_S, h_4, h_5, h_6, h_7, h_10, m_12, q_13, h_14, h_15]), hR⟩
        · replace H := HS.cnd_f h_6 H
          try simp -implicitDefEqProofs +decide (maxSteps := 2000000) [-selQ_sel, hokQ_of, h_4, h_5, h_6]
          refine Hid.brV (fun h_16 => ?_) (fun h_16 => ?_)
          · replace H := HS.cnd_t h_16 H
            try simp -implicitDefEqProofs +decide (maxSteps := 2000000) [-selQ_sel, hokQ_of, h_4, h_5, h_6, h_16]
            obtain ⟨v46, h_17, H⟩ := HS.bnd H
            try simp -implicitDefEqProofs +decide (maxSteps := 2000000) [-selQ_sel, hokQ_of, h_4, h_5, h_6, h_16, h_17]
            obtain ⟨h_18, H⟩ := HS.chkP H
            try simp -implicitDefEqProofs +decide (maxSteps := 2000000) [-selQ_sel, hokQ_of, h_4, h_5, h_6, h_16, h_17, h_18]
            obtain ⟨l47, h_19, H⟩ := HS.nam H
            have m_20 := congrArg (List.map ePoint) h_19
            have q_21 := congrArg List.length h_19
            simp -implicitDefEqProofs at m_20 q_21
            try simp only [q_21] at m_20
            try simp only [q_21] at h_18
            try simp -implicitDefEqProofs +decide (maxSteps := 2000000) [-selQ_sel, hokQ_of, h_4, h_5, h_6, h_16, h_17, h_18, m_20, q_21]
            obtain ⟨v48, h_22, H⟩ := HS.bnd H
            try simp -implicitDefEqProofs +decide (maxSteps := 2000000) [-selQ_sel, hokQ_of, h_4, h_5, h_6, h_16, h_17, h_18, m_20, q_21, h_22]
            have hr := (HS.some H).symm; subst hr
            exact Hid.mk ⟨spec_FlatOf_l2_S a0 ((IntKind.i64.wrap (x36 + v48)), (IntKind.i64.wrap (x37 + 1)), l47, x39), Wk.ofk [0, 1, 2] hk (by rfl) (by simp -implicitDefEqProofs [spec_FlatOf_l2_S, h_4, h_5, h_6, h_16, h_17, h_18, m_20, q_21, h_22]) (by simp -implicitDefEqProofs [spec_FlatOf_l2_S, h_4, h_5, h_6, h_16, h_17, h_18, m_20, q_21, h_22]), hR⟩
          · replace H := HS.cnd_f h_16 H
            try simp -implicitDefEqProofs +decide (maxSteps := 2000000) [-selQ_sel, hokQ_of, h_4, h_5, h_6, h_16]
            refine Hid.brV (fun h_23 => ?_) (fun h_23 => ?_)
            · replace H := HS.cnd_t h_23 H
              try simp -implicitDefEqProofs +decide (maxSteps := 2000000) [-selQ_sel, hokQ_of, h_4, h_5, h_6, h_16, h_23]
              obtain ⟨v49, h_24, H⟩ := HS.bnd H
              have g_25 := idx_get h_24
              try simp -implicitDefEqProofs +decide (maxSteps := 2000000) [-selQ_sel, hokQ_of, h_4, h_5, h_6, h_16, h_23, h_24, g_25]
              obtain ⟨q, h_26, H⟩ := HS.bnd H
              refine Hid.mk (Tr.weak (s' := (spec_FlatOf_l0_S a0 v49 x36 x37 x39) (1, x38)) (Wk.ofk [0, 1, 2, 3] hk (by rfl) (by simp -implicitDefEqProofs [spec_FlatOf_l0_S, h_4, h_5, h_6, h_16, h_23, h_24, g_25]) (by simp -implicitDefEqProofs [spec_FlatOf_l0_S, h_4, h_5, h_6, h_16, h_23, h_24, g_25])) ?_)
              refine wp_loop_of (S := (spec_FlatOf_l0_S a0 v49 x36 x37 x39)) (f := (spec_FlatOf_l0 a0 v49 x36 x37 x39)) (xt := (spec_FlatOf_l0_X a0 v49 x36 x37 x39)) ?_ ?_ h_26 ?_
              · intro q; simp [spec_FlatOf_l0_X]
              · clear H h_26 q
                rintro ⟨x54, x55⟩ o R hf hR
                have H : HS (spec_FlatOf_l0 a0 v49 x36 x37 x39 (x54, x55)) o := hf
                clear hf; unfold spec_FlatOf_l0 at H
                try simp -implicitDefEqProofs at H
                refine Tr.of_vc (cl := tabC [(204, spec_PathOk_x), (224, spec_NeedOf_x), (222, spec_QuadAt_x), (223, spec_CubicAt_x)]) (E := E0) [] (tab_cons k_spec_PathOk (tab_cons k_spec_NeedOf (tab_cons k_spec_QuadAt (tab_cons k_spec_CubicAt tab_nil)))) hm (by rw [hn]; decide +kernel) ?_
                try simp -implicitDefEqProofs +decide (maxSteps := 2000000) [-selQ_sel, hokQ_of, spec_FlatOf_l0_S]
                refine Hid.brV (fun h_27 => ?_) (fun h_27 => ?_)
                · replace H := HS.cnd_t h_27 H
                  try simp -implicitDefEqProofs +decide (maxSteps := 2000000) [-selQ_sel, hokQ_of, h_27]
                  obtain ⟨v56, h_28, H⟩ := HS.bnd H
                  try simp -implicitDefEqProofs +decide (maxSteps := 2000000) [-selQ_sel, hokQ_of, h_27, h_28]
                  obtain ⟨v57, h_29, H⟩ := HS.bnd H
                  try simp -implicitDefEqProofs +decide (maxSteps := 2000000) [-selQ_sel, hokQ_of, h_27, h_28, h_29]
                  obtain ⟨v58, h_30, H⟩ := HS.bnd H
                  try simp -implicitDefEqProofs +decide (maxSteps := 2000000) [-selQ_sel, hokQ_of, h_27, h_28, h_29, h_30]
                  obtain ⟨h_31, H⟩ := HS.chkP H
                  try simp -implicitDefEqProofs +decide (maxSteps := 2000000) [-selQ_sel, hokQ_of, h_27, h_28, h_29, h_30, h_31]
                  obtain ⟨l59, h_32, H⟩ := HS.nam H
                  have m_33 := congrArg (List.map ePoint) h_32
                  have q_34 := congrArg List.length h_32
                  simp -implicitDefEqProofs at m_33 q_34
                  try simp only [q_34] at m_33
                  try simp only [q_34] at h_31
                  try simp -implicitDefEqProofs +decide (maxSteps := 2000000) [-selQ_sel, hokQ_of, h_27, h_28, h_29, h_30, h_31, m_33, q_34]
                  have hr := (HS.some H).symm; subst hr
                  exact Hid.mk ⟨spec_FlatOf_l0_S a0 v49 x36 x37 x39 ((IntKind.i64.wrap (x54 + 1)), l59), Wk.ofk [0, 1, 2, 3] hk (by rfl) (by simp -implicitDefEqProofs [spec_FlatOf_l0_S, h_27, h_28, h_29, h_30, h_31, m_33, q_34]) (by simp -implicitDefEqProofs [spec_FlatOf_l0_S, h_27, h_28, h_29, h_30, h_31, m_33, q_34]), hR⟩
                · replace H := HS.cnd_f h_27 H
                  try simp -implicitDefEqProofs +decide (maxSteps := 2000000) [-selQ_sel, hokQ_of, h_27]
                  have hr := (HS.some H).symm; subst hr
                  exact Hid.mk ⟨(spec_FlatOf_l0_X a0 v49 x36 x37 x39 x55).2, Wk.ofk [0, 1, 2] hk (by rfl) (by simp -implicitDefEqProofs [spec_FlatOf_l0_X, h_27]) (by simp -implicitDefEqProofs [spec_FlatOf_l0_X, h_27]), hR⟩
              · revert H h_26; revert q; intro y60 h_26 H
                try dsimp only at H
                try simp -implicitDefEqProofs +decide (maxSteps := 2000000) [-selQ_sel, hokQ_of, h_4, h_5, h_6, h_16, h_23, h_24, g_25, spec_FlatOf_l0_X]
                obtain ⟨v61, h_35, H⟩ := HS.bnd H
                try simp -implicitDefEqProofs +decide (maxSteps := 2000000) [-selQ_sel, hokQ_of, h_4, h_5, h_6, h_16, h_23, h_24, g_25, h_35]
                have hr := (HS.some H).symm; subst hr
                exact Hid.mk ⟨spec_FlatOf_l2_S a0 ((IntKind.i64.wrap (x36 + v61)), (IntKind.i64.wrap (x37 + 1)), y60, x39), Wk.ofk [0, 1, 2] hk (by rfl) (by simp -implicitDefEqProofs [spec_FlatOf_l2_S, h_4, h_5, h_6, h_16, h_23, h_24, g_25, h_35]) (by simp -implicitDefEqProofs [spec_FlatOf_l2_S, h_4, h_5, h_6, h_16, h_23, h_24, g_25, h_35]), hR⟩
            · replace H := HS.cnd_f h_23 H
              try simp -implicitDefEqProofs +decide (maxSteps := 2000000) [-selQ_sel, hokQ_of, h_4, h_5, h_6, h_16, h_23]
              refine Hid.brV (fun h_36 => ?_) (fun h_36 => ?_)
              · replace H := HS.cnd_t h_36 H
                try simp -implicitDefEqProofs +decide (maxSteps := 2000000) [-selQ_sel, hokQ_of, h_4, h_5, h_6, h_16, h_23, h_36]
                obtain ⟨v62, h_37, H⟩ := HS.bnd H
                have g_38 := idx_get h_37
                try simp -implicitDefEqProofs +decide (maxSteps := 2000000) [-selQ_sel, hokQ_of, h_4, h_5, h_6, h_16, h_23, h_36, h_37, g_38]
                obtain ⟨q, h_39, H⟩ := HS.bnd H
                refine Hid.mk (Tr.weak (s' := (spec_FlatOf_l1_S a0 v62 x36 x37 x39) (1, x38)) (Wk.ofk [0, 1, 2, 3] hk (by rfl) (by simp -implicitDefEqProofs [spec_FlatOf_l1_S, h_4, h_5, h_6, h_16, h_23, h_36, h_37, g_38]) (by simp -implicitDefEqProofs [spec_FlatOf_l1_S, h_4, h_5, h_6, h_16, h_23, h_36, h_37, g_38])) ?_)
                refine wp_loop_of (S := (spec_FlatOf_l1_S a0 v62 x36 x37 x39)) (f := (spec_FlatOf_l1 a0 v62 x36 x37 x39)) (xt := (spec_FlatOf_l1_X a0 v62 x36 x37 x39)) ?_ ?_ h_39 ?_
                · intro q; simp [spec_FlatOf_l1_X]
                · clear H h_39 q
                  rintro ⟨x68, x69⟩ o R hf hR
                  have H : HS (spec_FlatOf_l1 a0 v62 x36 x37 x39 (x68, x69)) o := hf
                  clear hf; unfold spec_FlatOf_l1 at H
                  try simp -implicitDefEqProofs at H
                  refine Tr.of_vc (cl := tabC [(204, spec_PathOk_x), (224, spec_NeedOf_x), (222, spec_QuadAt_x), (223, spec_CubicAt_x)]) (E := E0) [] (tab_cons k_spec_PathOk (tab_cons k_spec_NeedOf (tab_cons k_spec_QuadAt (tab_cons k_spec_CubicAt tab_nil)))) hm (by rw [hn]; decide +kernel) ?_
                  try simp -implicitDefEqProofs +decide (maxSteps := 2000000) [-selQ_sel, hokQ_of, spec_FlatOf_l1_S]
                  refine Hid.brV (fun h_40 => ?_) (fun h_40 => ?_)
                  · replace H := HS.cnd_t h_40 H
                    try simp -implicitDefEqProofs +decide (maxSteps := 2000000) [-selQ_sel, hokQ_of, h_40]
                    obtain ⟨v70, h_41, H⟩ := HS.bnd H
                    try simp -implicitDefEqProofs +decide (maxSteps := 2000000) [-selQ_sel, hokQ_of, h_40, h_41]
                    obtain ⟨v71, h_42, H⟩ := HS.bnd H
                    try simp -implicitDefEqProofs +decide (maxSteps := 2000000) [-selQ_sel, hokQ_of, h_40, h_41, h_42]
                    obtain ⟨v72, h_43, H⟩ := HS.bnd H
                    try simp -implicitDefEqProofs +decide (maxSteps := 2000000) [-selQ_sel, hokQ_of, h_40, h_41, h_42, h_43]
                    obtain ⟨v73, h_44, H⟩ := HS.bnd H
                    try simp -implicitDefEqProofs +decide (maxSteps := 2000000) [-selQ_sel, hokQ_of, h_40, h_41, h_42, h_43, h_44]
                    obtain ⟨h_45, H⟩ := HS.chkP H
                    try simp -implicitDefEqProofs +decide (maxSteps := 2000000) [-selQ_sel, hokQ_of, h_40, h_41, h_42, h_43, h_44, h_45]
                    obtain ⟨l74, h_46, H⟩ := HS.nam H
                    have m_47 := congrArg (List.map ePoint) h_46
                    have q_48 := congrArg List.length h_46
                    simp -implicitDefEqProofs at m_47 q_48
                    try simp only [q_48] at m_47
                    try simp only [q_48] at h_45
                    try simp -implicitDefEqProofs +decide (maxSteps := 2000000) [-selQ_sel, hokQ_of, h_40, h_41, h_42, h_43, h_44, h_45, m_47, q_48]
                    have hr := (HS.some H).symm; subst hr
                    exact Hid.mk ⟨spec_FlatOf_l1_S a0 v62 x36 x37 x39 ((IntKind.i64.wrap (x68 + 1)), l74), Wk.ofk [0, 1, 2, 3] hk (by rfl) (by simp -implicitDefEqProofs [spec_FlatOf_l1_S, h_40, h_41, h_42, h_43, h_44, h_45, m_47, q_48]) (by simp -implicitDefEqProofs [spec_FlatOf_l1_S, h_40, h_41, h_42, h_43, h_44, h_45, m_47, q_48]), hR⟩
                  · replace H := HS.cnd_f h_40 H
                    try simp -implicitDefEqProofs +decide (maxSteps := 2000000) [-selQ_sel, hokQ_of, h_40]
                    have hr := (HS.some H).symm; subst hr
                    exact Hid.mk ⟨(spec_FlatOf_l1_X a0 v62 x36 x37 x39 x69).2, Wk.ofk [0, 1, 2] hk (by rfl) (by simp -implicitDefEqProofs [spec_FlatOf_l1_X, h_40]) (by simp -implicitDefEqProofs [spec_FlatOf_l1_X, h_40]), hR⟩
                · revert H h_39; revert q; intro y75 h_39 H
                  try dsimp only at H
                  try simp -implicitDefEqProofs +decide (maxSteps := 2000000) [-selQ_sel, hokQ_of, h_4, h_5, h_6, h_16, h_23, h_36, h_37, g_38, spec_FlatOf_l1_X]
                  obtain ⟨v76, h_49, H⟩ := HS.bnd H
                  try simp -implicitDefEqProofs +decide (maxSteps := 2000000) [-selQ_sel, hokQ_of, h_4, h_5, h_6, h_16, h_23, h_36, h_37, g_38, h_49]
                  have hr := (HS.some H).symm; subst hr
                  exact Hid.mk ⟨spec_FlatOf_l2_S a0 ((IntKind.i64.wrap (x36 + v76)), (IntKind.i64.wrap (x37 + 1)), y75, x39), Wk.ofk [0, 1, 2] hk (by rfl) (by simp -implicitDefEqProofs [spec_FlatOf_l2_S, h_4, h_5, h_6, h_16, h_23, h_36, h_37, g_38, h_49]) (by simp -implicitDefEqProofs [spec_FlatOf_l2_S, h_4, h_5, h_6, h_16, h_23, h_36, h_37, g_38, h_49]), hR⟩
              · replace H := HS.cnd_f h_36 H
                try simp -implicitDefEqProofs +decide (maxSteps := 2000000) [-selQ_sel, hokQ_of, h_4, h_5, h_6, h_16, h_23, h_36]
                refine Hid.brV (fun h_50 => ?_) (fun h_50 => ?_)
                · replace H := HS.cnd_t h_50 H
                  try simp -implicitDefEqProofs +decide (maxSteps := 2000000) [-selQ_sel, hokQ_of, h_4, h_5, h_6, h_16, h_23, h_36, h_50]
                  obtain ⟨v77, h_51, H⟩ := HS.bnd H
                  have g_52 := idx_get h_51
                  simp only [Int.reduceToNat] at g_52
                  try simp -implicitDefEqProofs +decide (maxSteps := 2000000) [-selQ_sel, hokQ_of, h_4, h_5, h_6, h_16, h_23, h_36, h_50, h_51, g_52]
                  obtain ⟨v78, h_53, H⟩ := HS.bnd H
                  have g_54 := idx_get h_53
                  try simp -implicitDefEqProofs +decide (maxSteps := 2000000) [-selQ_sel, hokQ_of, h_4, h_5, h_6, h_16, h_23, h_36, h_50, h_51, g_52, h_53, g_54]
                  refine Hid.brV (fun h_55 => ?_) (fun h_55 => ?_)
                  · replace H := HS.cnd_t h_55 H
                    try simp -implicitDefEqProofs +decide (maxSteps := 2000000) [-selQ_sel, hokQ_of, h_4, h_5, h_6, h_16, h_23, h_36, h_50, h_51, g_52, h_53, g_54, h_55]
                    obtain ⟨v79, h_56, H⟩ := HS.bnd H
                    try simp -implicitDefEqProofs +decide (maxSteps := 2000000) [-selQ_sel, hokQ_of, h_4, h_5, h_6, h_16, h_23, h_36, h_50, h_51, g_52, h_53, g_54, h_55, h_56]
                    have hr := (HS.some H).symm; subst hr
                    exact Hid.mk ⟨spec_FlatOf_l2_S a0 ((IntKind.i64.wrap (x36 + v79)), (IntKind.i64.wrap (x37 + 1)), x38, x39), Wk.ofk [0, 1, 2] hk (by rfl) (by simp -implicitDefEqProofs [spec_FlatOf_l2_S, h_4, h_5, h_6, h_16, h_23, h_36, h_50, h_51, g_52, h_53, g_54, h_55, h_56]) (by simp -implicitDefEqProofs [spec_FlatOf_l2_S, h_4, h_5, h_6, h_16, h_23, h_36, h_50, h_51, g_52, h_53, g_54, h_55, h_56]), hR⟩
                  · replace H := HS.cnd_f h_55 H
                    try simp -implicitDefEqProofs +decide (maxSteps := 2000000) [-selQ_sel, hokQ_of, h_4, h_5, h_6, h_16, h_23, h_36, h_50, h_51, g_52, h_53, g_54, h_55]
                    obtain ⟨h_57, H⟩ := HS.chkP H
                    try simp -implicitDefEqProofs +decide (maxSteps := 2000000) [-selQ_sel, hokQ_of, h_4, h_5, h_6, h_16, h_23, h_36, h_50, h_51, g_52, h_53, g_54, h_55, h_57]
                    obtain ⟨l80, h_58, H⟩ := HS.nam H
                    have m_59 := congrArg (List.map ePoint) h_58
                    have q_60 := congrArg List.length h_58
                    simp -implicitDefEqProofs at m_59 q_60
                    try simp only [q_60] at m_59
                    try simp only [q_60] at h_57
                    try simp -implicitDefEqProofs +decide (maxSteps := 2000000) [-selQ_sel, hokQ_of, h_4, h_5, h_6, h_16, h_23, h_36, h_50, h_51, g_52, h_53, g_54, h_55, h_57, m_59, q_60]
                    obtain ⟨v81, h_61, H⟩ := HS.bnd H
                    try simp -implicitDefEqProofs +decide (maxSteps := 2000000) [-selQ_sel, hokQ_of, h_4, h_5, h_6, h_16, h_23, h_36, h_50, h_51, g_52, h_53, g_54, h_55, h_57, m_59, q_60, h_61]
                    have hr := (HS.some H).symm; subst hr
                    exact Hid.mk ⟨spec_FlatOf_l2_S a0 ((IntKind.i64.wrap (x36 + v81)), (IntKind.i64.wrap (x37 + 1)), l80, x39), Wk.ofk [0, 1, 2] hk (by rfl) (by simp -implicitDefEqProofs [spec_FlatOf_l2_S, h_4, h_5, h_6, h_16, h_23, h_36, h_50, h_51, g_52, h_53, g_54, h_55, h_57, m_59, q_60, h_61]) (by simp -implicitDefEqProofs [spec_FlatOf_l2_S, h_4, h_5, h_6, h_16, h_23, h_36, h_50, h_51, g_52, h_53, g_54, h_55, h_57, m_59, q_60, h_61]), hR⟩
                · replace H := HS.cnd_f h_50 H
                  try simp -implicitDefEqProofs +decide (maxSteps := 2000000) [-selQ_sel, hokQ_of, h_4, h_5, h_6, h_16, h_23, h_36, h_50]
                  obtain ⟨v82, h_62, H⟩ := HS.bnd H
                  try simp -implicitDefEqProofs +decide (maxSteps := 2000000) [-selQ_sel, hokQ_of, h_4, h_5, h_6, h_16, h_23, h_36, h_50, h_62]
                  have hr := (HS.some H).symm; subst hr
                  exact Hid.mk ⟨spec_FlatOf_l2_S a0 ((IntKind.i64.wrap (x36 + v82)), (IntKind.i64.wrap (x37 + 1)), x38, x39), Wk.ofk [0, 1, 2] hk (by rfl) (by simp -implicitDefEqProofs [spec_FlatOf_l2_S, h_4, h_5, h_6, h_16, h_23, h_36, h_50, h_62]) (by simp -implicitDefEqProofs [spec_FlatOf_l2_S, h_4, h_5, h_6, h_16, h_23, h_36, h_50, h_62]), hR⟩
    · obtain ⟨y83, y84⟩ := q
      try dsimp only at H
      try simp -implicitDefEqProofs +decide (maxSteps := 2000000) [-selQ_sel, hokQ_of, h_1, h_2, spec_FlatOf_l2_X]
      refine Hid.brV (fun h_63 => ?_) (fun h_63 => ?_)
      · replace H := HS.cnd_t h_63 H
        try simp -implicitDefEqProofs +decide (maxSteps := 2000000) [-selQ_sel, hokQ_of, h_1, h_2, h_63]
        have hr := (HS.some H).symm; subst hr
        refine Hid.mk ⟨_, Wk.refl _, ?_⟩
        try simp -implicitDefEqProofs +decide (maxSteps := 2000000) [-selQ_sel, hokQ_of, h_1, h_2, h_63]
      · replace H := HS.cnd_f h_63 H
        try simp -implicitDefEqProofs +decide (maxSteps := 2000000) [-selQ_sel, hokQ_of, h_1, h_2, h_63]
        obtain ⟨h_64, H⟩ := HS.chkP H
        try simp -implicitDefEqProofs +decide (maxSteps := 2000000) [-selQ_sel, hokQ_of, h_1, h_2, h_63, h_64]
        obtain ⟨l85, h_65, H⟩ := HS.nam H
        have m_66 := congrArg (List.map (eSl ePoint)) h_65
        have q_67 := congrArg List.length h_65
        simp -implicitDefEqProofs at m_66 q_67
        try simp only [q_67] at m_66
        try simp only [q_67] at h_64
        try simp -implicitDefEqProofs +decide (maxSteps := 2000000) [-selQ_sel, hokQ_of, h_1, h_2, h_63, h_64, m_66, q_67]
        have hr := (HS.some H).symm; subst hr
        refine Hid.mk ⟨_, Wk.refl _, ?_⟩
        try simp -implicitDefEqProofs +decide (maxSteps := 2000000) [-selQ_sel, hokQ_of, h_1, h_2, h_63, h_64, m_66, q_67]
  · replace H := HS.cnd_f h_2 H
    try simp -implicitDefEqProofs +decide (maxSteps := 2000000) [-selQ_sel, hokQ_of, h_1, h_2]
    have hr := (HS.some H).symm; subst hr
    refine Hid.mk ⟨_, Wk.refl _, ?_⟩
    try simp -implicitDefEqProofs +decide (maxSteps := 2000000) [-selQ_sel, hokQ_of, h_1, h_2]
theorem spec_WindOf_ok0 (hm : Try.prog.follows .mixedOrders = true) (k_spec_l10Near : Sound Try.prog 247 spec_l10Near_x) : Sound Try.prog 245 spec_WindOf_x := by
  refine xOf_sound fun q r h => ?_
  obtain ⟨a0, a1⟩ := q
  refine fn_ok E0 hm Try.func245 rfl (by decide +kernel) (by rfl) fun Γ hn hk => ?_
  dsimp only [spec_WindOf_e, spec_WindOf_v]
  replace hn : Γ.n = 99 := hn
  replace hk : Γ.k = 0 := hk
  have H : HS (spec_WindOf a0 a1) r := h
  clear h; unfold spec_WindOf at H
  try simp -implicitDefEqProofs at H
  refine Tr.of_vc (cl := tabC [(247, spec_l10Near_x)]) (E := E0) [] (tab_cons k_spec_l10Near tab_nil) hm (by rw [hn]; decide +kernel) ?_
  try simp -implicitDefEqProofs (maxSteps := 2000000) [-selQ_sel]
  obtain ⟨v1, h_1, H⟩ := HS.bnd H
  try simp -implicitDefEqProofs (maxSteps := 2000000) [-selQ_sel, h_1]
  refine Hid.brV (fun h_2 => ?_) (fun h_2 => ?_)
  · replace H := HS.cnd_t h_2 H
    try simp -implicitDefEqProofs (maxSteps := 2000000) [-selQ_sel, h_1, h_2]
    obtain ⟨q, h_3, H⟩ := HS.bnd H
    refine Hid.mk (Tr.weak (s' := (spec_WindOf_l0_S a0 a1) (0, 0)) (Wk.ofk [0] hk (by rfl) (by simp -implicitDefEqProofs [spec_WindOf_l0_S, h_1, h_2]) (by simp -implicitDefEqProofs [spec_WindOf_l0_S, h_1, h_2])) ?_)
    refine wp_loop_of (S := (spec_WindOf_l0_S a0 a1)) (f := (spec_WindOf_l0 a0 a1)) (xt := (spec_WindOf_l0_X a0 a1)) ?_ ?_ h_3 ?_
    · intro q; rcases q with y12 | ⟨⟩ <;> simp [spec_WindOf_l0_X]
    · clear H h_3 q
      rintro ⟨x6, x7⟩ o R hf hR
      have H : HS (spec_WindOf_l0 a0 a1 (x6, x7)) o := hf
      clear hf; unfold spec_WindOf_l0 at H
      try simp -implicitDefEqProofs at H
      refine Tr.of_vc (cl := tabC [(247, spec_l10Near_x)]) (E := E0) [] (tab_cons k_spec_l10Near tab_nil) hm (by rw [hn]; decide +kernel) ?_
      try simp -implicitDefEqProofs (maxSteps := 2000000) [-selQ_sel, spec_WindOf_l0_S]
      refine Hid.brV (fun h_4 => ?_) (fun h_4 => ?_)
      · replace H := HS.cnd_t h_4 H
        try simp -implicitDefEqProofs (maxSteps := 2000000) [-selQ_sel, h_4]
        have hr := (HS.some H).symm; subst hr
        exact Hid.mk ⟨(spec_WindOf_l0_X a0 a1 (.inl x7)).2, Wk.ofk [] hk (by rfl) (by simp -implicitDefEqProofs [spec_WindOf_l0_X, h_4]) (by simp -implicitDefEqProofs [spec_WindOf_l0_X, h_4]), hR⟩
      · replace H := HS.cnd_f h_4 H
        try simp -implicitDefEqProofs (maxSteps := 2000000) [-selQ_sel, h_4]
        obtain ⟨v8, h_5, H⟩ := HS.bnd H
        try simp -implicitDefEqProofs (maxSteps := 2000000) [-selQ_sel, h_4, h_5]
        obtain ⟨h_6, H⟩ := HS.chkP H
        try simp -implicitDefEqProofs (maxSteps := 2000000) [-selQ_sel, h_4, h_5, h_6]
        obtain ⟨v9, h_7, H⟩ := HS.bnd H
        try simp -implicitDefEqProofs (maxSteps := 2000000) [-selQ_sel, h_4, h_5, h_6, h_7]
        obtain ⟨v10, h_8, H⟩ := HS.bnd H
        try simp -implicitDefEqProofs (maxSteps := 2000000) [-selQ_sel, h_4, h_5, h_6, h_7, h_8]
        refine Hid.selQ (fun h_9 => ?_) (fun h_9 => ?_)
        · replace H := HS.cnd_t h_9 H
          try simp -implicitDefEqProofs (maxSteps := 2000000) [-selQ_sel, h_4, h_5, h_6, h_7, h_8, h_9]
          obtain ⟨v11, h_10, H⟩ := HS.bnd H
          try simp -implicitDefEqProofs (maxSteps := 2000000) [-selQ_sel, h_4, h_5, h_6, h_7, h_8, h_9, h_10]
          refine Hid.brV (fun h_11 => ?_) (fun h_11 => ?_)
          · replace H := HS.cnd_t h_11 H
            try simp -implicitDefEqProofs (maxSteps := 2000000) [-selQ_sel, h_4, h_5, h_6, h_7, h_8, h_9, h_10, h_11]
            refine Hid.selQ (fun h_12 => ?_) (fun h_12 => ?_)
            · replace H := HS.cnd_t h_12 H
              try simp -implicitDefEqProofs (maxSteps := 2000000) [-selQ_sel, h_4, h_5, h_6, h_7, h_8, h_9, h_10, h_11, h_12]
              refine Hid.selQ (fun h_13 => ?_) (fun h_13 => ?_)
              · replace H := HS.cnd_t h_13 H
                try simp -implicitDefEqProofs (maxSteps := 2000000) [-selQ_sel, h_4, h_5, h_6, h_7, h_8, h_9, h_10, h_11, h_12, h_13]
                have hr := (HS.some H).symm; subst hr
                exact Hid.mk ⟨spec_WindOf_l0_S a0 a1 ((IntKind.i64.wrap (x6 + 1)), x7), Wk.ofk [0] hk (by rfl) (by simp -implicitDefEqProofs [spec_WindOf_l0_S, h_4, h_5, h_6, h_7, h_8, h_9, h_10, h_11, h_12, h_13]) (by simp -implicitDefEqProofs [spec_WindOf_l0_S, h_4, h_5, h_6, h_7, h_8, h_9, h_10, h_11, h_12, h_13]), hR⟩
              · replace H := HS.cnd_f h_13 H
                try simp -implicitDefEqProofs (maxSteps := 2000000) [-selQ_sel, h_4, h_5, h_6, h_7, h_8, h_9, h_10, h_11, h_12, h_13]
                refine Hid.brV (fun h_14 => ?_) (fun h_14 => ?_)
                · replace H := HS.cnd_t h_14 H
                  try simp -implicitDefEqProofs (maxSteps := 2000000) [-selQ_sel, h_4, h_5, h_6, h_7, h_8, h_9, h_10, h_11, h_12, h_13, h_14]
                  have hr := (HS.some H).symm; subst hr
                  exact Hid.mk ⟨spec_WindOf_l0_S a0 a1 ((IntKind.i64.wrap (x6 + 1)), x7), Wk.ofk [0] hk (by rfl) (by simp -implicitDefEqProofs [spec_WindOf_l0_S, h_4, h_5, h_6, h_7, h_8, h_9, h_10, h_11, h_12, h_13, h_14]) (by simp -implicitDefEqProofs [spec_WindOf_l0_S, h_4, h_5, h_6, h_7, h_8, h_9, h_10, h_11, h_12, h_13, h_14]), hR⟩
                · replace H := HS.cnd_f h_14 H
                  try simp -implicitDefEqProofs (maxSteps := 2000000) [-selQ_sel, h_4, h_5, h_6, h_7, h_8, h_9, h_10, h_11, h_12, h_13, h_14]
                  have hr := (HS.some H).symm; subst hr
                  exact Hid.mk ⟨spec_WindOf_l0_S a0 a1 ((IntKind.i64.wrap (x6 + 1)), (IntKind.i64.wrap (x7 + 1))), Wk.ofk [0] hk (by rfl) (by simp -implicitDefEqProofs [spec_WindOf_l0_S, h_4, h_5, h_6, h_7, h_8, h_9, h_10, h_11, h_12, h_13, h_14]) (by simp -implicitDefEqProofs [spec_WindOf_l0_S, h_4, h_5, h_6, h_7, h_8, h_9, h_10, h_11, h_12, h_13, h_14]), hR⟩
            · replace H := HS.cnd_f h_12 H
              try simp -implicitDefEqProofs (maxSteps := 2000000) [-selQ_sel, h_4, h_5, h_6, h_7, h_8, h_9, h_10, h_11, h_12]
              refine Hid.selQ (fun h_15 => ?_) (fun h_15 => ?_)
              · replace H := HS.cnd_t h_15 H
                try simp -implicitDefEqProofs (maxSteps := 2000000) [-selQ_sel, h_4, h_5, h_6, h_7, h_8, h_9, h_10, h_11, h_12, h_15]
                refine Hid.brV (fun h_16 => ?_) (fun h_16 => ?_)
                · replace H := HS.cnd_t h_16 H
                  try simp -implicitDefEqProofs (maxSteps := 2000000) [-selQ_sel, h_4, h_5, h_6, h_7, h_8, h_9, h_10, h_11, h_12, h_15, h_16]
                  have hr := (HS.some H).symm; subst hr
                  exact Hid.mk ⟨spec_WindOf_l0_S a0 a1 ((IntKind.i64.wrap (x6 + 1)), x7), Wk.ofk [0] hk (by rfl) (by simp -implicitDefEqProofs [spec_WindOf_l0_S, h_4, h_5, h_6, h_7, h_8, h_9, h_10, h_11, h_12, h_15, h_16]) (by simp -implicitDefEqProofs [spec_WindOf_l0_S, h_4, h_5, h_6, h_7, h_8, h_9, h_10, h_11, h_12, h_15, h_16]), hR⟩
                · replace H := HS.cnd_f h_16 H
                  try simp -implicitDefEqProofs (maxSteps := 2000000) [-selQ_sel, h_4, h_5, h_6, h_7, h_8, h_9, h_10, h_11, h_12, h_15, h_16]
                  have hr := (HS.some H).symm; subst hr
                  exact Hid.mk ⟨spec_WindOf_l0_S a0 a1 ((IntKind.i64.wrap (x6 + 1)), (IntKind.i64.wrap (x7 - 1))), Wk.ofk [0] hk (by rfl) (by simp -implicitDefEqProofs [spec_WindOf_l0_S, h_4, h_5, h_6, h_7, h_8, h_9, h_10, h_11, h_12, h_15, h_16]) (by simp -implicitDefEqProofs [spec_WindOf_l0_S, h_4, h_5, h_6, h_7, h_8, h_9, h_10, h_11, h_12, h_15, h_16]), hR⟩
              · replace H := HS.cnd_f h_15 H
                try simp -implicitDefEqProofs (maxSteps := 2000000) [-selQ_sel, h_4, h_5, h_6, h_7, h_8, h_9, h_10, h_11, h_12, h_15]
                have hr := (HS.some H).symm; subst hr
                exact Hid.mk ⟨spec_WindOf_l0_S a0 a1 ((IntKind.i64.wrap (x6 + 1)), x7), Wk.ofk [0] hk (by rfl) (by simp -implicitDefEqProofs [spec_WindOf_l0_S, h_4, h_5, h_6, h_7, h_8, h_9, h_10, h_11, h_12, h_15]) (by simp -implicitDefEqProofs [spec_WindOf_l0_S, h_4, h_5, h_6, h_7, h_8, h_9, h_10, h_11, h_12, h_15]), hR⟩
          · replace H := HS.cnd_f h_11 H
            try simp -implicitDefEqProofs (maxSteps := 2000000) [-selQ_sel, h_4, h_5, h_6, h_7, h_8, h_9, h_10, h_11]
            have hr := (HS.some H).symm; subst hr
            exact Hid.mk ⟨(spec_WindOf_l0_X a0 a1 (.inr ())).2, Wk.ofk [] hk (by rfl) (by simp -implicitDefEqProofs [spec_WindOf_l0_X, h_4, h_5, h_6, h_7, h_8, h_9, h_10, h_11]) (by simp -implicitDefEqProofs [spec_WindOf_l0_X, h_4, h_5, h_6, h_7, h_8, h_9, h_10, h_11]), hR⟩
        · replace H := HS.cnd_f h_9 H
          try simp -implicitDefEqProofs (maxSteps := 2000000) [-selQ_sel, h_4, h_5, h_6, h_7, h_8, h_9]
          have hr := (HS.some H).symm; subst hr
          exact Hid.mk ⟨(spec_WindOf_l0_X a0 a1 (.inr ())).2, Wk.ofk [] hk (by rfl) (by simp -implicitDefEqProofs [spec_WindOf_l0_X, h_4, h_5, h_6, h_7, h_8, h_9]) (by simp -implicitDefEqProofs [spec_WindOf_l0_X, h_4, h_5, h_6, h_7, h_8, h_9]), hR⟩
    · rcases q with y12 | ⟨⟩
      · dsimp only at H
        try simp -implicitDefEqProofs (maxSteps := 2000000) [-selQ_sel, h_1, h_2, spec_WindOf_l0_X]
        have hr := (HS.some H).symm; subst hr
        refine Hid.mk ⟨_, Wk.refl _, ?_⟩
        try simp -implicitDefEqProofs (maxSteps := 2000000) [-selQ_sel, h_1, h_2]
      · dsimp only at H
        try simp -implicitDefEqProofs (maxSteps := 2000000) [-selQ_sel, h_1, h_2, spec_WindOf_l0_X]
        have hr := (HS.some H).symm; subst hr
        refine Hid.mk ⟨_, Wk.refl _, ?_⟩
        try simp -implicitDefEqProofs (maxSteps := 2000000) [-selQ_sel, h_1, h_2]
  · replace H := HS.cnd_f h_2 H
    try simp -implicitDefEqProofs (maxSteps := 2000000) [-selQ_sel, h_1, h_2]
    have hr := (HS.some H).symm; subst hr
    refine Hid.mk ⟨_, Wk.refl _, ?_⟩
    try simp -implicitDefEqProofs (maxSteps := 2000000) [-selQ_sel, h_1, h_2]
theorem impl_Surface_paint_LayOver_1_ok0 (hm : Try.prog.follows .mixedOrders = true) (k_impl_Surface_box : Sound Try.prog 105 impl_Surface_box_x) (k_impl_MeetBox : Sound Try.prog 157 impl_MeetBox_x) (k_impl_LayOver_1 : Sound Try.prog 106 impl_LayOver_1_x) : Sound Try.prog 104 impl_Surface_paint_LayOver_1_x := by
  refine xOf_sound fun q r h => ?_
  obtain ⟨a0, a1, a2, a3, a4, a5, a6⟩ := q
  refine fn_ok E0 hm Try.func104 rfl (by decide +kernel) (by rfl) fun Γ hn hk => ?_
  dsimp only [impl_Surface_paint_LayOver_1_e, impl_Surface_paint_LayOver_1_v]
  replace hn : Γ.n = 51 := hn
  replace hk : Γ.k = 5 := hk
  have H : HS (impl_Surface_paint_LayOver_1 a0 a1 a2 a3 a4 a5 a6) r := h
  clear h; unfold impl_Surface_paint_LayOver_1 at H
  try simp -implicitDefEqProofs at H
  refine Tr.of_vc (cl := tabC [(105, impl_Surface_box_x), (157, impl_MeetBox_x), (106, impl_LayOver_1_x)]) (E := E0) [] (tab_cons k_impl_Surface_box (tab_cons k_impl_MeetBox (tab_cons k_impl_LayOver_1 tab_nil))) hm (by rw [hn]; decide +kernel) ?_
  try simp -implicitDefEqProofs +decide (maxSteps := 2000000) [-selQ_sel, hokQ_of]
  obtain ⟨v1, h_1, H⟩ := HS.bnd H
  have k_2 := impl_Surface_box_k ((TSurface.mk a1 a2 a6).w) ((TSurface.mk a1 a2 a6).h) ((TSurface.mk a1 a2 a6).pix)
  simp -implicitDefEqProofs [-impl_Surface_box_k] at k_2
  try simp -implicitDefEqProofs +decide (maxSteps := 2000000) [-selQ_sel, hokQ_of, h_1, k_2]
  obtain ⟨v2, h_3, H⟩ := HS.bnd H
  try simp -implicitDefEqProofs +decide (maxSteps := 2000000) [-selQ_sel, hokQ_of, h_1, k_2, h_3]
  obtain ⟨q, h_4, H⟩ := HS.bnd H
  refine Hid.mk (Tr.weak (s' := (impl_Surface_paint_LayOver_1_l1_S a1 a2 a3 a4 a5 v2) (v2.y0, a6)) (Wk.ofk [0, 1, 2, 3, 4, 5] hk (by rfl) (by simp -implicitDefEqProofs [impl_Surface_paint_LayOver_1_l1_S, h_1, k_2, h_3]) (by simp -implicitDefEqProofs [impl_Surface_paint_LayOver_1_l1_S, h_1, k_2, h_3])) ?_)
  refine wp_loop_of (S := (impl_Surface_paint_LayOver_1_l1_S a1 a2 a3 a4 a5 v2)) (f := (impl_Surface_paint_LayOver_1_l1 a1 a2 a3 a4 a5 v2)) (xt := (impl_Surface_paint_LayOver_1_l1_X a1 a2 a3 a4 a5 v2)) ?_ ?_ h_4 ?_
  · intro q; simp [impl_Surface_paint_LayOver_1_l1_X]
  · clear H h_4 q
    rintro ⟨x12, x13⟩ o R hf hR
    have H : HS (impl_Surface_paint_LayOver_1_l1 a1 a2 a3 a4 a5 v2 (x12, x13)) o := hf
    clear hf; unfold impl_Surface_paint_LayOver_1_l1 at H
    try simp -implicitDefEqProofs at H
    refine Tr.of_vc (cl := tabC [(105, impl_Surface_box_x), (157, impl_MeetBox_x), (106, impl_LayOver_1_x)]) (E := E0) [] (tab_cons k_impl_Surface_box (tab_cons k_impl_MeetBox (tab_cons k_impl_LayOver_1 tab_nil))) hm (by rw [hn]; decide +kernel) ?_
    try simp -implicitDefEqProofs +decide (maxSteps := 2000000) [-selQ_sel, hokQ_of, impl_Surface_paint_LayOver_1_l1_S]
    refine Hid.brV (fun h_5 => ?_) (fun h_5 => ?_)
    · replace H := HS.cnd_t h_5 H
      try simp -implicitDefEqProofs +decide (maxSteps := 2000000) [-selQ_sel, hokQ_of, h_5]
      have hr := (HS.some H).symm; subst hr
      exact Hid.mk ⟨(impl_Surface_paint_LayOver_1_l1_X a1 a2 a3 a4 a5 v2 x13).2, Wk.ofk [0, 1, 2, 3, 4] hk (by rfl) (by simp -implicitDefEqProofs [impl_Surface_paint_LayOver_1_l1_X, h_5]) (by simp -implicitDefEqProofs [impl_Surface_paint_LayOver_1_l1_X, h_5]), hR⟩
    · replace H := HS.cnd_f h_5 H
      try simp -implicitDefEqProofs +decide (maxSteps := 2000000) [-selQ_sel, hokQ_of, h_5]
      obtain ⟨q, h_6, H⟩ := HS.bnd H
      refine Hid.mk (Tr.weak (s' := (impl_Surface_paint_LayOver_1_l0_S a1 a2 a3 a4 a5 v2 x12) (v2.x0, x13)) (Wk.ofk [0, 1, 2, 3, 4, 5] hk (by rfl) (by simp -implicitDefEqProofs [impl_Surface_paint_LayOver_1_l0_S, h_5]) (by simp -implicitDefEqProofs [impl_Surface_paint_LayOver_1_l0_S, h_5])) ?_)
      refine wp_loop_of (S := (impl_Surface_paint_LayOver_1_l0_S a1 a2 a3 a4 a5 v2 x12)) (f := (impl_Surface_paint_LayOver_1_l0 a1 a2 a3 a4 a5 v2 x12)) (xt := (impl_Surface_paint_LayOver_1_l0_X a1 a2 a3 a4 a5 v2 x12)) ?_ ?_ h_6 ?_
      · intro q; simp [impl_Surface_paint_LayOver_1_l0_X]
      · clear H h_6 q
        rintro ⟨x17, x18⟩ o R hf hR
        have H : HS (impl_Surface_paint_LayOver_1_l0 a1 a2 a3 a4 a5 v2 x12 (x17, x18)) o := hf
        clear hf; unfold impl_Surface_paint_LayOver_1_l0 at H
        try simp -implicitDefEqProofs at H
        refine Tr.of_vc (cl := tabC [(105, impl_Surface_box_x), (157, impl_MeetBox_x), (106, impl_LayOver_1_x)]) (E := E0) [] (tab_cons k_impl_Surface_box (tab_cons k_impl_MeetBox (tab_cons k_impl_LayOver_1 tab_nil))) hm (by rw [hn]; decide +kernel) ?_
        try simp -implicitDefEqProofs +decide (maxSteps := 2000000) [-selQ_sel, hokQ_of, impl_Surface_paint_LayOver_1_l0_S]
        refine Hid.brV (fun h_7 => ?_) (fun h_7 => ?_)
        · replace H := HS.cnd_t h_7 H
          try simp -implicitDefEqProofs +decide (maxSteps := 2000000) [-selQ_sel, hokQ_of, h_7]
          have hr := (HS.some H).symm; subst hr
          exact Hid.mk ⟨(impl_Surface_paint_LayOver_1_l0_X a1 a2 a3 a4 a5 v2 x12 x18).2, Wk.ofk [0, 1, 2, 3, 4, 5] hk (by rfl) (by simp -implicitDefEqProofs [impl_Surface_paint_LayOver_1_l0_X, h_7]) (by simp -implicitDefEqProofs [impl_Surface_paint_LayOver_1_l0_X, h_7]), hR⟩
        · replace H := HS.cnd_f h_7 H
          try simp -implicitDefEqProofs +decide (maxSteps := 2000000) [-selQ_sel, hokQ_of, h_7]
          obtain ⟨v19, h_8, H⟩ := HS.bnd H
          have g_9 := idx_get h_8
          try simp -implicitDefEqProofs +decide (maxSteps := 2000000) [-selQ_sel, hokQ_of, h_7, h_8, g_9]
          obtain ⟨v20, h_10, H⟩ := HS.bnd H
          try simp -implicitDefEqProofs +decide (maxSteps := 2000000) [-selQ_sel, hokQ_of, h_7, h_8, g_9, h_10]
          obtain ⟨l21, h_11, H⟩ := HS.nam H
          have m_12 := congrArg (List.map eColor) h_11
          have q_13 := congrArg List.length h_11
          simp -implicitDefEqProofs at m_12 q_13
          try simp only [q_13] at m_12
          try simp only [q_13] at h_10
          try simp -implicitDefEqProofs +decide (maxSteps := 2000000) [-selQ_sel, hokQ_of, h_7, h_8, g_9, h_10, m_12, q_13]
          have hr := (HS.some H).symm; subst hr
          exact Hid.mk ⟨impl_Surface_paint_LayOver_1_l0_S a1 a2 a3 a4 a5 v2 x12 ((IntKind.i64.wrap (x17 + 1)), l21), Wk.ofk [0, 1, 2, 3, 4, 5] hk (by rfl) (by simp -implicitDefEqProofs [impl_Surface_paint_LayOver_1_l0_S, h_7, h_8, g_9, h_10, m_12, q_13]) (by simp -implicitDefEqProofs [impl_Surface_paint_LayOver_1_l0_S, h_7, h_8, g_9, h_10, m_12, q_13]), hR⟩
      · revert H h_6; revert q; intro y22 h_6 H
        try dsimp only at H
        try simp -implicitDefEqProofs +decide (maxSteps := 2000000) [-selQ_sel, hokQ_of, h_5, impl_Surface_paint_LayOver_1_l0_X]
        have hr := (HS.some H).symm; subst hr
        exact Hid.mk ⟨impl_Surface_paint_LayOver_1_l1_S a1 a2 a3 a4 a5 v2 ((IntKind.i64.wrap (x12 + 1)), y22), Wk.ofk [0, 1, 2, 3, 4, 5] hk (by rfl) (by simp -implicitDefEqProofs [impl_Surface_paint_LayOver_1_l1_S, h_5]) (by simp -implicitDefEqProofs [impl_Surface_paint_LayOver_1_l1_S, h_5]), hR⟩
  · revert H h_4; revert q; intro y23 h_4 H
    try dsimp only at H
    try simp -implicitDefEqProofs +decide (maxSteps := 2000000) [-selQ_sel, hokQ_of, h_1, k_2, h_3, impl_Surface_paint_LayOver_1_l1_X]
    have hr := (HS.some H).symm; subst hr
    refine Hid.mk ⟨_, Wk.refl _, ?_⟩
    try simp -implicitDefEqProofs +decide (maxSteps := 2000000) [-selQ_sel, hokQ_of, h_1, k_2, h_3]
theorem spec_MaskOf_ok0 (hm : Try.prog.follows .mixedOrders = true) (k_spec_l11Box : Sound Try.prog 148 spec_l11Box_x) (k_spec_MaskAt : Sound Try.prog 221 spec_MaskAt_x) : Sound Try.prog 181 spec_MaskOf_x := by
  refine xOf_sound fun q r h => ?_
  obtain ⟨a0, a1, a2⟩ := q
  refine fn_ok E0 hm Try.func181 rfl (by decide +kernel) (by rfl) fun Γ hn hk => ?_
  dsimp only [spec_MaskOf_e, spec_MaskOf_v]
  replace hn : Γ.n = 43 := hn
  replace hk : Γ.k = 0 := hk
  have H : HS (spec_MaskOf a0 a1 a2) r := h
  clear h; unfold spec_MaskOf at H
  try simp -implicitDefEqProofs at H
  refine Tr.of_vc (cl := tabC [(148, spec_l11Box_x), (221, spec_MaskAt_x)]) (E := E0) [] (tab_cons k_spec_l11Box (tab_cons k_spec_MaskAt tab_nil)) hm (by rw [hn]; decide +kernel) ?_
  try simp -implicitDefEqProofs +decide (maxSteps := 2000000) [-selQ_sel, hokQ_of]
  obtain ⟨v1, h_1, H⟩ := HS.bnd H
  try simp -implicitDefEqProofs +decide (maxSteps := 2000000) [-selQ_sel, hokQ_of, h_1]
  refine Hid.brV (fun h_2 => ?_) (fun h_2 => ?_)
  · replace H := HS.cnd_t h_2 H
    try simp -implicitDefEqProofs +decide (maxSteps := 2000000) [-selQ_sel, hokQ_of, h_1, h_2]
    obtain ⟨q, h_3, H⟩ := HS.bnd H
    refine Hid.mk (Tr.weak (s' := (spec_MaskOf_l1_S a0 a1 a2) (a2.y0, [])) (Wk.ofk [0, 1, 2, 3] hk (by rfl) (by simp -implicitDefEqProofs [spec_MaskOf_l1_S, h_1, h_2]) (by simp -implicitDefEqProofs [spec_MaskOf_l1_S, h_1, h_2])) ?_)
    refine wp_loop_of (S := (spec_MaskOf_l1_S a0 a1 a2)) (f := (spec_MaskOf_l1 a0 a1 a2)) (xt := (spec_MaskOf_l1_X a0 a1 a2)) ?_ ?_ h_3 ?_
    · intro q; simp [spec_MaskOf_l1_X]
    · clear H h_3 q
      rintro ⟨x8, x9⟩ o R hf hR
      have H : HS (spec_MaskOf_l1 a0 a1 a2 (x8, x9)) o := hf
      clear hf; unfold spec_MaskOf_l1 at H
      try simp -implicitDefEqProofs at H
      refine Tr.of_vc (cl := tabC [(148, spec_l11Box_x), (221, spec_MaskAt_x)]) (E := E0) [] (tab_cons k_spec_l11Box (tab_cons k_spec_MaskAt tab_nil)) hm (by rw [hn]; decide +kernel) ?_
      try simp -implicitDefEqProofs +decide (maxSteps := 2000000) [-selQ_sel, hokQ_of, spec_MaskOf_l1_S]
      refine Hid.brV (fun h_4 => ?_) (fun h_4 => ?_)
      · replace H := HS.cnd_t h_4 H
        try simp -implicitDefEqProofs +decide (maxSteps := 2000000) [-selQ_sel, hokQ_of, h_4]
        have hr := (HS.some H).symm; subst hr
        exact Hid.mk ⟨(spec_MaskOf_l1_X a0 a1 a2 x9).2, Wk.ofk [1, 2, 3] hk (by rfl) (by simp -implicitDefEqProofs [spec_MaskOf_l1_X, h_4]) (by simp -implicitDefEqProofs [spec_MaskOf_l1_X, h_4]), hR⟩
      · replace H := HS.cnd_f h_4 H
        try simp -implicitDefEqProofs +decide (maxSteps := 2000000) [-selQ_sel, hokQ_of, h_4]
        obtain ⟨q, h_5, H⟩ := HS.bnd H
        refine Hid.mk (Tr.weak (s' := (spec_MaskOf_l0_S a0 a1 a2 x8) (a2.x0, x9)) (Wk.ofk [0, 1, 2, 3] hk (by rfl) (by simp -implicitDefEqProofs [spec_MaskOf_l0_S, h_4]) (by simp -implicitDefEqProofs [spec_MaskOf_l0_S, h_4])) ?_)
        refine wp_loop_of (S := (spec_MaskOf_l0_S a0 a1 a2 x8)) (f := (spec_MaskOf_l0 a0 a1 a2 x8)) (xt := (spec_MaskOf_l0_X a0 a1 a2 x8)) ?_ ?_ h_5 ?_
        · intro q; simp [spec_MaskOf_l0_X]
        · clear H h_5 q
          rintro ⟨x12, x13⟩ o R hf hR
          have H : HS (spec_MaskOf_l0 a0 a1 a2 x8 (x12, x13)) o := hf
          clear hf; unfold spec_MaskOf_l0 at H
          try simp -implicitDefEqProofs at H
          refine Tr.of_vc (cl := tabC [(148, spec_l11Box_x), (221, spec_MaskAt_x)]) (E := E0) [] (tab_cons k_spec_l11Box (tab_cons k_spec_MaskAt tab_nil)) hm (by rw [hn]; decide +kernel) ?_
          try simp -implicitDefEqProofs +decide (maxSteps := 2000000) [-selQ_sel, hokQ_of, spec_MaskOf_l0_S]
          refine Hid.brV (fun h_6 => ?_) (fun h_6 => ?_)
          · replace H := HS.cnd_t h_6 H
            try simp -implicitDefEqProofs +decide (maxSteps := 2000000) [-selQ_sel, hokQ_of, h_6]
            have hr := (HS.some H).symm; subst hr
            exact Hid.mk ⟨(spec_MaskOf_l0_X a0 a1 a2 x8 x13).2, Wk.ofk [0, 1, 2, 3] hk (by rfl) (by simp -implicitDefEqProofs [spec_MaskOf_l0_X, h_6]) (by simp -implicitDefEqProofs [spec_MaskOf_l0_X, h_6]), hR⟩
          · replace H := HS.cnd_f h_6 H
            try simp -implicitDefEqProofs +decide (maxSteps := 2000000) [-selQ_sel, hokQ_of, h_6]
            obtain ⟨v14, h_7, H⟩ := HS.bnd H
            try simp -implicitDefEqProofs +decide (maxSteps := 2000000) [-selQ_sel, hokQ_of, h_6, h_7]
            obtain ⟨h_8, H⟩ := HS.chkP H
            try simp -implicitDefEqProofs +decide (maxSteps := 2000000) [-selQ_sel, hokQ_of, h_6, h_7, h_8]
            obtain ⟨l15, h_9, H⟩ := HS.nam H
            have m_10 := congrArg (List.map (AV.int .i64)) h_9
            have q_11 := congrArg List.length h_9
            simp -implicitDefEqProofs at m_10 q_11
            try simp only [q_11] at m_10
            try simp only [q_11] at h_8
            try simp -implicitDefEqProofs +decide (maxSteps := 2000000) [-selQ_sel, hokQ_of, h_6, h_7, h_8, m_10, q_11]
            have hr := (HS.some H).symm; subst hr
            exact Hid.mk ⟨spec_MaskOf_l0_S a0 a1 a2 x8 ((IntKind.i64.wrap (x12 + 1)), l15), Wk.ofk [0, 1, 2, 3] hk (by rfl) (by simp -implicitDefEqProofs [spec_MaskOf_l0_S, h_6, h_7, h_8, m_10, q_11]) (by simp -implicitDefEqProofs [spec_MaskOf_l0_S, h_6, h_7, h_8, m_10, q_11]), hR⟩
        · revert H h_5; revert q; intro y16 h_5 H
          try dsimp only at H
          try simp -implicitDefEqProofs +decide (maxSteps := 2000000) [-selQ_sel, hokQ_of, h_4, spec_MaskOf_l0_X]
          have hr := (HS.some H).symm; subst hr
          exact Hid.mk ⟨spec_MaskOf_l1_S a0 a1 a2 ((IntKind.i64.wrap (x8 + 1)), y16), Wk.ofk [0, 1, 2, 3] hk (by rfl) (by simp -implicitDefEqProofs [spec_MaskOf_l1_S, h_4]) (by simp -implicitDefEqProofs [spec_MaskOf_l1_S, h_4]), hR⟩
    · revert H h_3; revert q; intro y17 h_3 H
      try dsimp only at H
      try simp -implicitDefEqProofs +decide (maxSteps := 2000000) [-selQ_sel, hokQ_of, h_1, h_2, spec_MaskOf_l1_X]
      have hr := (HS.some H).symm; subst hr
      refine Hid.mk ⟨⟨[(6, AV.optr 0 0 5)], [(0, Ob.box [AV.int .i64 a2.x0, AV.int .i64 a2.y0, AV.int .i64 a2.x1, AV.int .i64 a2.y1, AV.osl 1 0 (List.length y17) (List.length y17)]), (1, Ob.arr 1 (List.map (AV.int .i64) y17) false)], 2⟩, Wk.ofk [0, 2] hk (by rfl) (by simp -implicitDefEqProofs [h_1, h_2]) (by simp -implicitDefEqProofs [h_1, h_2]), ?_⟩
      try simp -implicitDefEqProofs +decide (maxSteps := 2000000) [-selQ_sel, hokQ_of, h_1, h_2]
  · replace H := HS.cnd_f h_2 H
    try simp -implicitDefEqProofs +decide (maxSteps := 2000000) [-selQ_sel, hokQ_of, h_1, h_2]
    have hr := (HS.some H).symm; subst hr
    refine Hid.mk ⟨⟨[(6, AV.optr 0 0 5)], [(0, Ob.box [AV.int .i64 0, AV.int .i64 0, AV.int .i64 0, AV.int .i64 0, AV.osl 1 0 0 0]), (1, Ob.arr 1 (List.map (AV.int .i64) []) false)], 2⟩, Wk.ofk [1, 2] hk (by rfl) (by simp -implicitDefEqProofs [h_1, h_2]) (by simp -implicitDefEqProofs [h_1, h_2]), ?_⟩
    try simp -implicitDefEqProofs +decide (maxSteps := 2000000) [-selQ_sel, hokQ_of, h_1, h_2]
theorem spec_SurfaceOk_ok0 (hm : Try.prog.follows .mixedOrders = true) (k_spec_l01In : Sound Try.prog 73 spec_l01In_x) (k_spec_LaidOk : Sound Try.prog 121 spec_LaidOk_x) : Sound Try.prog 82 spec_SurfaceOk_x := by
  refine xOf_sound fun q r h => ?_
  revert h; revert r; revert q; intro a0 r h
  refine fn_ok E0 hm Try.func82 rfl (by decide +kernel) (by rfl) fun Γ hn hk => ?_
  dsimp only [spec_SurfaceOk_e, spec_SurfaceOk_v]
  replace hn : Γ.n = 39 := hn
  replace hk : Γ.k = 0 := hk
  have H : HS (spec_SurfaceOk a0) r := h
  clear h; unfold spec_SurfaceOk at H
  try simp -implicitDefEqProofs at H
  refine Tr.of_vc (cl := tabC [(73, spec_l01In_x), (121, spec_LaidOk_x)]) (E := E0) [] (tab_cons k_spec_l01In (tab_cons k_spec_LaidOk tab_nil)) hm (by rw [hn]; decide +kernel) ?_
  try simp -implicitDefEqProofs (maxSteps := 2000000) [-selQ_sel]
  obtain ⟨v1, h_1, H⟩ := HS.bnd H
  try simp -implicitDefEqProofs (maxSteps := 2000000) [-selQ_sel, h_1]
  refine Hid.selQ (fun h_2 => ?_) (fun h_2 => ?_)
  · replace H := HS.cnd_t h_2 H
    try simp -implicitDefEqProofs (maxSteps := 2000000) [-selQ_sel, h_1, h_2]
    obtain ⟨v2, h_3, H⟩ := HS.bnd H
    try simp -implicitDefEqProofs (maxSteps := 2000000) [-selQ_sel, h_1, h_2, h_3]
    refine Hid.selQ (fun h_4 => ?_) (fun h_4 => ?_)
    · replace H := HS.cnd_t h_4 H
      try simp -implicitDefEqProofs (maxSteps := 2000000) [-selQ_sel, h_1, h_2, h_3, h_4]
      refine Hid.brV (fun h_5 => ?_) (fun h_5 => ?_)
      · replace H := HS.cnd_t h_5 H
        try simp -implicitDefEqProofs (maxSteps := 2000000) [-selQ_sel, h_1, h_2, h_3, h_4, h_5]
        obtain ⟨q, h_6, H⟩ := HS.bnd H
        refine Hid.mk (Tr.weak (s' := (spec_SurfaceOk_l0_S a0) 0) (Wk.ofk [0] hk (by rfl) (by simp -implicitDefEqProofs [spec_SurfaceOk_l0_S, h_1, h_2, h_3, h_4, h_5]) (by simp -implicitDefEqProofs [spec_SurfaceOk_l0_S, h_1, h_2, h_3, h_4, h_5])) ?_)
        refine wp_loop_of (S := (spec_SurfaceOk_l0_S a0)) (f := (spec_SurfaceOk_l0 a0)) (xt := (spec_SurfaceOk_l0_X a0)) ?_ ?_ h_6 ?_
        · intro q; rcases q with ⟨⟩ | ⟨⟩ <;> simp [spec_SurfaceOk_l0_X]
        · clear H h_6 q
          rintro x5 o R hf hR
          have H : HS (spec_SurfaceOk_l0 a0 x5) o := hf
          clear hf; unfold spec_SurfaceOk_l0 at H
          try simp -implicitDefEqProofs at H
          refine Tr.of_vc (cl := tabC [(73, spec_l01In_x), (121, spec_LaidOk_x)]) (E := E0) [] (tab_cons k_spec_l01In (tab_cons k_spec_LaidOk tab_nil)) hm (by rw [hn]; decide +kernel) ?_
          try simp -implicitDefEqProofs (maxSteps := 2000000) [-selQ_sel, spec_SurfaceOk_l0_S]
          refine Hid.brV (fun h_7 => ?_) (fun h_7 => ?_)
          · replace H := HS.cnd_t h_7 H
            try simp -implicitDefEqProofs (maxSteps := 2000000) [-selQ_sel, h_7]
            have hr := (HS.some H).symm; subst hr
            exact Hid.mk ⟨(spec_SurfaceOk_l0_X a0 (.inl ())).2, Wk.ofk [] hk (by rfl) (by simp -implicitDefEqProofs [spec_SurfaceOk_l0_X, h_7]) (by simp -implicitDefEqProofs [spec_SurfaceOk_l0_X, h_7]), hR⟩
          · replace H := HS.cnd_f h_7 H
            try simp -implicitDefEqProofs (maxSteps := 2000000) [-selQ_sel, h_7]
            obtain ⟨v6, h_8, H⟩ := HS.bnd H
            try simp -implicitDefEqProofs (maxSteps := 2000000) [-selQ_sel, h_7, h_8]
            obtain ⟨v7, h_9, H⟩ := HS.bnd H
            try simp -implicitDefEqProofs (maxSteps := 2000000) [-selQ_sel, h_7, h_8, h_9]
            refine Hid.brV (fun h_10 => ?_) (fun h_10 => ?_)
            · replace H := HS.cnd_t h_10 H
              try simp -implicitDefEqProofs (maxSteps := 2000000) [-selQ_sel, h_7, h_8, h_9, h_10]
              have hr := (HS.some H).symm; subst hr
              exact Hid.mk ⟨spec_SurfaceOk_l0_S a0 (IntKind.i64.wrap (x5 + 1)), Wk.ofk [0] hk (by rfl) (by simp -implicitDefEqProofs [spec_SurfaceOk_l0_S, h_7, h_8, h_9, h_10]) (by simp -implicitDefEqProofs [spec_SurfaceOk_l0_S, h_7, h_8, h_9, h_10]), hR⟩
            · replace H := HS.cnd_f h_10 H
              try simp -implicitDefEqProofs (maxSteps := 2000000) [-selQ_sel, h_7, h_8, h_9, h_10]
              have hr := (HS.some H).symm; subst hr
              exact Hid.mk ⟨(spec_SurfaceOk_l0_X a0 (.inr ())).2, Wk.ofk [] hk (by rfl) (by simp -implicitDefEqProofs [spec_SurfaceOk_l0_X, h_7, h_8, h_9, h_10]) (by simp -implicitDefEqProofs [spec_SurfaceOk_l0_X, h_7, h_8, h_9, h_10]), hR⟩
        · rcases q with ⟨⟩ | ⟨⟩
          · dsimp only at H
            try simp -implicitDefEqProofs (maxSteps := 2000000) [-selQ_sel, h_1, h_2, h_3, h_4, h_5, spec_SurfaceOk_l0_X]
            have hr := (HS.some H).symm; subst hr
            refine Hid.mk ⟨_, Wk.refl _, ?_⟩
            try simp -implicitDefEqProofs (maxSteps := 2000000) [-selQ_sel, h_1, h_2, h_3, h_4, h_5]
          · dsimp only at H
            try simp -implicitDefEqProofs (maxSteps := 2000000) [-selQ_sel, h_1, h_2, h_3, h_4, h_5, spec_SurfaceOk_l0_X]
            have hr := (HS.some H).symm; subst hr
            refine Hid.mk ⟨_, Wk.refl _, ?_⟩
            try simp -implicitDefEqProofs (maxSteps := 2000000) [-selQ_sel, h_1, h_2, h_3, h_4, h_5]
      · replace H := HS.cnd_f h_5 H
        try simp -implicitDefEqProofs (maxSteps := 2000000) [-selQ_sel, h_1, h_2, h_3, h_4, h_5]
        have hr := (HS.some H).symm; subst hr
        refine Hid.mk ⟨_, Wk.refl _, ?_⟩
        try simp -implicitDefEqProofs (maxSteps := 2000000) [-selQ_sel, h_1, h_2, h_3, h_4, h_5]
    · replace H := HS.cnd_f h_4 H
      try simp -implicitDefEqProofs (maxSteps := 2000000) [-selQ_sel, h_1, h_2, h_3, h_4]
      have hr := (HS.some H).symm; subst hr
      refine Hid.mk ⟨_, Wk.refl _, ?_⟩
      try simp -implicitDefEqProofs (maxSteps := 2000000) [-selQ_sel, h_1, h_2, h_3, h_4]
  · replace H := HS.cnd_f h_2 H
    try simp -implicitDefEqProofs (maxSteps := 2000000) [-selQ_sel, h_1, h_2]
    have hr := (HS.some H).symm; subst hr
    refine Hid.mk ⟨_, Wk.refl _, ?_⟩
    try simp -implicitDefEqProofs (maxSteps := 2000000) [-selQ_sel, h_1, h_2]
theorem impl_LayOver_ok0 (hm : Try.prog.follows .mixedOrders = true) (k_impl_copySurface : Sound Try.prog 103 impl_copySurface_x) (k_impl_SurfaceOk : Sound Try.prog 34 impl_SurfaceOk_x) (k_impl_Surface_box : Sound Try.prog 105 impl_Surface_box_x) (k_impl_Surface_paint_LayOver_1 : Sound Try.prog 104 impl_Surface_paint_LayOver_1_x) : Sound Try.prog 31 impl_LayOver_x := by
  refine xOf_sound fun q r h => ?_
  obtain ⟨a0, a1, a2, a3⟩ := q
  refine fn_ok E0 hm Try.func31 rfl (by decide +kernel) (by rfl) fun Γ hn hk => ?_
  dsimp only [impl_LayOver_e, impl_LayOver_v]
  replace hn : Γ.n = 39 := hn
  replace hk : Γ.k = 0 := hk
  have H : HS (impl_LayOver a0 a1 a2 a3) r := h
  clear h; unfold impl_LayOver at H
  try simp -implicitDefEqProofs at H
  refine Tr.of_vc (cl := tabC [(103, impl_copySurface_x), (34, impl_SurfaceOk_x), (105, impl_Surface_box_x), (104, impl_Surface_paint_LayOver_1_x)]) (E := E0) [] (tab_cons k_impl_copySurface (tab_cons k_impl_SurfaceOk (tab_cons k_impl_Surface_box (tab_cons k_impl_Surface_paint_LayOver_1 tab_nil)))) hm (by rw [hn]; decide +kernel) ?_
  try simp -implicitDefEqProofs (maxSteps := 2000000) [-selQ_sel]
  obtain ⟨⟨w2, w3, w4⟩, h_1, H⟩ := HS.bnd H
  dsimp only at H
  try simp -implicitDefEqProofs (maxSteps := 2000000) [-selQ_sel, h_1]
  refine Hid.selQ (fun h_2 => ?_) (fun h_2 => ?_)
  · replace H := HS.cnd_t h_2 H
    try simp -implicitDefEqProofs (maxSteps := 2000000) [-selQ_sel, h_1, h_2]
    refine Hid.selQ (fun h_3 => ?_) (fun h_3 => ?_)
    · replace H := HS.cnd_t h_3 H
      try simp -implicitDefEqProofs (maxSteps := 2000000) [-selQ_sel, h_1, h_2, h_3]
      obtain ⟨v5, h_4, H⟩ := HS.bnd H
      try simp -implicitDefEqProofs (maxSteps := 2000000) [-selQ_sel, h_1, h_2, h_3, h_4]
      refine Hid.selQ (fun h_5 => ?_) (fun h_5 => ?_)
      · replace H := HS.cnd_t h_5 H
        try simp -implicitDefEqProofs (maxSteps := 2000000) [-selQ_sel, h_1, h_2, h_3, h_4, h_5]
        obtain ⟨v6, h_6, H⟩ := HS.bnd H
        try simp -implicitDefEqProofs (maxSteps := 2000000) [-selQ_sel, h_1, h_2, h_3, h_4, h_5, h_6]
        refine Hid.brV (fun h_7 => ?_) (fun h_7 => ?_)
        · replace H := HS.cnd_t h_7 H
          try simp -implicitDefEqProofs (maxSteps := 2000000) [-selQ_sel, h_1, h_2, h_3, h_4, h_5, h_6, h_7]
          obtain ⟨v7, h_8, H⟩ := HS.bnd H
          have k_9 := impl_Surface_box_k ((TSurface.mk w2 w3 w4).w) ((TSurface.mk w2 w3 w4).h) ((TSurface.mk w2 w3 w4).pix)
          simp -implicitDefEqProofs [-impl_Surface_box_k] at k_9
          try simp -implicitDefEqProofs (maxSteps := 2000000) [-selQ_sel, h_1, h_2, h_3, h_4, h_5, h_6, h_7, h_8, k_9]
          obtain ⟨v8, h_10, H⟩ := HS.bnd H
          try simp -implicitDefEqProofs (maxSteps := 2000000) [-selQ_sel, h_1, h_2, h_3, h_4, h_5, h_6, h_7, h_8, k_9, h_10]
          have hr := (HS.some H).symm; subst hr
          refine Hid.mk ⟨⟨[(8, AV.optr 0 0 3)], [(0, Ob.box [AV.int .i64 w2, AV.int .i64 w3, AV.osl 1 0 (List.length v8) (List.length v8)]), (1, Ob.arr 4 (List.map eColor v8) false)], 2⟩, Wk.ofk [4, 5] hk (by rfl) (by simp -implicitDefEqProofs [h_1, h_2, h_3, h_4, h_5, h_6, h_7, h_8, k_9, h_10]) (by simp -implicitDefEqProofs [h_1, h_2, h_3, h_4, h_5, h_6, h_7, h_8, k_9, h_10]), ?_⟩
          try simp -implicitDefEqProofs (maxSteps := 2000000) [-selQ_sel, h_1, h_2, h_3, h_4, h_5, h_6, h_7, h_8, k_9, h_10]
        · replace H := HS.cnd_f h_7 H
          try simp -implicitDefEqProofs (maxSteps := 2000000) [-selQ_sel, h_1, h_2, h_3, h_4, h_5, h_6, h_7]
          have hr := (HS.some H).symm; subst hr
          refine Hid.mk ⟨⟨[(8, AV.optr 0 0 3)], [(0, Ob.box [AV.int .i64 w2, AV.int .i64 w3, AV.osl 1 0 (List.length w4) (List.length w4)]), (1, Ob.arr 4 (List.map eColor w4) false)], 2⟩, Wk.ofk [4, 5] hk (by rfl) (by simp -implicitDefEqProofs [h_1, h_2, h_3, h_4, h_5, h_6, h_7]) (by simp -implicitDefEqProofs [h_1, h_2, h_3, h_4, h_5, h_6, h_7]), ?_⟩
          try simp -implicitDefEqProofs (maxSteps := 2000000) [-selQ_sel, h_1, h_2, h_3, h_4, h_5, h_6, h_7]
      · replace H := HS.cnd_f h_5 H
        try simp -implicitDefEqProofs (maxSteps := 2000000) [-selQ_sel, h_1, h_2, h_3, h_4, h_5]
        have hr := (HS.some H).symm; subst hr
        refine Hid.mk ⟨⟨[(8, AV.optr 0 0 3)], [(0, Ob.box [AV.int .i64 w2, AV.int .i64 w3, AV.osl 1 0 (List.length w4) (List.length w4)]), (1, Ob.arr 4 (List.map eColor w4) false)], 2⟩, Wk.ofk [4, 5] hk (by rfl) (by simp -implicitDefEqProofs [h_1, h_2, h_3, h_4, h_5]) (by simp -implicitDefEqProofs [h_1, h_2, h_3, h_4, h_5]), ?_⟩
        try simp -implicitDefEqProofs (maxSteps := 2000000) [-selQ_sel, h_1, h_2, h_3, h_4, h_5]
    · replace H := HS.cnd_f h_3 H
      try simp -implicitDefEqProofs (maxSteps := 2000000) [-selQ_sel, h_1, h_2, h_3]
      have hr := (HS.some H).symm; subst hr
      refine Hid.mk ⟨⟨[(8, AV.optr 0 0 3)], [(0, Ob.box [AV.int .i64 w2, AV.int .i64 w3, AV.osl 1 0 (List.length w4) (List.length w4)]), (1, Ob.arr 4 (List.map eColor w4) false)], 2⟩, Wk.ofk [4, 5] hk (by rfl) (by simp -implicitDefEqProofs [h_1, h_2, h_3]) (by simp -implicitDefEqProofs [h_1, h_2, h_3]), ?_⟩
      try simp -implicitDefEqProofs (maxSteps := 2000000) [-selQ_sel, h_1, h_2, h_3]
  · replace H := HS.cnd_f h_2 H
    try simp -implicitDefEqProofs (maxSteps := 2000000) [-selQ_sel, h_1, h_2]
    have hr := (HS.some H).symm; subst hr
    refine Hid.mk ⟨⟨[(8, AV.optr 0 0 3)], [(0, Ob.box [AV.int .i64 w2, AV.int .i64 w3, AV.osl 1 0 (List.length w4) (List.length w4)]), (1, Ob.arr 4 (List.map eColor w4) false)], 2⟩, Wk.ofk [4, 5] hk (by rfl) (by simp -implicitDefEqProofs [h_1, h_2]) (by simp -implicitDefEqProofs [h_1, h_2]), ?_⟩
    try simp -implicitDefEqProofs (maxSteps := 2000000) [-selQ_sel, h_1, h_2]
theorem impl_PaintOk_ok0 (hm : Try.prog.follows .mixedOrders = true) (k_impl_ColorOk : Sound Try.prog 180 impl_ColorOk_x) (k_impl_PointOk : Sound Try.prog 187 impl_PointOk_x) : Sound Try.prog 116 impl_PaintOk_x := by
  refine xOf_sound fun q r h => ?_
  revert h; revert r; revert q; intro a0 r h
  refine fn_ok E0 hm Try.func116 rfl (by decide +kernel) (by rfl) fun Γ hn hk => ?_
  dsimp only [impl_PaintOk_e, impl_PaintOk_v]
  replace hn : Γ.n = 44 := hn
  replace hk : Γ.k = 0 := hk
  have H : HS (impl_PaintOk a0) r := h
  clear h; unfold impl_PaintOk at H
  try simp -implicitDefEqProofs at H
  refine Tr.of_vc (cl := tabC [(180, impl_ColorOk_x), (187, impl_PointOk_x)]) (E := E0) [] (tab_cons k_impl_ColorOk (tab_cons k_impl_PointOk tab_nil)) hm (by rw [hn]; decide +kernel) ?_
  try simp -implicitDefEqProofs (maxSteps := 2000000) [-selQ_sel]
  refine Hid.brV (fun h_1 => ?_) (fun h_1 => ?_)
  · replace H := HS.cnd_t h_1 H
    try simp -implicitDefEqProofs (maxSteps := 2000000) [-selQ_sel, h_1]
    obtain ⟨v1, h_2, H⟩ := HS.bnd H
    try simp -implicitDefEqProofs (maxSteps := 2000000) [-selQ_sel, h_1, h_2]
    refine Hid.selQ (fun h_3 => ?_) (fun h_3 => ?_)
    · replace H := HS.cnd_t h_3 H
      try simp -implicitDefEqProofs (maxSteps := 2000000) [-selQ_sel, h_1, h_2, h_3]
      have hr := (HS.some H).symm; subst hr
      refine Hid.mk ⟨_, Wk.refl _, ?_⟩
      try simp -implicitDefEqProofs (maxSteps := 2000000) [-selQ_sel, h_1, h_2, h_3]
    · replace H := HS.cnd_f h_3 H
      try simp -implicitDefEqProofs (maxSteps := 2000000) [-selQ_sel, h_1, h_2, h_3]
      have hr := (HS.some H).symm; subst hr
      refine Hid.mk ⟨_, Wk.refl _, ?_⟩
      try simp -implicitDefEqProofs (maxSteps := 2000000) [-selQ_sel, h_1, h_2, h_3]
  · replace H := HS.cnd_f h_1 H
    try simp -implicitDefEqProofs (maxSteps := 2000000) [-selQ_sel, h_1]
    refine Hid.brV (fun h_4 => ?_) (fun h_4 => ?_)
    · replace H := HS.cnd_t h_4 H
      try simp -implicitDefEqProofs (maxSteps := 2000000) [-selQ_sel, h_1, h_4]
      obtain ⟨v2, h_5, H⟩ := HS.bnd H
      try simp -implicitDefEqProofs (maxSteps := 2000000) [-selQ_sel, h_1, h_4, h_5]
      refine Hid.selQ (fun h_6 => ?_) (fun h_6 => ?_)
      · replace H := HS.cnd_t h_6 H
        try simp -implicitDefEqProofs (maxSteps := 2000000) [-selQ_sel, h_1, h_4, h_5, h_6]
        obtain ⟨v3, h_7, H⟩ := HS.bnd H
        try simp -implicitDefEqProofs (maxSteps := 2000000) [-selQ_sel, h_1, h_4, h_5, h_6, h_7]
        refine Hid.selQ (fun h_8 => ?_) (fun h_8 => ?_)
        · replace H := HS.cnd_t h_8 H
          try simp -implicitDefEqProofs (maxSteps := 2000000) [-selQ_sel, h_1, h_4, h_5, h_6, h_7, h_8]
          obtain ⟨v4, h_9, H⟩ := HS.bnd H
          try simp -implicitDefEqProofs (maxSteps := 2000000) [-selQ_sel, h_1, h_4, h_5, h_6, h_7, h_8, h_9]
          refine Hid.selQ (fun h_10 => ?_) (fun h_10 => ?_)
          · replace H := HS.cnd_t h_10 H
            try simp -implicitDefEqProofs (maxSteps := 2000000) [-selQ_sel, h_1, h_4, h_5, h_6, h_7, h_8, h_9, h_10]
            obtain ⟨v5, h_11, H⟩ := HS.bnd H
            try simp -implicitDefEqProofs (maxSteps := 2000000) [-selQ_sel, h_1, h_4, h_5, h_6, h_7, h_8, h_9, h_10, h_11]
            refine Hid.selQ (fun h_12 => ?_) (fun h_12 => ?_)
            · replace H := HS.cnd_t h_12 H
              try simp -implicitDefEqProofs (maxSteps := 2000000) [-selQ_sel, h_1, h_4, h_5, h_6, h_7, h_8, h_9, h_10, h_11, h_12]
              have hr := (HS.some H).symm; subst hr
              refine Hid.mk ⟨_, Wk.refl _, ?_⟩
              try simp -implicitDefEqProofs (maxSteps := 2000000) [-selQ_sel, h_1, h_4, h_5, h_6, h_7, h_8, h_9, h_10, h_11, h_12]
            · replace H := HS.cnd_f h_12 H
              try simp -implicitDefEqProofs (maxSteps := 2000000) [-selQ_sel, h_1, h_4, h_5, h_6, h_7, h_8, h_9, h_10, h_11, h_12]
              have hr := (HS.some H).symm; subst hr
              refine Hid.mk ⟨_, Wk.refl _, ?_⟩
              try simp -implicitDefEqProofs (maxSteps := 2000000) [-selQ_sel, h_1, h_4, h_5, h_6, h_7, h_8, h_9, h_10, h_11, h_12]
          · replace H := HS.cnd_f h_10 H
            try simp -implicitDefEqProofs (maxSteps := 2000000) [-selQ_sel, h_1, h_4, h_5, h_6, h_7, h_8, h_9, h_10]
            have hr := (HS.some H).symm; subst hr
            refine Hid.mk ⟨_, Wk.refl _, ?_⟩
            try simp -implicitDefEqProofs (maxSteps := 2000000) [-selQ_sel, h_1, h_4, h_5, h_6, h_7, h_8, h_9, h_10]
        · replace H := HS.cnd_f h_8 H
          try simp -implicitDefEqProofs (maxSteps := 2000000) [-selQ_sel, h_1, h_4, h_5, h_6, h_7, h_8]
          have hr := (HS.some H).symm; subst hr
          refine Hid.mk ⟨_, Wk.refl _, ?_⟩
          try simp -implicitDefEqProofs (maxSteps := 2000000) [-selQ_sel, h_1, h_4, h_5, h_6, h_7, h_8]
      · replace H := HS.cnd_f h_6 H
        try simp -implicitDefEqProofs (maxSteps := 2000000) [-selQ_sel, h_1, h_4, h_5, h_6]
        have hr := (HS.some H).symm; subst hr
        refine Hid.mk ⟨_, Wk.refl _, ?_⟩
        try simp -implicitDefEqProofs (maxSteps := 2000000) [-selQ_sel, h_1, h_4, h_5, h_6]
    · replace H := HS.cnd_f h_4 H
      try simp -implicitDefEqProofs (maxSteps := 2000000) [-selQ_sel, h_1, h_4]
      have hr := (HS.some H).symm; subst hr
      refine Hid.mk ⟨_, Wk.refl _, ?_⟩
      try simp -implicitDefEqProofs (maxSteps := 2000000) [-selQ_sel, h_1, h_4]
theorem spec_l11Box_ok0 (hm : Try.prog.follows .mixedOrders = true) (k_spec_Empty : Sound Try.prog 84 spec_Empty_x) (k_spec_l01In : Sound Try.prog 73 spec_l01In_x) : Sound Try.prog 148 spec_l11Box_x := by
  refine xOf_sound fun q r h => ?_
  revert h; revert r; revert q; intro a0 r h
  refine fn_ok E0 hm Try.func148 rfl (by decide +kernel) (by rfl) fun Γ hn hk => ?_
  dsimp only [spec_l11Box_e, spec_l11Box_v]
  replace hn : Γ.n = 42 := hn
  replace hk : Γ.k = 0 := hk
  have H : HS (spec_l11Box a0) r := h
  clear h; unfold spec_l11Box at H
  try simp -implicitDefEqProofs at H
  refine Tr.of_vc (cl := tabC [(84, spec_Empty_x), (73, spec_l01In_x)]) (E := E0) [] (tab_cons k_spec_Empty (tab_cons k_spec_l01In tab_nil)) hm (by rw [hn]; decide +kernel) ?_
  try simp -implicitDefEqProofs (maxSteps := 2000000) [-selQ_sel]
  obtain ⟨v1, h_1, H⟩ := HS.bnd H
  try simp -implicitDefEqProofs (maxSteps := 2000000) [-selQ_sel, h_1]
  refine Hid.selQ (fun h_2 => ?_) (fun h_2 => ?_)
  · replace H := HS.cnd_t h_2 H
    try simp -implicitDefEqProofs (maxSteps := 2000000) [-selQ_sel, h_1, h_2]
    have hr := (HS.some H).symm; subst hr
    refine Hid.mk ⟨_, Wk.refl _, ?_⟩
    try simp -implicitDefEqProofs (maxSteps := 2000000) [-selQ_sel, h_1, h_2]
  · replace H := HS.cnd_f h_2 H
    try simp -implicitDefEqProofs (maxSteps := 2000000) [-selQ_sel, h_1, h_2]
    obtain ⟨v2, h_3, H⟩ := HS.bnd H
    try simp -implicitDefEqProofs (maxSteps := 2000000) [-selQ_sel, h_1, h_2, h_3]
    refine Hid.selQ (fun h_4 => ?_) (fun h_4 => ?_)
    · replace H := HS.cnd_t h_4 H
      try simp -implicitDefEqProofs (maxSteps := 2000000) [-selQ_sel, h_1, h_2, h_3, h_4]
      obtain ⟨v3, h_5, H⟩ := HS.bnd H
      try simp -implicitDefEqProofs (maxSteps := 2000000) [-selQ_sel, h_1, h_2, h_3, h_4, h_5]
      refine Hid.selQ (fun h_6 => ?_) (fun h_6 => ?_)
      · replace H := HS.cnd_t h_6 H
        try simp -implicitDefEqProofs (maxSteps := 2000000) [-selQ_sel, h_1, h_2, h_3, h_4, h_5, h_6]
        obtain ⟨v4, h_7, H⟩ := HS.bnd H
        try simp -implicitDefEqProofs (maxSteps := 2000000) [-selQ_sel, h_1, h_2, h_3, h_4, h_5, h_6, h_7]
        refine Hid.selQ (fun h_8 => ?_) (fun h_8 => ?_)
        · replace H := HS.cnd_t h_8 H
          try simp -implicitDefEqProofs (maxSteps := 2000000) [-selQ_sel, h_1, h_2, h_3, h_4, h_5, h_6, h_7, h_8]
          obtain ⟨v5, h_9, H⟩ := HS.bnd H
          try simp -implicitDefEqProofs (maxSteps := 2000000) [-selQ_sel, h_1, h_2, h_3, h_4, h_5, h_6, h_7, h_8, h_9]
          refine Hid.selQ (fun h_10 => ?_) (fun h_10 => ?_)
          · replace H := HS.cnd_t h_10 H
            try simp -implicitDefEqProofs (maxSteps := 2000000) [-selQ_sel, h_1, h_2, h_3, h_4, h_5, h_6, h_7, h_8, h_9, h_10]
            refine Hid.selQ (fun h_11 => ?_) (fun h_11 => ?_)
            · replace H := HS.cnd_t h_11 H
              try simp -implicitDefEqProofs (maxSteps := 2000000) [-selQ_sel, h_1, h_2, h_3, h_4, h_5, h_6, h_7, h_8, h_9, h_10, h_11]
              have hr := (HS.some H).symm; subst hr
              refine Hid.mk ⟨_, Wk.refl _, ?_⟩
              try simp -implicitDefEqProofs (maxSteps := 2000000) [-selQ_sel, h_1, h_2, h_3, h_4, h_5, h_6, h_7, h_8, h_9, h_10, h_11]
            · replace H := HS.cnd_f h_11 H
              try simp -implicitDefEqProofs (maxSteps := 2000000) [-selQ_sel, h_1, h_2, h_3, h_4, h_5, h_6, h_7, h_8, h_9, h_10, h_11]
              have hr := (HS.some H).symm; subst hr
              refine Hid.mk ⟨_, Wk.refl _, ?_⟩
              try simp -implicitDefEqProofs (maxSteps := 2000000) [-selQ_sel, h_1, h_2, h_3, h_4, h_5, h_6, h_7, h_8, h_9, h_10, h_11]
          · replace H := HS.cnd_f h_10 H
            try simp -implicitDefEqProofs (maxSteps := 2000000) [-selQ_sel, h_1, h_2, h_3, h_4, h_5, h_6, h_7, h_8, h_9, h_10]
            have hr := (HS.some H).symm; subst hr
            refine Hid.mk ⟨_, Wk.refl _, ?_⟩
            try simp -implicitDefEqProofs (maxSteps := 2000000) [-selQ_sel, h_1, h_2, h_3, h_4, h_5, h_6, h_7, h_8, h_9, h_10]
        · replace H := HS.cnd_f h_8 H
          try simp -implicitDefEqProofs (maxSteps := 2000000) [-selQ_sel, h_1, h_2, h_3, h_4, h_5, h_6, h_7, h_8]
          have hr := (HS.some H).symm; subst hr
          refine Hid.mk ⟨_, Wk.refl _, ?_⟩
          try simp -implicitDefEqProofs (maxSteps := 2000000) [-selQ_sel, h_1, h_2, h_3, h_4, h_5, h_6, h_7, h_8]
      · replace H := HS.cnd_f h_6 H
        try simp -implicitDefEqProofs (maxSteps := 2000000) [-selQ_sel, h_1, h_2, h_3, h_4, h_5, h_6]
        have hr := (HS.some H).symm; subst hr
        refine Hid.mk ⟨_, Wk.refl _, ?_⟩
        try simp -implicitDefEqProofs (maxSteps := 2000000) [-selQ_sel, h_1, h_2, h_3, h_4, h_5, h_6]
    · replace H := HS.cnd_f h_4 H
      try simp -implicitDefEqProofs (maxSteps := 2000000) [-selQ_sel, h_1, h_2, h_3, h_4]
      have hr := (HS.some H).symm; subst hr
      refine Hid.mk ⟨_, Wk.refl _, ?_⟩
      try simp -implicitDefEqProofs (maxSteps := 2000000) [-selQ_sel, h_1, h_2, h_3, h_4]
theorem impl_isMaskBox_ok0 (hm : Try.prog.follows .mixedOrders = true) (k_impl_Empty : Sound Try.prog 158 impl_Empty_x) : Sound Try.prog 152 impl_isMaskBox_x := by
  refine xOf_sound fun q r h => ?_
  revert h; revert r; revert q; intro a0 r h
  refine fn_ok E0 hm Try.func152 rfl (by decide +kernel) (by rfl) fun Γ hn hk => ?_
  dsimp only [impl_isMaskBox_e, impl_isMaskBox_v]
  replace hn : Γ.n = 39 := hn
  replace hk : Γ.k = 0 := hk
  have H : HS (impl_isMaskBox a0) r := h
  clear h; unfold impl_isMaskBox at H
  try simp -implicitDefEqProofs at H
  refine Tr.of_vc (cl := tabC [(158, impl_Empty_x)]) (E := E0) [] (tab_cons k_impl_Empty tab_nil) hm (by rw [hn]; decide +kernel) ?_
  try simp -implicitDefEqProofs (maxSteps := 2000000) [-selQ_sel]
  obtain ⟨v1, h_1, H⟩ := HS.bnd H
  try simp -implicitDefEqProofs (maxSteps := 2000000) [-selQ_sel, h_1]
  refine Hid.selQ (fun h_2 => ?_) (fun h_2 => ?_)
  · replace H := HS.cnd_t h_2 H
    try simp -implicitDefEqProofs (maxSteps := 2000000) [-selQ_sel, h_1, h_2]
    have hr := (HS.some H).symm; subst hr
    refine Hid.mk ⟨_, Wk.refl _, ?_⟩
    try simp -implicitDefEqProofs (maxSteps := 2000000) [-selQ_sel, h_1, h_2]
  · replace H := HS.cnd_f h_2 H
    try simp -implicitDefEqProofs (maxSteps := 2000000) [-selQ_sel, h_1, h_2]
    refine Hid.selQ (fun h_3 => ?_) (fun h_3 => ?_)
    · replace H := HS.cnd_t h_3 H
      try simp -implicitDefEqProofs (maxSteps := 2000000) [-selQ_sel, h_1, h_2, h_3]
      refine Hid.selQ (fun h_4 => ?_) (fun h_4 => ?_)
      · replace H := HS.cnd_t h_4 H
        try simp -implicitDefEqProofs (maxSteps := 2000000) [-selQ_sel, h_1, h_2, h_3, h_4]
        refine Hid.selQ (fun h_5 => ?_) (fun h_5 => ?_)
        · replace H := HS.cnd_t h_5 H
          try simp -implicitDefEqProofs (maxSteps := 2000000) [-selQ_sel, h_1, h_2, h_3, h_4, h_5]
          refine Hid.brV (fun h_6 => ?_) (fun h_6 => ?_)
          · replace H := HS.cnd_t h_6 H
            try simp -implicitDefEqProofs (maxSteps := 2000000) [-selQ_sel, h_1, h_2, h_3, h_4, h_5, h_6]
            refine Hid.selQ (fun h_7 => ?_) (fun h_7 => ?_)
            · replace H := HS.cnd_t h_7 H
              try simp -implicitDefEqProofs (maxSteps := 2000000) [-selQ_sel, h_1, h_2, h_3, h_4, h_5, h_6, h_7]
              have hr := (HS.some H).symm; subst hr
              refine Hid.mk ⟨_, Wk.refl _, ?_⟩
              try simp -implicitDefEqProofs (maxSteps := 2000000) [-selQ_sel, h_1, h_2, h_3, h_4, h_5, h_6, h_7]
            · replace H := HS.cnd_f h_7 H
              try simp -implicitDefEqProofs (maxSteps := 2000000) [-selQ_sel, h_1, h_2, h_3, h_4, h_5, h_6, h_7]
              have hr := (HS.some H).symm; subst hr
              refine Hid.mk ⟨_, Wk.refl _, ?_⟩
              try simp -implicitDefEqProofs (maxSteps := 2000000) [-selQ_sel, h_1, h_2, h_3, h_4, h_5, h_6, h_7]
          · replace H := HS.cnd_f h_6 H
            try simp -implicitDefEqProofs (maxSteps := 2000000) [-selQ_sel, h_1, h_2, h_3, h_4, h_5, h_6]
            have hr := (HS.some H).symm; subst hr
            refine Hid.mk ⟨_, Wk.refl _, ?_⟩
            try simp -implicitDefEqProofs (maxSteps := 2000000) [-selQ_sel, h_1, h_2, h_3, h_4, h_5, h_6]
        · replace H := HS.cnd_f h_5 H
          try simp -implicitDefEqProofs (maxSteps := 2000000) [-selQ_sel, h_1, h_2, h_3, h_4, h_5]
          have hr := (HS.some H).symm; subst hr
          refine Hid.mk ⟨_, Wk.refl _, ?_⟩
          try simp -implicitDefEqProofs (maxSteps := 2000000) [-selQ_sel, h_1, h_2, h_3, h_4, h_5]
      · replace H := HS.cnd_f h_4 H
        try simp -implicitDefEqProofs (maxSteps := 2000000) [-selQ_sel, h_1, h_2, h_3, h_4]
        have hr := (HS.some H).symm; subst hr
        refine Hid.mk ⟨_, Wk.refl _, ?_⟩
        try simp -implicitDefEqProofs (maxSteps := 2000000) [-selQ_sel, h_1, h_2, h_3, h_4]
    · replace H := HS.cnd_f h_3 H
      try simp -implicitDefEqProofs (maxSteps := 2000000) [-selQ_sel, h_1, h_2, h_3]
      have hr := (HS.some H).symm; subst hr
      refine Hid.mk ⟨_, Wk.refl _, ?_⟩
      try simp -implicitDefEqProofs (maxSteps := 2000000) [-selQ_sel, h_1, h_2, h_3]
theorem spec_Covers_ok0 (hm : Try.prog.follows .mixedOrders = true) (k_spec_WindOf : Sound Try.prog 245 spec_WindOf_x) : Sound Try.prog 241 spec_Covers_x := by
  refine xOf_sound fun q r h => ?_
  obtain ⟨a0, a1, a2⟩ := q
  refine fn_ok E0 hm Try.func241 rfl (by decide +kernel) (by rfl) fun Γ hn hk => ?_
  dsimp only [spec_Covers_e, spec_Covers_v]
  replace hn : Γ.n = 29 := hn
  replace hk : Γ.k = 0 := hk
  have H : HS (spec_Covers a0 a1 a2) r := h
  clear h; unfold spec_Covers at H
  try simp -implicitDefEqProofs at H
  refine Tr.of_vc (cl := tabC [(245, spec_WindOf_x)]) (E := E0) [] (tab_cons k_spec_WindOf tab_nil) hm (by rw [hn]; decide +kernel) ?_
  try simp -implicitDefEqProofs +decide (maxSteps := 2000000) [-selQ_sel, hokQ_of]
  obtain ⟨q, h_1, H⟩ := HS.bnd H
  refine Hid.mk (Tr.weak (s' := (spec_Covers_l0_S a0 a1 a2) (0, 0)) (Wk.ofk [0] hk (by rfl) (by simp -implicitDefEqProofs [spec_Covers_l0_S]) (by simp -implicitDefEqProofs [spec_Covers_l0_S])) ?_)
  refine wp_loop_of (S := (spec_Covers_l0_S a0 a1 a2)) (f := (spec_Covers_l0 a0 a1 a2)) (xt := (spec_Covers_l0_X a0 a1 a2)) ?_ ?_ h_1 ?_
  · intro q; simp [spec_Covers_l0_X]
  · clear H h_1 q
    rintro ⟨x3, x4⟩ o R hf hR
    have H : HS (spec_Covers_l0 a0 a1 a2 (x3, x4)) o := hf
    clear hf; unfold spec_Covers_l0 at H
    try simp -implicitDefEqProofs at H
    refine Tr.of_vc (cl := tabC [(245, spec_WindOf_x)]) (E := E0) [] (tab_cons k_spec_WindOf tab_nil) hm (by rw [hn]; decide +kernel) ?_
    try simp -implicitDefEqProofs +decide (maxSteps := 2000000) [-selQ_sel, hokQ_of, spec_Covers_l0_S]
    refine Hid.brV (fun h_2 => ?_) (fun h_2 => ?_)
    · replace H := HS.cnd_t h_2 H
      try simp -implicitDefEqProofs +decide (maxSteps := 2000000) [-selQ_sel, hokQ_of, h_2]
      have hr := (HS.some H).symm; subst hr
      exact Hid.mk ⟨(spec_Covers_l0_X a0 a1 a2 x3).2, Wk.ofk [] hk (by rfl) (by simp -implicitDefEqProofs [spec_Covers_l0_X, h_2]) (by simp -implicitDefEqProofs [spec_Covers_l0_X, h_2]), hR⟩
    · replace H := HS.cnd_f h_2 H
      try simp -implicitDefEqProofs +decide (maxSteps := 2000000) [-selQ_sel, hokQ_of, h_2]
      obtain ⟨v5, h_3, H⟩ := HS.bnd H
      try simp -implicitDefEqProofs +decide (maxSteps := 2000000) [-selQ_sel, hokQ_of, h_2, h_3]
      obtain ⟨v6, h_4, H⟩ := HS.bnd H
      try simp -implicitDefEqProofs +decide (maxSteps := 2000000) [-selQ_sel, hokQ_of, h_2, h_3, h_4]
      have hr := (HS.some H).symm; subst hr
      exact Hid.mk ⟨spec_Covers_l0_S a0 a1 a2 ((IntKind.i64.wrap (x3 + v6)), (IntKind.i64.wrap (x4 + 1))), Wk.ofk [0] hk (by rfl) (by simp -implicitDefEqProofs [spec_Covers_l0_S, h_2, h_3, h_4]) (by simp -implicitDefEqProofs [spec_Covers_l0_S, h_2, h_3, h_4]), hR⟩
  · revert H h_1; revert q; intro y7 h_1 H
    try dsimp only at H
    try simp -implicitDefEqProofs +decide (maxSteps := 2000000) [-selQ_sel, hokQ_of, spec_Covers_l0_X]
    refine Hid.brV (fun h_5 => ?_) (fun h_5 => ?_)
    · replace H := HS.cnd_t h_5 H
      try simp -implicitDefEqProofs +decide (maxSteps := 2000000) [-selQ_sel, hokQ_of, h_5]
      have hr := (HS.some H).symm; subst hr
      refine Hid.mk ⟨_, Wk.refl _, ?_⟩
      try simp -implicitDefEqProofs +decide (maxSteps := 2000000) [-selQ_sel, hokQ_of, h_5]
    · replace H := HS.cnd_f h_5 H
      try simp -implicitDefEqProofs +decide (maxSteps := 2000000) [-selQ_sel, hokQ_of, h_5]
      have hr := (HS.some H).symm; subst hr
      refine Hid.mk ⟨_, Wk.refl _, ?_⟩
      try simp -implicitDefEqProofs +decide (maxSteps := 2000000) [-selQ_sel, hokQ_of, h_5]
theorem impl_Blend_1_ok0 (hm : Try.prog.follows .mixedOrders = true) (k_impl_Times255 : Sound Try.prog 176 impl_Times255_x) (k_impl_RoundDiv : Sound Try.prog 177 impl_RoundDiv_x) : Sound Try.prog 175 impl_Blend_1_x := by
  refine xOf_sound fun q r h => ?_
  obtain ⟨a0, a1, a2, a3, a4⟩ := q
  refine fn_ok E0 hm Try.func175 rfl (by decide +kernel) (by rfl) fun Γ hn hk => ?_
  dsimp only [impl_Blend_1_e, impl_Blend_1_v]
  replace hn : Γ.n = 49 := hn
  replace hk : Γ.k = 0 := hk
  have H : HS (impl_Blend_1 a0 a1 a2 a3 a4) r := h
  clear h; unfold impl_Blend_1 at H
  try simp -implicitDefEqProofs at H
  refine Tr.of_vc (cl := tabC [(176, impl_Times255_x), (177, impl_RoundDiv_x)]) (E := E0) [] (tab_cons k_impl_Times255 (tab_cons k_impl_RoundDiv tab_nil)) hm (by rw [hn]; decide +kernel) ?_
  try simp -implicitDefEqProofs (maxSteps := 2000000) [-selQ_sel]
  obtain ⟨v1, h_1, H⟩ := HS.bnd H
  try simp -implicitDefEqProofs (maxSteps := 2000000) [-selQ_sel, h_1]
  refine Hid.brV (fun h_2 => ?_) (fun h_2 => ?_)
  · replace H := HS.cnd_t h_2 H
    try simp -implicitDefEqProofs (maxSteps := 2000000) [-selQ_sel, h_1, h_2]
    have hr := (HS.some H).symm; subst hr
    refine Hid.mk ⟨_, Wk.refl _, ?_⟩
    try simp -implicitDefEqProofs (maxSteps := 2000000) [-selQ_sel, h_1, h_2]
  · replace H := HS.cnd_f h_2 H
    try simp -implicitDefEqProofs (maxSteps := 2000000) [-selQ_sel, h_1, h_2]
    refine Hid.brV (fun h_3 => ?_) (fun h_3 => ?_)
    · replace H := HS.cnd_t h_3 H
      try simp -implicitDefEqProofs (maxSteps := 2000000) [-selQ_sel, h_1, h_2, h_3]
      obtain ⟨v2, h_4, H⟩ := HS.bnd H
      try simp -implicitDefEqProofs (maxSteps := 2000000) [-selQ_sel, h_1, h_2, h_3, h_4]
      have hr := (HS.some H).symm; subst hr
      refine Hid.mk ⟨_, Wk.refl _, ?_⟩
      try simp -implicitDefEqProofs (maxSteps := 2000000) [-selQ_sel, h_1, h_2, h_3, h_4]
    · replace H := HS.cnd_f h_3 H
      try simp -implicitDefEqProofs (maxSteps := 2000000) [-selQ_sel, h_1, h_2, h_3]
      refine Hid.brV (fun h_5 => ?_) (fun h_5 => ?_)
      · replace H := HS.cnd_t h_5 H
        try simp -implicitDefEqProofs (maxSteps := 2000000) [-selQ_sel, h_1, h_2, h_3, h_5]
        obtain ⟨v3, h_6, H⟩ := HS.bnd H
        try simp -implicitDefEqProofs (maxSteps := 2000000) [-selQ_sel, h_1, h_2, h_3, h_5, h_6]
        have hr := (HS.some H).symm; subst hr
        refine Hid.mk ⟨_, Wk.refl _, ?_⟩
        try simp -implicitDefEqProofs (maxSteps := 2000000) [-selQ_sel, h_1, h_2, h_3, h_5, h_6]
      · replace H := HS.cnd_f h_5 H
        try simp -implicitDefEqProofs (maxSteps := 2000000) [-selQ_sel, h_1, h_2, h_3, h_5]
        refine Hid.brV (fun h_7 => ?_) (fun h_7 => ?_)
        · replace H := HS.cnd_t h_7 H
          try simp -implicitDefEqProofs (maxSteps := 2000000) [-selQ_sel, h_1, h_2, h_3, h_5, h_7]
          have hr := (HS.some H).symm; subst hr
          refine Hid.mk ⟨_, Wk.refl _, ?_⟩
          try simp -implicitDefEqProofs (maxSteps := 2000000) [-selQ_sel, h_1, h_2, h_3, h_5, h_7]
        · replace H := HS.cnd_f h_7 H
          try simp -implicitDefEqProofs (maxSteps := 2000000) [-selQ_sel, h_1, h_2, h_3, h_5, h_7]
          have hr := (HS.some H).symm; subst hr
          refine Hid.mk ⟨_, Wk.refl _, ?_⟩
          try simp -implicitDefEqProofs (maxSteps := 2000000) [-selQ_sel, h_1, h_2, h_3, h_5, h_7]
theorem spec_Thin_ok0 (hm : Try.prog.follows .mixedOrders = true) (k_spec_LaidOk : Sound Try.prog 121 spec_LaidOk_x) (k_spec_l01In : Sound Try.prog 73 spec_l01In_x) (k_spec_RoundDiv : Sound Try.prog 124 spec_RoundDiv_x) : Sound Try.prog 44 spec_Thin_x := by
  refine xOf_sound fun q r h => ?_
  obtain ⟨a0, a1⟩ := q
  refine fn_ok E0 hm Try.func44 rfl (by decide +kernel) (by rfl) fun Γ hn hk => ?_
  dsimp only [spec_Thin_e, spec_Thin_v]
  replace hn : Γ.n = 35 := hn
  replace hk : Γ.k = 0 := hk
  have H : HS (spec_Thin a0 a1) r := h
  clear h; unfold spec_Thin at H
  try simp -implicitDefEqProofs at H
  refine Tr.of_vc (cl := tabC [(121, spec_LaidOk_x), (73, spec_l01In_x), (124, spec_RoundDiv_x)]) (E := E0) [] (tab_cons k_spec_LaidOk (tab_cons k_spec_l01In (tab_cons k_spec_RoundDiv tab_nil))) hm (by rw [hn]; decide +kernel) ?_
  try simp -implicitDefEqProofs +decide (maxSteps := 2000000) [-selQ_sel, hokQ_of]
  obtain ⟨v1, h_1, H⟩ := HS.bnd H
  try simp -implicitDefEqProofs +decide (maxSteps := 2000000) [-selQ_sel, hokQ_of, h_1]
  refine Hid.selQ (fun h_2 => ?_) (fun h_2 => ?_)
  · replace H := HS.cnd_t h_2 H
    try simp -implicitDefEqProofs +decide (maxSteps := 2000000) [-selQ_sel, hokQ_of, h_1, h_2]
    obtain ⟨v2, h_3, H⟩ := HS.bnd H
    try simp -implicitDefEqProofs +decide (maxSteps := 2000000) [-selQ_sel, hokQ_of, h_1, h_2, h_3]
    refine Hid.brV (fun h_4 => ?_) (fun h_4 => ?_)
    · replace H := HS.cnd_t h_4 H
      try simp -implicitDefEqProofs +decide (maxSteps := 2000000) [-selQ_sel, hokQ_of, h_1, h_2, h_3, h_4]
      obtain ⟨v3, h_5, H⟩ := HS.bnd H
      try simp -implicitDefEqProofs +decide (maxSteps := 2000000) [-selQ_sel, hokQ_of, h_1, h_2, h_3, h_4, h_5]
      obtain ⟨v4, h_6, H⟩ := HS.bnd H
      try simp -implicitDefEqProofs +decide (maxSteps := 2000000) [-selQ_sel, hokQ_of, h_1, h_2, h_3, h_4, h_5, h_6]
      obtain ⟨v5, h_7, H⟩ := HS.bnd H
      try simp -implicitDefEqProofs +decide (maxSteps := 2000000) [-selQ_sel, hokQ_of, h_1, h_2, h_3, h_4, h_5, h_6, h_7]
      obtain ⟨v6, h_8, H⟩ := HS.bnd H
      try simp -implicitDefEqProofs +decide (maxSteps := 2000000) [-selQ_sel, hokQ_of, h_1, h_2, h_3, h_4, h_5, h_6, h_7, h_8]
      have hr := (HS.some H).symm; subst hr
      refine Hid.mk ⟨_, Wk.refl _, ?_⟩
      try simp -implicitDefEqProofs +decide (maxSteps := 2000000) [-selQ_sel, hokQ_of, h_1, h_2, h_3, h_4, h_5, h_6, h_7, h_8]
    · replace H := HS.cnd_f h_4 H
      try simp -implicitDefEqProofs +decide (maxSteps := 2000000) [-selQ_sel, hokQ_of, h_1, h_2, h_3, h_4]
      have hr := (HS.some H).symm; subst hr
      refine Hid.mk ⟨_, Wk.refl _, ?_⟩
      try simp -implicitDefEqProofs +decide (maxSteps := 2000000) [-selQ_sel, hokQ_of, h_1, h_2, h_3, h_4]
  · replace H := HS.cnd_f h_2 H
    try simp -implicitDefEqProofs +decide (maxSteps := 2000000) [-selQ_sel, hokQ_of, h_1, h_2]
    have hr := (HS.some H).symm; subst hr
    refine Hid.mk ⟨_, Wk.refl _, ?_⟩
    try simp -implicitDefEqProofs +decide (maxSteps := 2000000) [-selQ_sel, hokQ_of, h_1, h_2]
theorem impl_ColorOk_ok0 (hm : Try.prog.follows .mixedOrders = true) (k_impl_isByte : Sound Try.prog 178 impl_isByte_x) : Sound Try.prog 180 impl_ColorOk_x := by
  refine xOf_sound fun q r h => ?_
  revert h; revert r; revert q; intro a0 r h
  refine fn_ok E0 hm Try.func180 rfl (by decide +kernel) (by rfl) fun Γ hn hk => ?_
  dsimp only [impl_ColorOk_e, impl_ColorOk_v]
  replace hn : Γ.n = 21 := hn
  replace hk : Γ.k = 0 := hk
  have H : HS (impl_ColorOk a0) r := h
  clear h; unfold impl_ColorOk at H
  try simp -implicitDefEqProofs at H
  refine Tr.of_vc (cl := tabC [(178, impl_isByte_x)]) (E := E0) [] (tab_cons k_impl_isByte tab_nil) hm (by rw [hn]; decide +kernel) ?_
  try simp -implicitDefEqProofs (maxSteps := 2000000) [-selQ_sel]
  obtain ⟨v1, h_1, H⟩ := HS.bnd H
  try simp -implicitDefEqProofs (maxSteps := 2000000) [-selQ_sel, h_1]
  refine Hid.selQ (fun h_2 => ?_) (fun h_2 => ?_)
  · replace H := HS.cnd_t h_2 H
    try simp -implicitDefEqProofs (maxSteps := 2000000) [-selQ_sel, h_1, h_2]
    obtain ⟨v2, h_3, H⟩ := HS.bnd H
    try simp -implicitDefEqProofs (maxSteps := 2000000) [-selQ_sel, h_1, h_2, h_3]
    refine Hid.selQ (fun h_4 => ?_) (fun h_4 => ?_)
    · replace H := HS.cnd_t h_4 H
      try simp -implicitDefEqProofs (maxSteps := 2000000) [-selQ_sel, h_1, h_2, h_3, h_4]
      obtain ⟨v3, h_5, H⟩ := HS.bnd H
      try simp -implicitDefEqProofs (maxSteps := 2000000) [-selQ_sel, h_1, h_2, h_3, h_4, h_5]
      refine Hid.selQ (fun h_6 => ?_) (fun h_6 => ?_)
      · replace H := HS.cnd_t h_6 H
        try simp -implicitDefEqProofs (maxSteps := 2000000) [-selQ_sel, h_1, h_2, h_3, h_4, h_5, h_6]
        obtain ⟨v4, h_7, H⟩ := HS.bnd H
        try simp -implicitDefEqProofs (maxSteps := 2000000) [-selQ_sel, h_1, h_2, h_3, h_4, h_5, h_6, h_7]
        have hr := (HS.some H).symm; subst hr
        refine Hid.mk ⟨_, Wk.refl _, ?_⟩
        try simp -implicitDefEqProofs (maxSteps := 2000000) [-selQ_sel, h_1, h_2, h_3, h_4, h_5, h_6, h_7]
      · replace H := HS.cnd_f h_6 H
        try simp -implicitDefEqProofs (maxSteps := 2000000) [-selQ_sel, h_1, h_2, h_3, h_4, h_5, h_6]
        have hr := (HS.some H).symm; subst hr
        refine Hid.mk ⟨_, Wk.refl _, ?_⟩
        try simp -implicitDefEqProofs (maxSteps := 2000000) [-selQ_sel, h_1, h_2, h_3, h_4, h_5, h_6]
    · replace H := HS.cnd_f h_4 H
      try simp -implicitDefEqProofs (maxSteps := 2000000) [-selQ_sel, h_1, h_2, h_3, h_4]
      have hr := (HS.some H).symm; subst hr
      refine Hid.mk ⟨_, Wk.refl _, ?_⟩
      try simp -implicitDefEqProofs (maxSteps := 2000000) [-selQ_sel, h_1, h_2, h_3, h_4]
  · replace H := HS.cnd_f h_2 H
    try simp -implicitDefEqProofs (maxSteps := 2000000) [-selQ_sel, h_1, h_2]
    have hr := (HS.some H).symm; subst hr
    refine Hid.mk ⟨_, Wk.refl _, ?_⟩
    try simp -implicitDefEqProofs (maxSteps := 2000000) [-selQ_sel, h_1, h_2]
theorem spec_l01Below_ok0 (hm : Try.prog.follows .mixedOrders = true) (k_spec_l01Byte : Sound Try.prog 109 spec_l01Byte_x) : Sound Try.prog 110 spec_l01Below_x := by
  refine xOf_sound fun q r h => ?_
  obtain ⟨a0, a1⟩ := q
  refine fn_ok E0 hm Try.func110 rfl (by decide +kernel) (by rfl) fun Γ hn hk => ?_
  dsimp only [spec_l01Below_e, spec_l01Below_v]
  replace hn : Γ.n = 37 := hn
  replace hk : Γ.k = 1 := hk
  have H : HS (spec_l01Below a0 a1) r := h
  clear h; unfold spec_l01Below at H
  try simp -implicitDefEqProofs at H
  refine Tr.of_vc (cl := tabC [(109, spec_l01Byte_x)]) (E := E0) [] (tab_cons k_spec_l01Byte tab_nil) hm (by rw [hn]; decide +kernel) ?_
  try simp -implicitDefEqProofs (maxSteps := 2000000) [-selQ_sel]
  refine Hid.brV (fun h_1 => ?_) (fun h_1 => ?_)
  · replace H := HS.cnd_t h_1 H
    try simp -implicitDefEqProofs (maxSteps := 2000000) [-selQ_sel, h_1]
    have hr := (HS.some H).symm; subst hr
    refine Hid.mk ⟨_, Wk.refl _, ?_⟩
    try simp -implicitDefEqProofs (maxSteps := 2000000) [-selQ_sel, h_1]
  · replace H := HS.cnd_f h_1 H
    try simp -implicitDefEqProofs (maxSteps := 2000000) [-selQ_sel, h_1]
    refine Hid.brV (fun h_2 => ?_) (fun h_2 => ?_)
    · replace H := HS.cnd_t h_2 H
      try simp -implicitDefEqProofs (maxSteps := 2000000) [-selQ_sel, h_1, h_2]
      obtain ⟨⟨w2, w3⟩, h_3, H⟩ := HS.bnd H
      dsimp only at H
      try simp -implicitDefEqProofs (maxSteps := 2000000) [-selQ_sel, h_1, h_2, h_3]
      obtain ⟨h_4, H⟩ := HS.chkP H
      try simp -implicitDefEqProofs (maxSteps := 2000000) [-selQ_sel, h_1, h_2, h_3, h_4]
      have hr := (HS.some H).symm; subst hr
      refine Hid.mk ⟨_, Wk.refl _, ?_⟩
      try simp -implicitDefEqProofs (maxSteps := 2000000) [-selQ_sel, h_1, h_2, h_3, h_4]
    · replace H := HS.cnd_f h_2 H
      try simp -implicitDefEqProofs (maxSteps := 2000000) [-selQ_sel, h_1, h_2]
      obtain ⟨⟨w5, w6⟩, h_5, H⟩ := HS.bnd H
      dsimp only at H
      try simp -implicitDefEqProofs (maxSteps := 2000000) [-selQ_sel, h_1, h_2, h_5]
      obtain ⟨⟨w8, w9⟩, h_6, H⟩ := HS.bnd H
      dsimp only at H
      try simp -implicitDefEqProofs (maxSteps := 2000000) [-selQ_sel, h_1, h_2, h_5, h_6]
      obtain ⟨⟨w11, w12⟩, h_7, H⟩ := HS.bnd H
      dsimp only at H
      try simp -implicitDefEqProofs (maxSteps := 2000000) [-selQ_sel, h_1, h_2, h_5, h_6, h_7]
      obtain ⟨⟨w14, w15⟩, h_8, H⟩ := HS.bnd H
      dsimp only at H
      try simp -implicitDefEqProofs (maxSteps := 2000000) [-selQ_sel, h_1, h_2, h_5, h_6, h_7, h_8]
      obtain ⟨h_9, H⟩ := HS.chkP H
      try simp -implicitDefEqProofs (maxSteps := 2000000) [-selQ_sel, h_1, h_2, h_5, h_6, h_7, h_8, h_9]
      have hr := (HS.some H).symm; subst hr
      refine Hid.mk ⟨_, Wk.refl _, ?_⟩
      try simp -implicitDefEqProofs (maxSteps := 2000000) [-selQ_sel, h_1, h_2, h_5, h_6, h_7, h_8, h_9]
theorem impl_SurfaceNew_ok0 (hm : Try.prog.follows .mixedOrders = true) (k_impl_isSide : Sound Try.prog 102 impl_isSide_x) : Sound Try.prog 30 impl_SurfaceNew_x := by
  refine xOf_sound fun q r h => ?_
  obtain ⟨a0, a1⟩ := q
  refine fn_ok E0 hm Try.func30 rfl (by decide +kernel) (by rfl) fun Γ hn hk => ?_
  dsimp only [impl_SurfaceNew_e, impl_SurfaceNew_v]
  replace hn : Γ.n = 22 := hn
  replace hk : Γ.k = 0 := hk
  have H : HS (impl_SurfaceNew a0 a1) r := h
  clear h; unfold impl_SurfaceNew at H
  try simp -implicitDefEqProofs at H
  refine Tr.of_vc (cl := tabC [(102, impl_isSide_x)]) (E := E0) [] (tab_cons k_impl_isSide tab_nil) hm (by rw [hn]; decide +kernel) ?_
  try simp -implicitDefEqProofs (maxSteps := 2000000) [-selQ_sel]
  obtain ⟨v1, h_1, H⟩ := HS.bnd H
  try simp -implicitDefEqProofs (maxSteps := 2000000) [-selQ_sel, h_1]
  refine Hid.selQ (fun h_2 => ?_) (fun h_2 => ?_)
  · replace H := HS.cnd_t h_2 H
    try simp -implicitDefEqProofs (maxSteps := 2000000) [-selQ_sel, h_1, h_2]
    obtain ⟨v2, h_3, H⟩ := HS.bnd H
    try simp -implicitDefEqProofs (maxSteps := 2000000) [-selQ_sel, h_1, h_2, h_3]
    refine Hid.brV (fun h_4 => ?_) (fun h_4 => ?_)
    · replace H := HS.cnd_t h_4 H
      try simp -implicitDefEqProofs (maxSteps := 2000000) [-selQ_sel, h_1, h_2, h_3, h_4]
      obtain ⟨h_5, H⟩ := HS.chkP H
      try simp -implicitDefEqProofs (maxSteps := 2000000) [-selQ_sel, h_1, h_2, h_3, h_4, h_5]
      obtain ⟨l3, h_6, H⟩ := HS.nam H
      have m_7 := congrArg (List.map eColor) h_6
      have q_8 := congrArg List.length h_6
      simp -implicitDefEqProofs at m_7 q_8
      try simp only [q_8] at m_7
      try simp only [q_8] at h_5
      try simp -implicitDefEqProofs (maxSteps := 2000000) [-selQ_sel, h_1, h_2, h_3, h_4, h_5, m_7, q_8]
      have hr := (HS.some H).symm; subst hr
      refine Hid.mk ⟨_, Wk.refl _, ?_⟩
      try simp -implicitDefEqProofs (maxSteps := 2000000) [-selQ_sel, h_1, h_2, h_3, h_4, h_5, m_7, q_8]
    · replace H := HS.cnd_f h_4 H
      try simp -implicitDefEqProofs (maxSteps := 2000000) [-selQ_sel, h_1, h_2, h_3, h_4]
      have hr := (HS.some H).symm; subst hr
      refine Hid.mk ⟨_, Wk.refl _, ?_⟩
      try simp -implicitDefEqProofs (maxSteps := 2000000) [-selQ_sel, h_1, h_2, h_3, h_4]
  · replace H := HS.cnd_f h_2 H
    try simp -implicitDefEqProofs (maxSteps := 2000000) [-selQ_sel, h_1, h_2]
    have hr := (HS.some H).symm; subst hr
    refine Hid.mk ⟨_, Wk.refl _, ?_⟩
    try simp -implicitDefEqProofs (maxSteps := 2000000) [-selQ_sel, h_1, h_2]
theorem spec_LaidOk_ok0 (hm : Try.prog.follows .mixedOrders = true) (k_spec_ColorOk : Sound Try.prog 193 spec_ColorOk_x) : Sound Try.prog 121 spec_LaidOk_x := by
  refine xOf_sound fun q r h => ?_
  revert h; revert r; revert q; intro a0 r h
  refine fn_ok E0 hm Try.func121 rfl (by decide +kernel) (by rfl) fun Γ hn hk => ?_
  dsimp only [spec_LaidOk_e, spec_LaidOk_v]
  replace hn : Γ.n = 26 := hn
  replace hk : Γ.k = 0 := hk
  have H : HS (spec_LaidOk a0) r := h
  clear h; unfold spec_LaidOk at H
  try simp -implicitDefEqProofs at H
  refine Tr.of_vc (cl := tabC [(193, spec_ColorOk_x)]) (E := E0) [] (tab_cons k_spec_ColorOk tab_nil) hm (by rw [hn]; decide +kernel) ?_
  try simp -implicitDefEqProofs (maxSteps := 2000000) [-selQ_sel]
  obtain ⟨v1, h_1, H⟩ := HS.bnd H
  try simp -implicitDefEqProofs (maxSteps := 2000000) [-selQ_sel, h_1]
  refine Hid.selQ (fun h_2 => ?_) (fun h_2 => ?_)
  · replace H := HS.cnd_t h_2 H
    try simp -implicitDefEqProofs (maxSteps := 2000000) [-selQ_sel, h_1, h_2]
    refine Hid.selQ (fun h_3 => ?_) (fun h_3 => ?_)
    · replace H := HS.cnd_t h_3 H
      try simp -implicitDefEqProofs (maxSteps := 2000000) [-selQ_sel, h_1, h_2, h_3]
      refine Hid.selQ (fun h_4 => ?_) (fun h_4 => ?_)
      · replace H := HS.cnd_t h_4 H
        try simp -implicitDefEqProofs (maxSteps := 2000000) [-selQ_sel, h_1, h_2, h_3, h_4]
        have hr := (HS.some H).symm; subst hr
        refine Hid.mk ⟨_, Wk.refl _, ?_⟩
        try simp -implicitDefEqProofs (maxSteps := 2000000) [-selQ_sel, h_1, h_2, h_3, h_4]
      · replace H := HS.cnd_f h_4 H
        try simp -implicitDefEqProofs (maxSteps := 2000000) [-selQ_sel, h_1, h_2, h_3, h_4]
        have hr := (HS.some H).symm; subst hr
        refine Hid.mk ⟨_, Wk.refl _, ?_⟩
        try simp -implicitDefEqProofs (maxSteps := 2000000) [-selQ_sel, h_1, h_2, h_3, h_4]
    · replace H := HS.cnd_f h_3 H
      try simp -implicitDefEqProofs (maxSteps := 2000000) [-selQ_sel, h_1, h_2, h_3]
      have hr := (HS.some H).symm; subst hr
      refine Hid.mk ⟨_, Wk.refl _, ?_⟩
      try simp -implicitDefEqProofs (maxSteps := 2000000) [-selQ_sel, h_1, h_2, h_3]
  · replace H := HS.cnd_f h_2 H
    try simp -implicitDefEqProofs (maxSteps := 2000000) [-selQ_sel, h_1, h_2]
    have hr := (HS.some H).symm; subst hr
    refine Hid.mk ⟨_, Wk.refl _, ?_⟩
    try simp -implicitDefEqProofs (maxSteps := 2000000) [-selQ_sel, h_1, h_2]
theorem impl_Fade_ok0 (hm : Try.prog.follows .mixedOrders = true) (k_impl_isByte : Sound Try.prog 178 impl_isByte_x) (k_impl_LaidOk : Sound Try.prog 112 impl_LaidOk_x) (k_impl_each_Fade_1 : Sound Try.prog 174 impl_each_Fade_1_x) : Sound Try.prog 108 impl_Fade_x := by
  refine xOf_sound fun q r h => ?_
  obtain ⟨a0, a1⟩ := q
  refine fn_ok E0 hm Try.func108 rfl (by decide +kernel) (by rfl) fun Γ hn hk => ?_
  dsimp only [impl_Fade_e, impl_Fade_v]
  replace hn : Γ.n = 18 := hn
  replace hk : Γ.k = 0 := hk
  have H : HS (impl_Fade a0 a1) r := h
  clear h; unfold impl_Fade at H
  try simp -implicitDefEqProofs at H
  refine Tr.of_vc (cl := tabC [(178, impl_isByte_x), (112, impl_LaidOk_x), (174, impl_each_Fade_1_x)]) (E := E0) [] (tab_cons k_impl_isByte (tab_cons k_impl_LaidOk (tab_cons k_impl_each_Fade_1 tab_nil))) hm (by rw [hn]; decide +kernel) ?_
  try simp -implicitDefEqProofs (maxSteps := 2000000) [-selQ_sel]
  obtain ⟨v1, h_1, H⟩ := HS.bnd H
  try simp -implicitDefEqProofs (maxSteps := 2000000) [-selQ_sel, h_1]
  refine Hid.selQ (fun h_2 => ?_) (fun h_2 => ?_)
  · replace H := HS.cnd_t h_2 H
    try simp -implicitDefEqProofs (maxSteps := 2000000) [-selQ_sel, h_1, h_2]
    obtain ⟨v2, h_3, H⟩ := HS.bnd H
    try simp -implicitDefEqProofs (maxSteps := 2000000) [-selQ_sel, h_1, h_2, h_3]
    refine Hid.brV (fun h_4 => ?_) (fun h_4 => ?_)
    · replace H := HS.cnd_t h_4 H
      try simp -implicitDefEqProofs (maxSteps := 2000000) [-selQ_sel, h_1, h_2, h_3, h_4]
      obtain ⟨v3, h_5, H⟩ := HS.bnd H
      try simp -implicitDefEqProofs (maxSteps := 2000000) [-selQ_sel, h_1, h_2, h_3, h_4, h_5]
      have hr := (HS.some H).symm; subst hr
      refine Hid.mk ⟨_, Wk.refl _, ?_⟩
      try simp -implicitDefEqProofs (maxSteps := 2000000) [-selQ_sel, h_1, h_2, h_3, h_4, h_5]
    · replace H := HS.cnd_f h_4 H
      try simp -implicitDefEqProofs (maxSteps := 2000000) [-selQ_sel, h_1, h_2, h_3, h_4]
      have hr := (HS.some H).symm; subst hr
      refine Hid.mk ⟨_, Wk.refl _, ?_⟩
      try simp -implicitDefEqProofs (maxSteps := 2000000) [-selQ_sel, h_1, h_2, h_3, h_4]
  · replace H := HS.cnd_f h_2 H
    try simp -implicitDefEqProofs (maxSteps := 2000000) [-selQ_sel, h_1, h_2]
    have hr := (HS.some H).symm; subst hr
    refine Hid.mk ⟨_, Wk.refl _, ?_⟩
    try simp -implicitDefEqProofs (maxSteps := 2000000) [-selQ_sel, h_1, h_2]
theorem impl_Laid_ok0 (hm : Try.prog.follows .mixedOrders = true) (k_impl_ColorOk : Sound Try.prog 180 impl_ColorOk_x) (k_impl_Times255 : Sound Try.prog 176 impl_Times255_x) : Sound Try.prog 228 impl_Laid_x := by
  refine xOf_sound fun q r h => ?_
  revert h; revert r; revert q; intro a0 r h
  refine fn_ok E0 hm Try.func228 rfl (by decide +kernel) (by rfl) fun Γ hn hk => ?_
  dsimp only [impl_Laid_e, impl_Laid_v]
  replace hn : Γ.n = 25 := hn
  replace hk : Γ.k = 0 := hk
  have H : HS (impl_Laid a0) r := h
  clear h; unfold impl_Laid at H
  try simp -implicitDefEqProofs at H
  refine Tr.of_vc (cl := tabC [(180, impl_ColorOk_x), (176, impl_Times255_x)]) (E := E0) [] (tab_cons k_impl_ColorOk (tab_cons k_impl_Times255 tab_nil)) hm (by rw [hn]; decide +kernel) ?_
  try simp -implicitDefEqProofs +decide (maxSteps := 2000000) [-selQ_sel, hokQ_of]
  obtain ⟨v1, h_1, H⟩ := HS.bnd H
  try simp -implicitDefEqProofs +decide (maxSteps := 2000000) [-selQ_sel, hokQ_of, h_1]
  refine Hid.brV (fun h_2 => ?_) (fun h_2 => ?_)
  · replace H := HS.cnd_t h_2 H
    try simp -implicitDefEqProofs +decide (maxSteps := 2000000) [-selQ_sel, hokQ_of, h_1, h_2]
    obtain ⟨v2, h_3, H⟩ := HS.bnd H
    try simp -implicitDefEqProofs +decide (maxSteps := 2000000) [-selQ_sel, hokQ_of, h_1, h_2, h_3]
    obtain ⟨v3, h_4, H⟩ := HS.bnd H
    try simp -implicitDefEqProofs +decide (maxSteps := 2000000) [-selQ_sel, hokQ_of, h_1, h_2, h_3, h_4]
    obtain ⟨v4, h_5, H⟩ := HS.bnd H
    try simp -implicitDefEqProofs +decide (maxSteps := 2000000) [-selQ_sel, hokQ_of, h_1, h_2, h_3, h_4, h_5]
    have hr := (HS.some H).symm; subst hr
    refine Hid.mk ⟨_, Wk.refl _, ?_⟩
    try simp -implicitDefEqProofs +decide (maxSteps := 2000000) [-selQ_sel, hokQ_of, h_1, h_2, h_3, h_4, h_5]
  · replace H := HS.cnd_f h_2 H
    try simp -implicitDefEqProofs +decide (maxSteps := 2000000) [-selQ_sel, hokQ_of, h_1, h_2]
    have hr := (HS.some H).symm; subst hr
    refine Hid.mk ⟨_, Wk.refl _, ?_⟩
    try simp -implicitDefEqProofs +decide (maxSteps := 2000000) [-selQ_sel, hokQ_of, h_1, h_2]
theorem impl_RoundDiv_ok0 (hm : Try.prog.follows .mixedOrders = true) (k_impl_FloorDiv : Sound Try.prog 220 impl_FloorDiv_x) : Sound Try.prog 177 impl_RoundDiv_x := by
  refine xOf_sound fun q r h => ?_
  obtain ⟨a0, a1⟩ := q
  refine fn_ok E0 hm Try.func177 rfl (by decide +kernel) (by rfl) fun Γ hn hk => ?_
  dsimp only [impl_RoundDiv_e, impl_RoundDiv_v]
  replace hn : Γ.n = 25 := hn
  replace hk : Γ.k = 0 := hk
  have H : HS (impl_RoundDiv a0 a1) r := h
  clear h; unfold impl_RoundDiv at H
  try simp -implicitDefEqProofs at H
  refine Tr.of_vc (cl := tabC [(220, impl_FloorDiv_x)]) (E := E0) [] (tab_cons k_impl_FloorDiv tab_nil) hm (by rw [hn]; decide +kernel) ?_
  try simp -implicitDefEqProofs (maxSteps := 2000000) [-selQ_sel]
  refine Hid.brV (fun h_1 => ?_) (fun h_1 => ?_)
  · replace H := HS.cnd_t h_1 H
    try simp -implicitDefEqProofs (maxSteps := 2000000) [-selQ_sel, h_1]
    obtain ⟨v1, h_2, H⟩ := HS.bnd H
    try simp -implicitDefEqProofs (maxSteps := 2000000) [-selQ_sel, h_1, h_2]
    refine Hid.brV (fun h_3 => ?_) (fun h_3 => ?_)
    · replace H := HS.cnd_t h_3 H
      try simp -implicitDefEqProofs (maxSteps := 2000000) [-selQ_sel, h_1, h_2, h_3]
      have hr := (HS.some H).symm; subst hr
      refine Hid.mk ⟨_, Wk.refl _, ?_⟩
      try simp -implicitDefEqProofs (maxSteps := 2000000) [-selQ_sel, h_1, h_2, h_3]
    · replace H := HS.cnd_f h_3 H
      try simp -implicitDefEqProofs (maxSteps := 2000000) [-selQ_sel, h_1, h_2, h_3]
      have hr := (HS.some H).symm; subst hr
      refine Hid.mk ⟨_, Wk.refl _, ?_⟩
      try simp -implicitDefEqProofs (maxSteps := 2000000) [-selQ_sel, h_1, h_2, h_3]
  · replace H := HS.cnd_f h_1 H
    try simp -implicitDefEqProofs (maxSteps := 2000000) [-selQ_sel, h_1]
    have hr := (HS.some H).symm; subst hr
    refine Hid.mk ⟨_, Wk.refl _, ?_⟩
    try simp -implicitDefEqProofs (maxSteps := 2000000) [-selQ_sel, h_1]
theorem impl_FloorDiv_ok0 (hm : Try.prog.follows .mixedOrders = true) : Sound Try.prog 220 impl_FloorDiv_x := by
  refine xOf_sound fun q r h => ?_
  obtain ⟨a0, a1⟩ := q
  refine fn_ok E0 hm Try.func220 rfl (by decide +kernel) (by rfl) fun Γ hn hk => ?_
  dsimp only [impl_FloorDiv_e, impl_FloorDiv_v]
  replace hn : Γ.n = 18 := hn
  replace hk : Γ.k = 0 := hk
  have H : HS (impl_FloorDiv a0 a1) r := h
  clear h; unfold impl_FloorDiv at H
  try simp -implicitDefEqProofs at H
  refine Tr.of_vc (cl := tabC []) (E := E0) [] tab_nil hm (by rw [hn]; decide +kernel) ?_
  try simp -implicitDefEqProofs (maxSteps := 2000000) [-selQ_sel]
  refine Hid.brV (fun h_1 => ?_) (fun h_1 => ?_)
  · replace H := HS.cnd_t h_1 H
    try simp -implicitDefEqProofs (maxSteps := 2000000) [-selQ_sel, h_1]
    obtain ⟨h_2, H⟩ := HS.chkP H
    try simp -implicitDefEqProofs (maxSteps := 2000000) [-selQ_sel, h_1, h_2]
    refine Hid.brV (fun h_3 => ?_) (fun h_3 => ?_)
    · replace H := HS.cnd_t h_3 H
      try simp -implicitDefEqProofs (maxSteps := 2000000) [-selQ_sel, h_1, h_2, h_3]
      have hr := (HS.some H).symm; subst hr
      refine Hid.mk ⟨_, Wk.refl _, ?_⟩
      try simp -implicitDefEqProofs (maxSteps := 2000000) [-selQ_sel, h_1, h_2, h_3]
    · replace H := HS.cnd_f h_3 H
      try simp -implicitDefEqProofs (maxSteps := 2000000) [-selQ_sel, h_1, h_2, h_3]
      have hr := (HS.some H).symm; subst hr
      refine Hid.mk ⟨_, Wk.refl _, ?_⟩
      try simp -implicitDefEqProofs (maxSteps := 2000000) [-selQ_sel, h_1, h_2, h_3]
  · replace H := HS.cnd_f h_1 H
    try simp -implicitDefEqProofs (maxSteps := 2000000) [-selQ_sel, h_1]
    have hr := (HS.some H).symm; subst hr
    refine Hid.mk ⟨_, Wk.refl _, ?_⟩
    try simp -implicitDefEqProofs (maxSteps := 2000000) [-selQ_sel, h_1]
theorem impl_Mask_bitsAt_ok0 (hm : Try.prog.follows .mixedOrders = true) (k_impl_InBox : Sound Try.prog 188 impl_InBox_x) : Sound Try.prog 118 impl_Mask_bitsAt_x := by
  refine xOf_sound fun q r h => ?_
  obtain ⟨a0, a1, a2⟩ := q
  refine fn_ok E0 hm Try.func118 rfl (by decide +kernel) (by rfl) fun Γ hn hk => ?_
  dsimp only [impl_Mask_bitsAt_e, impl_Mask_bitsAt_v]
  replace hn : Γ.n = 49 := hn
  replace hk : Γ.k = 0 := hk
  have H : HS (impl_Mask_bitsAt a0 a1 a2) r := h
  clear h; unfold impl_Mask_bitsAt at H
  try simp -implicitDefEqProofs at H
  refine Tr.of_vc (cl := tabC [(188, impl_InBox_x)]) (E := E0) [] (tab_cons k_impl_InBox tab_nil) hm (by rw [hn]; decide +kernel) ?_
  try simp -implicitDefEqProofs +decide (maxSteps := 2000000) [-selQ_sel, hokQ_of]
  obtain ⟨v1, h_1, H⟩ := HS.bnd H
  try simp -implicitDefEqProofs +decide (maxSteps := 2000000) [-selQ_sel, hokQ_of, h_1]
  refine Hid.brV (fun h_2 => ?_) (fun h_2 => ?_)
  · replace H := HS.cnd_t h_2 H
    try simp -implicitDefEqProofs +decide (maxSteps := 2000000) [-selQ_sel, hokQ_of, h_1, h_2]
    obtain ⟨v2, h_3, H⟩ := HS.bnd H
    try simp -implicitDefEqProofs +decide (maxSteps := 2000000) [-selQ_sel, hokQ_of, h_1, h_2, h_3]
    have hr := (HS.some H).symm; subst hr
    refine Hid.mk ⟨_, Wk.refl _, ?_⟩
    try simp -implicitDefEqProofs +decide (maxSteps := 2000000) [-selQ_sel, hokQ_of, h_1, h_2, h_3]
  · replace H := HS.cnd_f h_2 H
    try simp -implicitDefEqProofs +decide (maxSteps := 2000000) [-selQ_sel, hokQ_of, h_1, h_2]
    have hr := (HS.some H).symm; subst hr
    refine Hid.mk ⟨_, Wk.refl _, ?_⟩
    try simp -implicitDefEqProofs +decide (maxSteps := 2000000) [-selQ_sel, hokQ_of, h_1, h_2]
theorem impl_Clamp_ok0 (hm : Try.prog.follows .mixedOrders = true) : Sound Try.prog 219 impl_Clamp_x := by
  refine xOf_sound fun q r h => ?_
  obtain ⟨a0, a1, a2⟩ := q
  refine fn_ok E0 hm Try.func219 rfl (by decide +kernel) (by rfl) fun Γ hn hk => ?_
  dsimp only [impl_Clamp_e, impl_Clamp_v]
  replace hn : Γ.n = 18 := hn
  replace hk : Γ.k = 0 := hk
  have H : HS (impl_Clamp a0 a1 a2) r := h
  clear h; unfold impl_Clamp at H
  try simp -implicitDefEqProofs at H
  refine Tr.of_vc (cl := tabC []) (E := E0) [] tab_nil hm (by rw [hn]; decide +kernel) ?_
  try simp -implicitDefEqProofs (maxSteps := 2000000) [-selQ_sel]
  refine Hid.brV (fun h_1 => ?_) (fun h_1 => ?_)
  · replace H := HS.cnd_t h_1 H
    try simp -implicitDefEqProofs (maxSteps := 2000000) [-selQ_sel, h_1]
    refine Hid.brV (fun h_2 => ?_) (fun h_2 => ?_)
    · replace H := HS.cnd_t h_2 H
      try simp -implicitDefEqProofs (maxSteps := 2000000) [-selQ_sel, h_1, h_2]
      have hr := (HS.some H).symm; subst hr
      refine Hid.mk ⟨_, Wk.refl _, ?_⟩
      try simp -implicitDefEqProofs (maxSteps := 2000000) [-selQ_sel, h_1, h_2]
    · replace H := HS.cnd_f h_2 H
      try simp -implicitDefEqProofs (maxSteps := 2000000) [-selQ_sel, h_1, h_2]
      have hr := (HS.some H).symm; subst hr
      refine Hid.mk ⟨_, Wk.refl _, ?_⟩
      try simp -implicitDefEqProofs (maxSteps := 2000000) [-selQ_sel, h_1, h_2]
  · replace H := HS.cnd_f h_1 H
    try simp -implicitDefEqProofs (maxSteps := 2000000) [-selQ_sel, h_1]
    have hr := (HS.some H).symm; subst hr
    refine Hid.mk ⟨_, Wk.refl _, ?_⟩
    try simp -implicitDefEqProofs (maxSteps := 2000000) [-selQ_sel, h_1]
theorem spec_PointOk_ok0 (hm : Try.prog.follows .mixedOrders = true) (k_spec_l01In : Sound Try.prog 73 spec_l01In_x) : Sound Try.prog 196 spec_PointOk_x := by
  refine xOf_sound fun q r h => ?_
  revert h; revert r; revert q; intro a0 r h
  refine fn_ok E0 hm Try.func196 rfl (by decide +kernel) (by rfl) fun Γ hn hk => ?_
  dsimp only [spec_PointOk_e, spec_PointOk_v]
  replace hn : Γ.n = 11 := hn
  replace hk : Γ.k = 0 := hk
  have H : HS (spec_PointOk a0) r := h
  clear h; unfold spec_PointOk at H
  try simp -implicitDefEqProofs at H
  refine Tr.of_vc (cl := tabC [(73, spec_l01In_x)]) (E := E0) [] (tab_cons k_spec_l01In tab_nil) hm (by rw [hn]; decide +kernel) ?_
  try simp -implicitDefEqProofs (maxSteps := 2000000) [-selQ_sel]
  obtain ⟨v1, h_1, H⟩ := HS.bnd H
  try simp -implicitDefEqProofs (maxSteps := 2000000) [-selQ_sel, h_1]
  refine Hid.selQ (fun h_2 => ?_) (fun h_2 => ?_)
  · replace H := HS.cnd_t h_2 H
    try simp -implicitDefEqProofs (maxSteps := 2000000) [-selQ_sel, h_1, h_2]
    obtain ⟨v2, h_3, H⟩ := HS.bnd H
    try simp -implicitDefEqProofs (maxSteps := 2000000) [-selQ_sel, h_1, h_2, h_3]
    have hr := (HS.some H).symm; subst hr
    refine Hid.mk ⟨_, Wk.refl _, ?_⟩
    try simp -implicitDefEqProofs (maxSteps := 2000000) [-selQ_sel, h_1, h_2, h_3]
  · replace H := HS.cnd_f h_2 H
    try simp -implicitDefEqProofs (maxSteps := 2000000) [-selQ_sel, h_1, h_2]
    have hr := (HS.some H).symm; subst hr
    refine Hid.mk ⟨_, Wk.refl _, ?_⟩
    try simp -implicitDefEqProofs (maxSteps := 2000000) [-selQ_sel, h_1, h_2]
theorem spec_l11Bits_ok0 (hm : Try.prog.follows .mixedOrders = true) (k_spec_InBox : Sound Try.prog 192 spec_InBox_x) : Sound Try.prog 120 spec_l11Bits_x := by
  refine xOf_sound fun q r h => ?_
  obtain ⟨a0, a1, a2⟩ := q
  refine fn_ok E0 hm Try.func120 rfl (by decide +kernel) (by rfl) fun Γ hn hk => ?_
  dsimp only [spec_l11Bits_e, spec_l11Bits_v]
  replace hn : Γ.n = 35 := hn
  replace hk : Γ.k = 0 := hk
  have H : HS (spec_l11Bits a0 a1 a2) r := h
  clear h; unfold spec_l11Bits at H
  try simp -implicitDefEqProofs at H
  refine Tr.of_vc (cl := tabC [(192, spec_InBox_x)]) (E := E0) [] (tab_cons k_spec_InBox tab_nil) hm (by rw [hn]; decide +kernel) ?_
  try simp -implicitDefEqProofs (maxSteps := 2000000) [-selQ_sel]
  obtain ⟨v1, h_1, H⟩ := HS.bnd H
  try simp -implicitDefEqProofs (maxSteps := 2000000) [-selQ_sel, h_1]
  refine Hid.brV (fun h_2 => ?_) (fun h_2 => ?_)
  · replace H := HS.cnd_t h_2 H
    try simp -implicitDefEqProofs (maxSteps := 2000000) [-selQ_sel, h_1, h_2]
    obtain ⟨v2, h_3, H⟩ := HS.bnd H
    try simp -implicitDefEqProofs (maxSteps := 2000000) [-selQ_sel, h_1, h_2, h_3]
    have hr := (HS.some H).symm; subst hr
    refine Hid.mk ⟨_, Wk.refl _, ?_⟩
    try simp -implicitDefEqProofs (maxSteps := 2000000) [-selQ_sel, h_1, h_2, h_3]
  · replace H := HS.cnd_f h_2 H
    try simp -implicitDefEqProofs (maxSteps := 2000000) [-selQ_sel, h_1, h_2]
    have hr := (HS.some H).symm; subst hr
    refine Hid.mk ⟨_, Wk.refl _, ?_⟩
    try simp -implicitDefEqProofs (maxSteps := 2000000) [-selQ_sel, h_1, h_2]
theorem impl_each_Fade_1_ok0 (hm : Try.prog.follows .mixedOrders = true) (k_impl_Fade_1 : Sound Try.prog 179 impl_Fade_1_x) : Sound Try.prog 174 impl_each_Fade_1_x := by
  refine xOf_sound fun q r h => ?_
  obtain ⟨a0, a1, a2⟩ := q
  refine fn_ok E0 hm Try.func174 rfl (by decide +kernel) (by rfl) fun Γ hn hk => ?_
  dsimp only [impl_each_Fade_1_e, impl_each_Fade_1_v]
  replace hn : Γ.n = 32 := hn
  replace hk : Γ.k = 0 := hk
  have H : HS (impl_each_Fade_1 a0 a1 a2) r := h
  clear h; unfold impl_each_Fade_1 at H
  try simp -implicitDefEqProofs at H
  refine Tr.of_vc (cl := tabC [(179, impl_Fade_1_x)]) (E := E0) [] (tab_cons k_impl_Fade_1 tab_nil) hm (by rw [hn]; decide +kernel) ?_
  try simp -implicitDefEqProofs +decide (maxSteps := 2000000) [-selQ_sel, hokQ_of]
  obtain ⟨v1, h_1, H⟩ := HS.bnd H
  try simp -implicitDefEqProofs +decide (maxSteps := 2000000) [-selQ_sel, hokQ_of, h_1]
  obtain ⟨v2, h_2, H⟩ := HS.bnd H
  try simp -implicitDefEqProofs +decide (maxSteps := 2000000) [-selQ_sel, hokQ_of, h_1, h_2]
  obtain ⟨v3, h_3, H⟩ := HS.bnd H
  try simp -implicitDefEqProofs +decide (maxSteps := 2000000) [-selQ_sel, hokQ_of, h_1, h_2, h_3]
  obtain ⟨v4, h_4, H⟩ := HS.bnd H
  try simp -implicitDefEqProofs +decide (maxSteps := 2000000) [-selQ_sel, hokQ_of, h_1, h_2, h_3, h_4]
  have hr := (HS.some H).symm; subst hr
  refine Hid.mk ⟨_, Wk.refl _, ?_⟩
  try simp -implicitDefEqProofs +decide (maxSteps := 2000000) [-selQ_sel, hokQ_of, h_1, h_2, h_3, h_4]
theorem spec_l01Byte_ok0 (hm : Try.prog.follows .mixedOrders = true) : Sound Try.prog 109 spec_l01Byte_x := by
  refine xOf_sound fun q r h => ?_
  revert h; revert r; revert q; intro a0 r h
  refine fn_ok E0 hm Try.func109 rfl (by decide +kernel) (by rfl) fun Γ hn hk => ?_
  dsimp only [spec_l01Byte_e, spec_l01Byte_v]
  replace hn : Γ.n = 58 := hn
  replace hk : Γ.k = 1 := hk
  have H : HS (spec_l01Byte a0) r := h
  clear h; unfold spec_l01Byte at H
  try simp -implicitDefEqProofs at H
  refine Tr.of_vc (cl := tabC []) (E := E0) [] tab_nil hm (by rw [hn]; decide +kernel) ?_
  try simp -implicitDefEqProofs +decide (maxSteps := 2000000) [-selQ_sel, hokQ_of]
  refine Hid.brV (fun h_1 => ?_) (fun h_1 => ?_)
  · replace H := HS.cnd_t h_1 H
    try simp -implicitDefEqProofs +decide (maxSteps := 2000000) [-selQ_sel, hokQ_of, h_1]
    have hr := (HS.some H).symm; subst hr
    refine Hid.mk ⟨_, Wk.refl _, ?_⟩
    try simp -implicitDefEqProofs +decide (maxSteps := 2000000) [-selQ_sel, hokQ_of, h_1]
  · replace H := HS.cnd_f h_1 H
    try simp -implicitDefEqProofs +decide (maxSteps := 2000000) [-selQ_sel, hokQ_of, h_1]
    obtain ⟨v1, h_2, H⟩ := HS.bnd H
    try simp -implicitDefEqProofs +decide (maxSteps := 2000000) [-selQ_sel, hokQ_of, h_1, h_2]
    have hr := (HS.some H).symm; subst hr
    refine Hid.mk ⟨_, Wk.refl _, ?_⟩
    try simp -implicitDefEqProofs +decide (maxSteps := 2000000) [-selQ_sel, hokQ_of, h_1, h_2]
theorem spec_CountOf_ok0 (hm : Try.prog.follows .mixedOrders = true) (k_spec_l01In : Sound Try.prog 73 spec_l01In_x) : Sound Try.prog 46 spec_CountOf_x := by
  refine xOf_sound fun q r h => ?_
  revert h; revert r; revert q; intro a0 r h
  refine fn_ok E0 hm Try.func46 rfl (by decide +kernel) (by rfl) fun Γ hn hk => ?_
  dsimp only [spec_CountOf_e, spec_CountOf_v]
  replace hn : Γ.n = 19 := hn
  replace hk : Γ.k = 0 := hk
  have H : HS (spec_CountOf a0) r := h
  clear h; unfold spec_CountOf at H
  try simp -implicitDefEqProofs at H
  refine Tr.of_vc (cl := tabC [(73, spec_l01In_x)]) (E := E0) [] (tab_cons k_spec_l01In tab_nil) hm (by rw [hn]; decide +kernel) ?_
  try simp -implicitDefEqProofs (maxSteps := 2000000) [-selQ_sel]
  obtain ⟨v1, h_1, H⟩ := HS.bnd H
  try simp -implicitDefEqProofs (maxSteps := 2000000) [-selQ_sel, h_1]
  refine Hid.brV (fun h_2 => ?_) (fun h_2 => ?_)
  · replace H := HS.cnd_t h_2 H
    try simp -implicitDefEqProofs (maxSteps := 2000000) [-selQ_sel, h_1, h_2]
    have hr := (HS.some H).symm; subst hr
    refine Hid.mk ⟨_, Wk.refl _, ?_⟩
    try simp -implicitDefEqProofs (maxSteps := 2000000) [-selQ_sel, h_1, h_2]
  · replace H := HS.cnd_f h_2 H
    try simp -implicitDefEqProofs (maxSteps := 2000000) [-selQ_sel, h_1, h_2]
    have hr := (HS.some H).symm; subst hr
    refine Hid.mk ⟨_, Wk.refl _, ?_⟩
    try simp -implicitDefEqProofs (maxSteps := 2000000) [-selQ_sel, h_1, h_2]
theorem impl_copySurface_ok0 (hm : Try.prog.follows .mixedOrders = true) (k_slices_Clone_Color : Sound Try.prog 172 slices_Clone_Color_x) : Sound Try.prog 103 impl_copySurface_x := by
  refine xOf_sound fun q r h => ?_
  revert h; revert r; revert q; intro a0 r h
  refine fn_ok E0 hm Try.func103 rfl (by decide +kernel) (by rfl) fun Γ hn hk => ?_
  dsimp only [impl_copySurface_e, impl_copySurface_v]
  replace hn : Γ.n = 8 := hn
  replace hk : Γ.k = 0 := hk
  have H : HS (impl_copySurface a0) r := h
  clear h; unfold impl_copySurface at H
  try simp -implicitDefEqProofs at H
  refine Tr.of_vc (cl := tabC [(172, slices_Clone_Color_x)]) (E := E0) [] (tab_cons k_slices_Clone_Color tab_nil) hm (by rw [hn]; decide +kernel) ?_
  try simp -implicitDefEqProofs (maxSteps := 2000000) [-selQ_sel]
  obtain ⟨v1, h_1, H⟩ := HS.bnd H
  try simp -implicitDefEqProofs (maxSteps := 2000000) [-selQ_sel, h_1]
  have hr := (HS.some H).symm; subst hr
  refine Hid.mk ⟨⟨[(2, AV.optr 0 0 3)], [(0, Ob.box [AV.int .i64 a0.w, AV.int .i64 a0.h, AV.osl 1 0 (List.length v1) (List.length v1)]), (1, Ob.arr 4 (List.map eColor v1) false)], 2⟩, Wk.ofk [1, 2] hk (by rfl) (by simp -implicitDefEqProofs [h_1]) (by simp -implicitDefEqProofs [h_1]), ?_⟩
  try simp -implicitDefEqProofs (maxSteps := 2000000) [-selQ_sel, h_1]
theorem impl_Empty_ok0 (hm : Try.prog.follows .mixedOrders = true) : Sound Try.prog 158 impl_Empty_x := by
  refine xOf_sound fun q r h => ?_
  revert h; revert r; revert q; intro a0 r h
  refine fn_ok E0 hm Try.func158 rfl (by decide +kernel) (by rfl) fun Γ hn hk => ?_
  dsimp only [impl_Empty_e, impl_Empty_v]
  replace hn : Γ.n = 15 := hn
  replace hk : Γ.k = 0 := hk
  have H : HS (impl_Empty a0) r := h
  clear h; unfold impl_Empty at H
  try simp -implicitDefEqProofs at H
  refine Tr.of_vc (cl := tabC []) (E := E0) [] tab_nil hm (by rw [hn]; decide +kernel) ?_
  try simp -implicitDefEqProofs (maxSteps := 2000000) [-selQ_sel]
  refine Hid.selQ (fun h_1 => ?_) (fun h_1 => ?_)
  · replace H := HS.cnd_t h_1 H
    try simp -implicitDefEqProofs (maxSteps := 2000000) [-selQ_sel, h_1]
    have hr := (HS.some H).symm; subst hr
    refine Hid.mk ⟨_, Wk.refl _, ?_⟩
    try simp -implicitDefEqProofs (maxSteps := 2000000) [-selQ_sel, h_1]
  · replace H := HS.cnd_f h_1 H
    try simp -implicitDefEqProofs (maxSteps := 2000000) [-selQ_sel, h_1]
    have hr := (HS.some H).symm; subst hr
    refine Hid.mk ⟨_, Wk.refl _, ?_⟩
    try simp -implicitDefEqProofs (maxSteps := 2000000) [-selQ_sel, h_1]
theorem impl_inRange_ok0 (hm : Try.prog.follows .mixedOrders = true) : Sound Try.prog 76 impl_inRange_x := by
  refine xOf_sound fun q r h => ?_
  obtain ⟨a0, a1, a2⟩ := q
  refine fn_ok E0 hm Try.func76 rfl (by decide +kernel) (by rfl) fun Γ hn hk => ?_
  dsimp only [impl_inRange_e, impl_inRange_v]
  replace hn : Γ.n = 15 := hn
  replace hk : Γ.k = 0 := hk
  have H : HS (impl_inRange a0 a1 a2) r := h
  clear h; unfold impl_inRange at H
  try simp -implicitDefEqProofs at H
  refine Tr.of_vc (cl := tabC []) (E := E0) [] tab_nil hm (by rw [hn]; decide +kernel) ?_
  try simp -implicitDefEqProofs (maxSteps := 2000000) [-selQ_sel]
  refine Hid.selQ (fun h_1 => ?_) (fun h_1 => ?_)
  · replace H := HS.cnd_t h_1 H
    try simp -implicitDefEqProofs (maxSteps := 2000000) [-selQ_sel, h_1]
    have hr := (HS.some H).symm; subst hr
    refine Hid.mk ⟨_, Wk.refl _, ?_⟩
    try simp -implicitDefEqProofs (maxSteps := 2000000) [-selQ_sel, h_1]
  · replace H := HS.cnd_f h_1 H
    try simp -implicitDefEqProofs (maxSteps := 2000000) [-selQ_sel, h_1]
    have hr := (HS.some H).symm; subst hr
    refine Hid.mk ⟨_, Wk.refl _, ?_⟩
    try simp -implicitDefEqProofs (maxSteps := 2000000) [-selQ_sel, h_1]
theorem spec_l01Once_ok0 (hm : Try.prog.follows .mixedOrders = true) (k_spec_l01Below : Sound Try.prog 110 spec_l01Below_x) : Sound Try.prog 184 spec_l01Once_x := by
  refine xOf_sound fun q r h => ?_
  obtain ⟨a0, a1⟩ := q
  refine fn_ok E0 hm Try.func184 rfl (by decide +kernel) (by rfl) fun Γ hn hk => ?_
  dsimp only [spec_l01Once_e, spec_l01Once_v]
  replace hn : Γ.n = 9 := hn
  replace hk : Γ.k = 1 := hk
  have H : HS (spec_l01Once a0 a1) r := h
  clear h; unfold spec_l01Once at H
  try simp -implicitDefEqProofs at H
  refine Tr.of_vc (cl := tabC [(110, spec_l01Below_x)]) (E := E0) [] (tab_cons k_spec_l01Below tab_nil) hm (by rw [hn]; decide +kernel) ?_
  try simp -implicitDefEqProofs (maxSteps := 2000000) [-selQ_sel]
  obtain ⟨⟨w2, w3⟩, h_1, H⟩ := HS.bnd H
  dsimp only at H
  try simp -implicitDefEqProofs (maxSteps := 2000000) [-selQ_sel, h_1]
  have hr := (HS.some H).symm; subst hr
  refine Hid.mk ⟨_, Wk.refl _, ?_⟩
  try simp -implicitDefEqProofs (maxSteps := 2000000) [-selQ_sel, h_1]
theorem impl_isSide_ok0 (hm : Try.prog.follows .mixedOrders = true) (k_impl_inRange : Sound Try.prog 76 impl_inRange_x) : Sound Try.prog 102 impl_isSide_x := by
  refine xOf_sound fun q r h => ?_
  revert h; revert r; revert q; intro a0 r h
  refine fn_ok E0 hm Try.func102 rfl (by decide +kernel) (by rfl) fun Γ hn hk => ?_
  dsimp only [impl_isSide_e, impl_isSide_v]
  replace hn : Γ.n = 5 := hn
  replace hk : Γ.k = 0 := hk
  have H : HS (impl_isSide a0) r := h
  clear h; unfold impl_isSide at H
  try simp -implicitDefEqProofs at H
  refine Tr.of_vc (cl := tabC [(76, impl_inRange_x)]) (E := E0) [] (tab_cons k_impl_inRange tab_nil) hm (by rw [hn]; decide +kernel) ?_
  try simp -implicitDefEqProofs (maxSteps := 2000000) [-selQ_sel]
  obtain ⟨v1, h_1, H⟩ := HS.bnd H
  try simp -implicitDefEqProofs (maxSteps := 2000000) [-selQ_sel, h_1]
  have hr := (HS.some H).symm; subst hr
  refine Hid.mk ⟨_, Wk.refl _, ?_⟩
  try simp -implicitDefEqProofs (maxSteps := 2000000) [-selQ_sel, h_1]
theorem spec_l12Mix_ok0 (hm : Try.prog.follows .mixedOrders = true) (k_spec_RoundDiv : Sound Try.prog 124 spec_RoundDiv_x) : Sound Try.prog 128 spec_l12Mix_x := by
  refine xOf_sound fun q r h => ?_
  obtain ⟨a0, a1, a2⟩ := q
  refine fn_ok E0 hm Try.func128 rfl (by decide +kernel) (by rfl) fun Γ hn hk => ?_
  dsimp only [spec_l12Mix_e, spec_l12Mix_v]
  replace hn : Γ.n = 16 := hn
  replace hk : Γ.k = 0 := hk
  have H : HS (spec_l12Mix a0 a1 a2) r := h
  clear h; unfold spec_l12Mix at H
  try simp -implicitDefEqProofs at H
  refine Tr.of_vc (cl := tabC [(124, spec_RoundDiv_x)]) (E := E0) [] (tab_cons k_spec_RoundDiv tab_nil) hm (by rw [hn]; decide +kernel) ?_
  try simp -implicitDefEqProofs (maxSteps := 2000000) [-selQ_sel]
  obtain ⟨v1, h_1, H⟩ := HS.bnd H
  try simp -implicitDefEqProofs (maxSteps := 2000000) [-selQ_sel, h_1]
  have hr := (HS.some H).symm; subst hr
  refine Hid.mk ⟨_, Wk.refl _, ?_⟩
  try simp -implicitDefEqProofs (maxSteps := 2000000) [-selQ_sel, h_1]
theorem impl_isFar_ok0 (hm : Try.prog.follows .mixedOrders = true) (k_impl_inRange : Sound Try.prog 76 impl_inRange_x) : Sound Try.prog 226 impl_isFar_x := by
  refine xOf_sound fun q r h => ?_
  revert h; revert r; revert q; intro a0 r h
  refine fn_ok E0 hm Try.func226 rfl (by decide +kernel) (by rfl) fun Γ hn hk => ?_
  dsimp only [impl_isFar_e, impl_isFar_v]
  replace hn : Γ.n = 5 := hn
  replace hk : Γ.k = 0 := hk
  have H : HS (impl_isFar a0) r := h
  clear h; unfold impl_isFar at H
  try simp -implicitDefEqProofs at H
  refine Tr.of_vc (cl := tabC [(76, impl_inRange_x)]) (E := E0) [] (tab_cons k_impl_inRange tab_nil) hm (by rw [hn]; decide +kernel) ?_
  try simp -implicitDefEqProofs (maxSteps := 2000000) [-selQ_sel]
  obtain ⟨v1, h_1, H⟩ := HS.bnd H
  try simp -implicitDefEqProofs (maxSteps := 2000000) [-selQ_sel, h_1]
  have hr := (HS.some H).symm; subst hr
  refine Hid.mk ⟨_, Wk.refl _, ?_⟩
  try simp -implicitDefEqProofs (maxSteps := 2000000) [-selQ_sel, h_1]
theorem laws_big_ok0 (hm : Try.prog.follows .mixedOrders = true) : Sound Try.prog 28 laws_big_x := by
  refine xOf_sound fun q r h => ?_
  revert h; revert r; revert q; intro a0 r h
  refine fn_ok E0 hm Try.func28 rfl (by decide +kernel) (by rfl) fun Γ hn hk => ?_
  dsimp only [laws_big_e, laws_big_v]
  replace hn : Γ.n = 6 := hn
  replace hk : Γ.k = 0 := hk
  have H : HS (laws_big a0) r := h
  clear h; unfold laws_big at H
  try simp -implicitDefEqProofs at H
  refine Tr.of_vc (cl := tabC []) (E := E0) [] tab_nil hm (by rw [hn]; decide +kernel) ?_
  try simp -implicitDefEqProofs (maxSteps := 2000000) [-selQ_sel]
  have hr := (HS.some H).symm; subst hr
  refine Hid.mk ⟨_, Wk.refl _, ?_⟩
  try simp -implicitDefEqProofs (maxSteps := 2000000) [-selQ_sel]
end Go.Proofs.Ytoafihhhdnmliaa.Am
