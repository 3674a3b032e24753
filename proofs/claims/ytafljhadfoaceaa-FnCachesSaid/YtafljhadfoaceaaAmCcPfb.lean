import Derived.Test.YtafljhadfoaceaaAmCcMo
set_option linter.unusedVariables false
set_option linter.unusedSimpArgs false
set_option linter.unusedSectionVars false
namespace Go.Proofs.Ytafljhadfoaceaa.Am
open Go Go.Proofs
set_option maxRecDepth 100000
set_option linter.unusedSimpArgs false
set_option linter.unusedVariables false
set_option maxHeartbeats 4000000
theorem spec_FlatOf_ok0 (hm : Try.prog.follows .mixedOrders = true) (k_spec_PathOk : Sound Try.prog 184 spec_PathOk_x) (k_spec_NeedOf : Sound Try.prog 212 spec_NeedOf_x) (k_spec_QuadAt : Sound Try.prog 210 spec_QuadAt_x) (k_spec_CubicAt : Sound Try.prog 211 spec_CubicAt_x) : Sound Try.prog 168 spec_FlatOf_x := by
  refine xOf_sound fun q r h => ?_
  revert h; revert r; revert q; intro a0 r h
  refine fn_ok E0 hm Try.func168 rfl (by decide +kernel) (by rfl) fun Γ hn hk => ?_
  dsimp only [spec_FlatOf_e, spec_FlatOf_v]
  replace hn : Γ.n = 151 := hn
  replace hk : Γ.k = 0 := hk
  have H : HS (spec_FlatOf a0) r := h
  clear h; unfold spec_FlatOf at H
  try simp -implicitDefEqProofs at H
  refine Tr.of_vc (cl := tabC [(184, spec_PathOk_x), (212, spec_NeedOf_x), (210, spec_QuadAt_x), (211, spec_CubicAt_x)]) (E := E0) [] (tab_cons k_spec_PathOk (tab_cons k_spec_NeedOf (tab_cons k_spec_QuadAt (tab_cons k_spec_CubicAt tab_nil)))) hm (by rw [hn]; decide +kernel) ?_
  try simp -implicitDefEqProofs +decide (maxSteps := 2000000) [-selQ_sel, hokQ_of]
  obtain ⟨v1, h_1, H⟩ := HS.bnd H
  try simp -implicitDefEqProofs +decide (maxSteps := 2000000) [-selQ_sel, hokQ_of, h_1]
  refine Hid.brV (fun h_2 => ?_) (fun h_2 => ?_)
  · replace H := HS.cnd_t h_2 H
    try simp -implicitDefEqProofs +decide (maxSteps := 2000000) [-selQ_sel, hokQ_of, h_1, h_2]
    obtain ⟨q, h_3, H⟩ := HS.bnd H
    refine Hid.mk (Tr.weak (s' := (spec_FlatOf_l2_S a0) (0, 0, [], [])) (Wk.ofk [0, 1, 2] hk (by rfl) (by simp -implicitDefEqProofs [spec_FlatOf_l2_S, h_1, h_2]) (by simp -implicitDefEqProofs [spec_FlatOf_l2_S, h_1, h_2])) ?_)
    refine wp_loop_of (S := (spec_FlatOf_l2_S a0)) (f := (spec_FlatOf_l2 a0)) (xt := (spec_FlatOf_l2_X a0)) ?_ ?_ h_3 ?_
    · intro q; rcases q with ⟨y123, y124⟩ <;> simp [spec_FlatOf_l2_X]
    · clear H h_3 q
      rintro ⟨x34, x35, x36, x79⟩ o R hf hR
      have H : HS (spec_FlatOf_l2 a0 (x34, x35, x36, x79)) o := hf
      clear hf; unfold spec_FlatOf_l2 at H
      try simp -implicitDefEqProofs at H
      refine Tr.of_vc (cl := tabC [(184, spec_PathOk_x), (212, spec_NeedOf_x), (210, spec_QuadAt_x), (211, spec_CubicAt_x)]) (E := E0) [] (tab_cons k_spec_PathOk (tab_cons k_spec_NeedOf (tab_cons k_spec_QuadAt (tab_cons k_spec_CubicAt tab_nil)))) hm (by rw [hn]; decide +kernel) ?_
      try simp -implicitDefEqProofs +decide (maxSteps := 2000000) [-selQ_sel, hokQ_of, spec_FlatOf_l2_S]
      refine Hid.brV (fun h_4 => ?_) (fun h_4 => ?_)
      · replace H := HS.cnd_t h_4 H
        try simp -implicitDefEqProofs +decide (maxSteps := 2000000) [-selQ_sel, hokQ_of, h_4]
        have hr := (HS.some H).symm; subst hr
        exact Hid.mk ⟨(spec_FlatOf_l2_X a0 (x79, x36)).2, Wk.ofk [1, 2] hk (by rfl) (by simp -implicitDefEqProofs [spec_FlatOf_l2_X, h_4]) (by simp -implicitDefEqProofs [spec_FlatOf_l2_X, h_4]), hR⟩
      · replace H := HS.cnd_f h_4 H
        try simp -implicitDefEqProofs +decide (maxSteps := 2000000) [-selQ_sel, hokQ_of, h_4]
        obtain ⟨v80, h_5, H⟩ := HS.bnd H
        try simp -implicitDefEqProofs +decide (maxSteps := 2000000) [-selQ_sel, hokQ_of, h_4, h_5]
        refine Hid.brV (fun h_6 => ?_) (fun h_6 => ?_)
        · replace H := HS.cnd_t h_6 H
          try simp -implicitDefEqProofs +decide (maxSteps := 2000000) [-selQ_sel, hokQ_of, h_4, h_5, h_6]
          refine Hid.brV (fun h_7 => ?_) (fun h_7 => ?_)
          · replace H := HS.cnd_t h_7 H
            try simp -implicitDefEqProofs +decide (maxSteps := 2000000) [-selQ_sel, hokQ_of, h_4, h_5, h_6, h_7]
            obtain ⟨v81, h_8, H⟩ := HS.bnd H
            try simp -implicitDefEqProofs +decide (maxSteps := 2000000) [-selQ_sel, hokQ_of, h_4, h_5, h_6, h_7, h_8]
            obtain ⟨v82, h_9, H⟩ := HS.bnd H
            try simp -implicitDefEqProofs +decide (maxSteps := 2000000) [-selQ_sel, hokQ_of, h_4, h_5, h_6, h_7, h_8, h_9]
            have hr := (HS.some H).symm; subst hr
            exact Hid.mk ⟨spec_FlatOf_l2_S a0 ((IntKind.i64.wrap (x34 + v82)), (IntKind.i64.wrap (x35 + 1)), [v81], x79), Wk.ofk [0, 1, 3] hk (by rfl) (by simp -implicitDefEqProofs [spec_FlatOf_l2_S, h_4, h_5, h_6, h_7, h_8, h_9]) (by simp -implicitDefEqProofs [spec_FlatOf_l2_S, h_4, h_5, h_6, h_7, h_8, h_9]), hR⟩
          · replace H := HS.cnd_f h_7 H
            try simp -implicitDefEqProofs +decide (maxSteps := 2000000) [-selQ_sel, hokQ_of, h_4, h_5, h_6, h_7]
            obtain ⟨h_10, H⟩ := HS.chkP H
            try simp -implicitDefEqProofs +decide (maxSteps := 2000000) [-selQ_sel, hokQ_of, h_4, h_5, h_6, h_7, h_10]
            obtain ⟨l83, h_11, H⟩ := HS.nam H
            have m_12 := congrArg (List.map (eSl ePoint)) h_11
            have q_13 := congrArg List.length h_11
            simp -implicitDefEqProofs at m_12 q_13
            try simp only [q_13] at m_12
            try simp only [q_13] at h_10
            try simp -implicitDefEqProofs +decide (maxSteps := 2000000) [-selQ_sel, hokQ_of, h_4, h_5, h_6, h_7, h_10, m_12, q_13]
            obtain ⟨v84, h_14, H⟩ := HS.bnd H
            try simp -implicitDefEqProofs +decide (maxSteps := 2000000) [-selQ_sel, hokQ_of, h_4, h_5, h_6, h_7, h_10, m_12, q_13, h_14]
            obtain ⟨v85, h_15, H⟩ := HS.bnd H
            try simp -implicitDefEqProofs +decide (maxSteps := 2000000) [-selQ_sel, hokQ_of, h_4, h_5, h_6, h_7, h_10, m_12, q_13, h_14, h_15]
            have hr := (HS.some H).symm; subst hr
            exact Hid.mk ⟨spec_FlatOf_l2_S a0 ((IntKind.i64.wrap (x34 + v85)), (IntKind.i64.wrap (x35 + 1)), [v84], l83), Wk.ofk [0, 1, 4] hk (by rfl) (by simp -implicitDefEqProofs [spec_FlatOf_l2_S, h_4, h_5, h_6, h_7, h_10, m_12, q_13, h_14, h_15]) (by simp -implicitDefEqProofs [spec_FlatOf_l2_S, h_4, h_5, h_6, h_7, h_10, m_12, q_13, h_14, h_15]), hR⟩
        · replace H := HS.cnd_f h_6 H
          try simp -implicitDefEqProofs +decide (maxSteps := 2000000) [-selQ_sel, hokQ_of, h_4, h_5, h_6]
          refine Hid.brV (fun h_16 => ?_) (fun h_16 => ?_)
          · replace H := HS.cnd_t h_16 H
            try simp -implicitDefEqProofs +decide (maxSteps := 2000000) [-selQ_sel, hokQ_of, h_4, h_5, h_6, h_16]
            obtain ⟨v86, h_17, H⟩ := HS.bnd H
            try simp -implicitDefEqProofs +decide (maxSteps := 2000000) [-selQ_sel, hokQ_of, h_4, h_5, h_6, h_16, h_17]
            obtain ⟨h_18, H⟩ := HS.chkP H
            try simp -implicitDefEqProofs +decide (maxSteps := 2000000) [-selQ_sel, hokQ_of, h_4, h_5, h_6, h_16, h_17, h_18]
            obtain ⟨l87, h_19, H⟩ := HS.nam H
            have m_20 := congrArg (List.map ePoint) h_19
            have q_21 := congrArg List.length h_19
            simp -implicitDefEqProofs at m_20 q_21
            try simp only [q_21] at m_20
            try simp only [q_21] at h_18
            try simp -implicitDefEqProofs +decide (maxSteps := 2000000) [-selQ_sel, hokQ_of, h_4, h_5, h_6, h_16, h_17, h_18, m_20, q_21]
            obtain ⟨v88, h_22, H⟩ := HS.bnd H
            try simp -implicitDefEqProofs +decide (maxSteps := 2000000) [-selQ_sel, hokQ_of, h_4, h_5, h_6, h_16, h_17, h_18, m_20, q_21, h_22]
            have hr := (HS.some H).symm; subst hr
            exact Hid.mk ⟨spec_FlatOf_l2_S a0 ((IntKind.i64.wrap (x34 + v88)), (IntKind.i64.wrap (x35 + 1)), l87, x79), Wk.ofk [0, 1, 2] hk (by rfl) (by simp -implicitDefEqProofs [spec_FlatOf_l2_S, h_4, h_5, h_6, h_16, h_17, h_18, m_20, q_21, h_22]) (by simp -implicitDefEqProofs [spec_FlatOf_l2_S, h_4, h_5, h_6, h_16, h_17, h_18, m_20, q_21, h_22]), hR⟩
          · replace H := HS.cnd_f h_16 H
            try simp -implicitDefEqProofs +decide (maxSteps := 2000000) [-selQ_sel, hokQ_of, h_4, h_5, h_6, h_16]
            refine Hid.brV (fun h_23 => ?_) (fun h_23 => ?_)
            · replace H := HS.cnd_t h_23 H
              try simp -implicitDefEqProofs +decide (maxSteps := 2000000) [-selQ_sel, hokQ_of, h_4, h_5, h_6, h_16, h_23]
              obtain ⟨v89, h_24, H⟩ := HS.bnd H
              have g_25 := idx_get h_24
              try simp -implicitDefEqProofs +decide (maxSteps := 2000000) [-selQ_sel, hokQ_of, h_4, h_5, h_6, h_16, h_23, h_24, g_25]
              obtain ⟨q, h_26, H⟩ := HS.bnd H
              refine Hid.mk (Tr.weak (s' := (spec_FlatOf_l0_S a0 v89 x34 x35 x79) (1, x36)) (Wk.ofk [0, 1, 2, 3] hk (by rfl) (by simp -implicitDefEqProofs [spec_FlatOf_l0_S, h_4, h_5, h_6, h_16, h_23, h_24, g_25]) (by simp -implicitDefEqProofs [spec_FlatOf_l0_S, h_4, h_5, h_6, h_16, h_23, h_24, g_25])) ?_)
              refine wp_loop_of (S := (spec_FlatOf_l0_S a0 v89 x34 x35 x79)) (f := (spec_FlatOf_l0 a0 v89 x34 x35 x79)) (xt := (spec_FlatOf_l0_X a0 v89 x34 x35 x79)) ?_ ?_ h_26 ?_
              · intro q; simp [spec_FlatOf_l0_X]
              · clear H h_26 q
                rintro ⟨x94, x95⟩ o R hf hR
                have H : HS (spec_FlatOf_l0 a0 v89 x34 x35 x79 (x94, x95)) o := hf
                clear hf; unfold spec_FlatOf_l0 at H
                try simp -implicitDefEqProofs at H
                refine Tr.of_vc (cl := tabC [(184, spec_PathOk_x), (212, spec_NeedOf_x), (210, spec_QuadAt_x), (211, spec_CubicAt_x)]) (E := E0) [] (tab_cons k_spec_PathOk (tab_cons k_spec_NeedOf (tab_cons k_spec_QuadAt (tab_cons k_spec_CubicAt tab_nil)))) hm (by rw [hn]; decide +kernel) ?_
                try simp -implicitDefEqProofs +decide (maxSteps := 2000000) [-selQ_sel, hokQ_of, spec_FlatOf_l0_S]
                refine Hid.brV (fun h_27 => ?_) (fun h_27 => ?_)
                · replace H := HS.cnd_t h_27 H
                  try simp -implicitDefEqProofs +decide (maxSteps := 2000000) [-selQ_sel, hokQ_of, h_27]
                  obtain ⟨v96, h_28, H⟩ := HS.bnd H
                  try simp -implicitDefEqProofs +decide (maxSteps := 2000000) [-selQ_sel, hokQ_of, h_27, h_28]
                  obtain ⟨v97, h_29, H⟩ := HS.bnd H
                  try simp -implicitDefEqProofs +decide (maxSteps := 2000000) [-selQ_sel, hokQ_of, h_27, h_28, h_29]
                  obtain ⟨v98, h_30, H⟩ := HS.bnd H
                  try simp -implicitDefEqProofs +decide (maxSteps := 2000000) [-selQ_sel, hokQ_of, h_27, h_28, h_29, h_30]
                  obtain ⟨h_31, H⟩ := HS.chkP H
                  try simp -implicitDefEqProofs +decide (maxSteps := 2000000) [-selQ_sel, hokQ_of, h_27, h_28, h_29, h_30, h_31]
                  obtain ⟨l99, h_32, H⟩ := HS.nam H
                  have m_33 := congrArg (List.map ePoint) h_32
                  have q_34 := congrArg List.length h_32
                  simp -implicitDefEqProofs at m_33 q_34
                  try simp only [q_34] at m_33
                  try simp only [q_34] at h_31
                  try simp -implicitDefEqProofs +decide (maxSteps := 2000000) [-selQ_sel, hokQ_of, h_27, h_28, h_29, h_30, h_31, m_33, q_34]
                  have hr := (HS.some H).symm; subst hr
                  exact Hid.mk ⟨spec_FlatOf_l0_S a0 v89 x34 x35 x79 ((IntKind.i64.wrap (x94 + 1)), l99), Wk.ofk [0, 1, 2, 3] hk (by rfl) (by simp -implicitDefEqProofs [spec_FlatOf_l0_S, h_27, h_28, h_29, h_30, h_31, m_33, q_34]) (by simp -implicitDefEqProofs [spec_FlatOf_l0_S, h_27, h_28, h_29, h_30, h_31, m_33, q_34]), hR⟩
                · replace H := HS.cnd_f h_27 H
                  try simp -implicitDefEqProofs +decide (maxSteps := 2000000) [-selQ_sel, hokQ_of, h_27]
                  have hr := (HS.some H).symm; subst hr
                  exact Hid.mk ⟨(spec_FlatOf_l0_X a0 v89 x34 x35 x79 x95).2, Wk.ofk [0, 1, 2] hk (by rfl) (by simp -implicitDefEqProofs [spec_FlatOf_l0_X, h_27]) (by simp -implicitDefEqProofs [spec_FlatOf_l0_X, h_27]), hR⟩
              · revert H h_26; revert q; intro y100 h_26 H
                try dsimp only at H
                try simp -implicitDefEqProofs +decide (maxSteps := 2000000) [-selQ_sel, hokQ_of, h_4, h_5, h_6, h_16, h_23, h_24, g_25, spec_FlatOf_l0_X]
                obtain ⟨v101, h_35, H⟩ := HS.bnd H
                try simp -implicitDefEqProofs +decide (maxSteps := 2000000) [-selQ_sel, hokQ_of, h_4, h_5, h_6, h_16, h_23, h_24, g_25, h_35]
                have hr := (HS.some H).symm; subst hr
                exact Hid.mk ⟨spec_FlatOf_l2_S a0 ((IntKind.i64.wrap (x34 + v101)), (IntKind.i64.wrap (x35 + 1)), y100, x79), Wk.ofk [0, 1, 2] hk (by rfl) (by simp -implicitDefEqProofs [spec_FlatOf_l2_S, h_4, h_5, h_6, h_16, h_23, h_24, g_25, h_35]) (by simp -implicitDefEqProofs [spec_FlatOf_l2_S, h_4, h_5, h_6, h_16, h_23, h_24, g_25, h_35]), hR⟩
            · replace H := HS.cnd_f h_23 H
              try simp -implicitDefEqProofs +decide (maxSteps := 2000000) [-selQ_sel, hokQ_of, h_4, h_5, h_6, h_16, h_23]
              refine Hid.brV (fun h_36 => ?_) (fun h_36 => ?_)
              · replace H := HS.cnd_t h_36 H
                try simp -implicitDefEqProofs +decide (maxSteps := 2000000) [-selQ_sel, hokQ_of, h_4, h_5, h_6, h_16, h_23, h_36]
                obtain ⟨v102, h_37, H⟩ := HS.bnd H
                have g_38 := idx_get h_37
                try simp -implicitDefEqProofs +decide (maxSteps := 2000000) [-selQ_sel, hokQ_of, h_4, h_5, h_6, h_16, h_23, h_36, h_37, g_38]
                obtain ⟨q, h_39, H⟩ := HS.bnd H
                refine Hid.mk (Tr.weak (s' := (spec_FlatOf_l1_S a0 v102 x34 x35 x79) (1, x36)) (Wk.ofk [0, 1, 2, 3] hk (by rfl) (by simp -implicitDefEqProofs [spec_FlatOf_l1_S, h_4, h_5, h_6, h_16, h_23, h_36, h_37, g_38]) (by simp -implicitDefEqProofs [spec_FlatOf_l1_S, h_4, h_5, h_6, h_16, h_23, h_36, h_37, g_38])) ?_)
                refine wp_loop_of (S := (spec_FlatOf_l1_S a0 v102 x34 x35 x79)) (f := (spec_FlatOf_l1 a0 v102 x34 x35 x79)) (xt := (spec_FlatOf_l1_X a0 v102 x34 x35 x79)) ?_ ?_ h_39 ?_
                · intro q; simp [spec_FlatOf_l1_X]
                · clear H h_39 q
                  rintro ⟨x108, x109⟩ o R hf hR
                  have H : HS (spec_FlatOf_l1 a0 v102 x34 x35 x79 (x108, x109)) o := hf
                  clear hf; unfold spec_FlatOf_l1 at H
                  try simp -implicitDefEqProofs at H
                  refine Tr.of_vc (cl := tabC [(184, spec_PathOk_x), (212, spec_NeedOf_x), (210, spec_QuadAt_x), (211, spec_CubicAt_x)]) (E := E0) [] (tab_cons k_spec_PathOk (tab_cons k_spec_NeedOf (tab_cons k_spec_QuadAt (tab_cons k_spec_CubicAt tab_nil)))) hm (by rw [hn]; decide +kernel) ?_
                  try simp -implicitDefEqProofs +decide (maxSteps := 2000000) [-selQ_sel, hokQ_of, spec_FlatOf_l1_S]
                  refine Hid.brV (fun h_40 => ?_) (fun h_40 => ?_)
                  · replace H := HS.cnd_t h_40 H
                    try simp -implicitDefEqProofs +decide (maxSteps := 2000000) [-selQ_sel, hokQ_of, h_40]
                    obtain ⟨v110, h_41, H⟩ := HS.bnd H
                    try simp -implicitDefEqProofs +decide (maxSteps := 2000000) [-selQ_sel, hokQ_of, h_40, h_41]
                    obtain ⟨v111, h_42, H⟩ := HS.bnd H
                    try simp -implicitDefEqProofs +decide (maxSteps := 2000000) [-selQ_sel, hokQ_of, h_40, h_41, h_42]
                    obtain ⟨v112, h_43, H⟩ := HS.bnd H
                    try simp -implicitDefEqProofs +decide (maxSteps := 2000000) [-selQ_sel, hokQ_of, h_40, h_41, h_42, h_43]
                    obtain ⟨v113, h_44, H⟩ := HS.bnd H
                    try simp -implicitDefEqProofs +decide (maxSteps := 2000000) [-selQ_sel, hokQ_of, h_40, h_41, h_42, h_43, h_44]
                    obtain ⟨h_45, H⟩ := HS.chkP H
                    try simp -implicitDefEqProofs +decide (maxSteps := 2000000) [-selQ_sel, hokQ_of, h_40, h_41, h_42, h_43, h_44, h_45]
                    obtain ⟨l114, h_46, H⟩ := HS.nam H
                    have m_47 := congrArg (List.map ePoint) h_46
                    have q_48 := congrArg List.length h_46
                    simp -implicitDefEqProofs at m_47 q_48
                    try simp only [q_48] at m_47
                    try simp only [q_48] at h_45
                    try simp -implicitDefEqProofs +decide (maxSteps := 2000000) [-selQ_sel, hokQ_of, h_40, h_41, h_42, h_43, h_44, h_45, m_47, q_48]
                    have hr := (HS.some H).symm; subst hr
                    exact Hid.mk ⟨spec_FlatOf_l1_S a0 v102 x34 x35 x79 ((IntKind.i64.wrap (x108 + 1)), l114), Wk.ofk [0, 1, 2, 3] hk (by rfl) (by simp -implicitDefEqProofs [spec_FlatOf_l1_S, h_40, h_41, h_42, h_43, h_44, h_45, m_47, q_48]) (by simp -implicitDefEqProofs [spec_FlatOf_l1_S, h_40, h_41, h_42, h_43, h_44, h_45, m_47, q_48]), hR⟩
                  · replace H := HS.cnd_f h_40 H
                    try simp -implicitDefEqProofs +decide (maxSteps := 2000000) [-selQ_sel, hokQ_of, h_40]
                    have hr := (HS.some H).symm; subst hr
                    exact Hid.mk ⟨(spec_FlatOf_l1_X a0 v102 x34 x35 x79 x109).2, Wk.ofk [0, 1, 2] hk (by rfl) (by simp -implicitDefEqProofs [spec_FlatOf_l1_X, h_40]) (by simp -implicitDefEqProofs [spec_FlatOf_l1_X, h_40]), hR⟩
                · revert H h_39; revert q; intro y115 h_39 H
                  try dsimp only at H
                  try simp -implicitDefEqProofs +decide (maxSteps := 2000000) [-selQ_sel, hokQ_of, h_4, h_5, h_6, h_16, h_23, h_36, h_37, g_38, spec_FlatOf_l1_X]
                  obtain ⟨v116, h_49, H⟩ := HS.bnd H
                  try simp -implicitDefEqProofs +decide (maxSteps := 2000000) [-selQ_sel, hokQ_of, h_4, h_5, h_6, h_16, h_23, h_36, h_37, g_38, h_49]
                  have hr := (HS.some H).symm; subst hr
                  exact Hid.mk ⟨spec_FlatOf_l2_S a0 ((IntKind.i64.wrap (x34 + v116)), (IntKind.i64.wrap (x35 + 1)), y115, x79), Wk.ofk [0, 1, 2] hk (by rfl) (by simp -implicitDefEqProofs [spec_FlatOf_l2_S, h_4, h_5, h_6, h_16, h_23, h_36, h_37, g_38, h_49]) (by simp -implicitDefEqProofs [spec_FlatOf_l2_S, h_4, h_5, h_6, h_16, h_23, h_36, h_37, g_38, h_49]), hR⟩
              · replace H := HS.cnd_f h_36 H
                try simp -implicitDefEqProofs +decide (maxSteps := 2000000) [-selQ_sel, hokQ_of, h_4, h_5, h_6, h_16, h_23, h_36]
                refine Hid.brV (fun h_50 => ?_) (fun h_50 => ?_)
                · replace H := HS.cnd_t h_50 H
                  try simp -implicitDefEqProofs +decide (maxSteps := 2000000) [-selQ_sel, hokQ_of, h_4, h_5, h_6, h_16, h_23, h_36, h_50]
                  obtain ⟨v117, h_51, H⟩ := HS.bnd H
                  have g_52 := idx_get h_51
                  simp only [Int.reduceToNat] at g_52
                  try simp -implicitDefEqProofs +decide (maxSteps := 2000000) [-selQ_sel, hokQ_of, h_4, h_5, h_6, h_16, h_23, h_36, h_50, h_51, g_52]
                  obtain ⟨v118, h_53, H⟩ := HS.bnd H
                  have g_54 := idx_get h_53
                  try simp -implicitDefEqProofs +decide (maxSteps := 2000000) [-selQ_sel, hokQ_of, h_4, h_5, h_6, h_16, h_23, h_36, h_50, h_51, g_52, h_53, g_54]
                  refine Hid.brV (fun h_55 => ?_) (fun h_55 => ?_)
                  · replace H := HS.cnd_t h_55 H
                    try simp -implicitDefEqProofs +decide (maxSteps := 2000000) [-selQ_sel, hokQ_of, h_4, h_5, h_6, h_16, h_23, h_36, h_50, h_51, g_52, h_53, g_54, h_55]
                    obtain ⟨v119, h_56, H⟩ := HS.bnd H
                    try simp -implicitDefEqProofs +decide (maxSteps := 2000000) [-selQ_sel, hokQ_of, h_4, h_5, h_6, h_16, h_23, h_36, h_50, h_51, g_52, h_53, g_54, h_55, h_56]
                    have hr := (HS.some H).symm; subst hr
                    exact Hid.mk ⟨spec_FlatOf_l2_S a0 ((IntKind.i64.wrap (x34 + v119)), (IntKind.i64.wrap (x35 + 1)), x36, x79), Wk.ofk [0, 1, 2] hk (by rfl) (by simp -implicitDefEqProofs [spec_FlatOf_l2_S, h_4, h_5, h_6, h_16, h_23, h_36, h_50, h_51, g_52, h_53, g_54, h_55, h_56]) (by simp -implicitDefEqProofs [spec_FlatOf_l2_S, h_4, h_5, h_6, h_16, h_23, h_36, h_50, h_51, g_52, h_53, g_54, h_55, h_56]), hR⟩
                  · replace H := HS.cnd_f h_55 H
                    try simp -implicitDefEqProofs +decide (maxSteps := 2000000) [-selQ_sel, hokQ_of, h_4, h_5, h_6, h_16, h_23, h_36, h_50, h_51, g_52, h_53, g_54, h_55]
                    obtain ⟨h_57, H⟩ := HS.chkP H
                    try simp -implicitDefEqProofs +decide (maxSteps := 2000000) [-selQ_sel, hokQ_of, h_4, h_5, h_6, h_16, h_23, h_36, h_50, h_51, g_52, h_53, g_54, h_55, h_57]
                    obtain ⟨l120, h_58, H⟩ := HS.nam H
                    have m_59 := congrArg (List.map ePoint) h_58
                    have q_60 := congrArg List.length h_58
                    simp -implicitDefEqProofs at m_59 q_60
                    try simp only [q_60] at m_59
                    try simp only [q_60] at h_57
                    try simp -implicitDefEqProofs +decide (maxSteps := 2000000) [-selQ_sel, hokQ_of, h_4, h_5, h_6, h_16, h_23, h_36, h_50, h_51, g_52, h_53, g_54, h_55, h_57, m_59, q_60]
                    obtain ⟨v121, h_61, H⟩ := HS.bnd H
                    try simp -implicitDefEqProofs +decide (maxSteps := 2000000) [-selQ_sel, hokQ_of, h_4, h_5, h_6, h_16, h_23, h_36, h_50, h_51, g_52, h_53, g_54, h_55, h_57, m_59, q_60, h_61]
                    have hr := (HS.some H).symm; subst hr
                    exact Hid.mk ⟨spec_FlatOf_l2_S a0 ((IntKind.i64.wrap (x34 + v121)), (IntKind.i64.wrap (x35 + 1)), l120, x79), Wk.ofk [0, 1, 2] hk (by rfl) (by simp -implicitDefEqProofs [spec_FlatOf_l2_S, h_4, h_5, h_6, h_16, h_23, h_36, h_50, h_51, g_52, h_53, g_54, h_55, h_57, m_59, q_60, h_61]) (by simp -implicitDefEqProofs [spec_FlatOf_l2_S, h_4, h_5, h_6, h_16, h_23, h_36, h_50, h_51, g_52, h_53, g_54, h_55, h_57, m_59, q_60, h_61]), hR⟩
                · replace H := HS.cnd_f h_50 H
                  try simp -implicitDefEqProofs +decide (maxSteps := 2000000) [-selQ_sel, hokQ_of, h_4, h_5, h_6, h_16, h_23, h_36, h_50]
                  obtain ⟨v122, h_62, H⟩ := HS.bnd H
                  try simp -implicitDefEqProofs +decide (maxSteps := 2000000) [-selQ_sel, hokQ_of, h_4, h_5, h_6, h_16, h_23, h_36, h_50, h_62]
                  have hr := (HS.some H).symm; subst hr
                  exact Hid.mk ⟨spec_FlatOf_l2_S a0 ((IntKind.i64.wrap (x34 + v122)), (IntKind.i64.wrap (x35 + 1)), x36, x79), Wk.ofk [0, 1, 2] hk (by rfl) (by simp -implicitDefEqProofs [spec_FlatOf_l2_S, h_4, h_5, h_6, h_16, h_23, h_36, h_50, h_62]) (by simp -implicitDefEqProofs [spec_FlatOf_l2_S, h_4, h_5, h_6, h_16, h_23, h_36, h_50, h_62]), hR⟩
    · obtain ⟨y123, y124⟩ := q
      try dsimp only at H
      try simp -implicitDefEqProofs +decide (maxSteps := 2000000) [-selQ_sel, hokQ_of, h_1, h_2, spec_FlatOf_l2_X]
      refine Hid.brV (fun h_63 => ?_) (fun h_63 => ?_)
      · replace H := HS.cnd_t h_63 H
        try simp -implicitDefEqProofs +decide (maxSteps := 2000000) [-selQ_sel, hokQ_of, h_1, h_2, h_63]
        have hr := (HS.some H).symm; subst hr
        refine Hid.mk ⟨_, Wk.refl _, ?_⟩
        try simp -implicitDefEqProofs +decide (maxSteps := 2000000) [-selQ_sel, hokQ_of, h_1, h_2, h_63]
      · replace H := HS.cnd_f h_63 H
        try simp -implicitDefEqProofs +decide (maxSteps := 2000000) [-selQ_sel, hokQ_of, h_1, h_2, h_63]
        obtain ⟨h_64, H⟩ := HS.chkP H
        try simp -implicitDefEqProofs +decide (maxSteps := 2000000) [-selQ_sel, hokQ_of, h_1, h_2, h_63, h_64]
        obtain ⟨l125, h_65, H⟩ := HS.nam H
        have m_66 := congrArg (List.map (eSl ePoint)) h_65
        have q_67 := congrArg List.length h_65
        simp -implicitDefEqProofs at m_66 q_67
        try simp only [q_67] at m_66
        try simp only [q_67] at h_64
        try simp -implicitDefEqProofs +decide (maxSteps := 2000000) [-selQ_sel, hokQ_of, h_1, h_2, h_63, h_64, m_66, q_67]
        have hr := (HS.some H).symm; subst hr
        refine Hid.mk ⟨_, Wk.refl _, ?_⟩
        try simp -implicitDefEqProofs +decide (maxSteps := 2000000) [-selQ_sel, hokQ_of, h_1, h_2, h_63, h_64, m_66, q_67]
  · replace H := HS.cnd_f h_2 H
    try simp -implicitDefEqProofs +decide (maxSteps := 2000000) [-selQ_sel, hokQ_of, h_1, h_2]
    have hr := (HS.some H).symm; subst hr
    refine Hid.mk ⟨_, Wk.refl _, ?_⟩
    try simp -implicitDefEqProofs +decide (maxSteps := 2000000) [-selQ_sel, hokQ_of, h_1, h_2]
theorem spec_PathOk_ok0 (hm : Try.prog.follows .mixedOrders = true) (k_spec_NeedOf : Sound Try.prog 212 spec_NeedOf_x) (k_spec_PointOk : Sound Try.prog 222 spec_PointOk_x) : Sound Try.prog 184 spec_PathOk_x := by
  refine xOf_sound fun q r h => ?_
  revert h; revert r; revert q; intro a0 r h
  refine fn_ok E0 hm Try.func184 rfl (by decide +kernel) (by rfl) fun Γ hn hk => ?_
  dsimp only [spec_PathOk_e, spec_PathOk_v]
  replace hn : Γ.n = 75 := hn
  replace hk : Γ.k = 0 := hk
  have H : HS (spec_PathOk a0) r := h
  clear h; unfold spec_PathOk at H
  try simp -implicitDefEqProofs at H
  refine Tr.of_vc (cl := tabC [(212, spec_NeedOf_x), (222, spec_PointOk_x)]) (E := E0) [] (tab_cons k_spec_NeedOf (tab_cons k_spec_PointOk tab_nil)) hm (by rw [hn]; decide +kernel) ?_
  try simp -implicitDefEqProofs (maxSteps := 2000000) [-selQ_sel]
  refine Hid.selQ (fun h_1 => ?_) (fun h_1 => ?_)
  · replace H := HS.cnd_t h_1 H
    try simp -implicitDefEqProofs (maxSteps := 2000000) [-selQ_sel, h_1]
    refine Hid.brV (fun h_2 => ?_) (fun h_2 => ?_)
    · replace H := HS.cnd_t h_2 H
      try simp -implicitDefEqProofs (maxSteps := 2000000) [-selQ_sel, h_1, h_2]
      obtain ⟨q, h_3, H⟩ := HS.bnd H
      refine Hid.mk (Tr.weak (s' := (spec_PathOk_l0_S a0) (0, 0)) (Wk.ofk [0] hk (by rfl) (by simp -implicitDefEqProofs [spec_PathOk_l0_S, h_1, h_2]) (by simp -implicitDefEqProofs [spec_PathOk_l0_S, h_1, h_2])) ?_)
      refine wp_loop_of (S := (spec_PathOk_l0_S a0)) (f := (spec_PathOk_l0 a0)) (xt := (spec_PathOk_l0_X a0)) ?_ ?_ h_3 ?_
      · intro q; rcases q with y8 | ⟨⟩ <;> simp [spec_PathOk_l0_X]
      · clear H h_3 q
        rintro ⟨x3, x4⟩ o R hf hR
        have H : HS (spec_PathOk_l0 a0 (x3, x4)) o := hf
        clear hf; unfold spec_PathOk_l0 at H
        try simp -implicitDefEqProofs at H
        refine Tr.of_vc (cl := tabC [(212, spec_NeedOf_x), (222, spec_PointOk_x)]) (E := E0) [] (tab_cons k_spec_NeedOf (tab_cons k_spec_PointOk tab_nil)) hm (by rw [hn]; decide +kernel) ?_
        try simp -implicitDefEqProofs (maxSteps := 2000000) [-selQ_sel, spec_PathOk_l0_S]
        refine Hid.brV (fun h_4 => ?_) (fun h_4 => ?_)
        · replace H := HS.cnd_t h_4 H
          try simp -implicitDefEqProofs (maxSteps := 2000000) [-selQ_sel, h_4]
          have hr := (HS.some H).symm; subst hr
          exact Hid.mk ⟨(spec_PathOk_l0_X a0 (.inl x3)).2, Wk.ofk [0] hk (by rfl) (by simp -implicitDefEqProofs [spec_PathOk_l0_X, h_4]) (by simp -implicitDefEqProofs [spec_PathOk_l0_X, h_4]), hR⟩
        · replace H := HS.cnd_f h_4 H
          try simp -implicitDefEqProofs (maxSteps := 2000000) [-selQ_sel, h_4]
          obtain ⟨v5, h_5, H⟩ := HS.bnd H
          try simp -implicitDefEqProofs (maxSteps := 2000000) [-selQ_sel, h_4, h_5]
          obtain ⟨v6, h_6, H⟩ := HS.bnd H
          try simp -implicitDefEqProofs (maxSteps := 2000000) [-selQ_sel, h_4, h_5, h_6]
          refine Hid.selQ (fun h_7 => ?_) (fun h_7 => ?_)
          · replace H := HS.cnd_t h_7 H
            try simp -implicitDefEqProofs (maxSteps := 2000000) [-selQ_sel, h_4, h_5, h_6, h_7]
            refine Hid.selQ (fun h_8 => ?_) (fun h_8 => ?_)
            · replace H := HS.cnd_t h_8 H
              try simp -implicitDefEqProofs (maxSteps := 2000000) [-selQ_sel, h_4, h_5, h_6, h_7, h_8]
              refine Hid.brV (fun h_9 => ?_) (fun h_9 => ?_)
              · replace H := HS.cnd_t h_9 H
                try simp -implicitDefEqProofs (maxSteps := 2000000) [-selQ_sel, h_4, h_5, h_6, h_7, h_8, h_9]
                have hr := (HS.some H).symm; subst hr
                exact Hid.mk ⟨spec_PathOk_l0_S a0 ((IntKind.i64.wrap (x3 + v6)), (IntKind.i64.wrap (x4 + 1))), Wk.ofk [0] hk (by rfl) (by simp -implicitDefEqProofs [spec_PathOk_l0_S, h_4, h_5, h_6, h_7, h_8, h_9]) (by simp -implicitDefEqProofs [spec_PathOk_l0_S, h_4, h_5, h_6, h_7, h_8, h_9]), hR⟩
              · replace H := HS.cnd_f h_9 H
                try simp -implicitDefEqProofs (maxSteps := 2000000) [-selQ_sel, h_4, h_5, h_6, h_7, h_8, h_9]
                have hr := (HS.some H).symm; subst hr
                exact Hid.mk ⟨(spec_PathOk_l0_X a0 (.inr ())).2, Wk.ofk [] hk (by rfl) (by simp -implicitDefEqProofs [spec_PathOk_l0_X, h_4, h_5, h_6, h_7, h_8, h_9]) (by simp -implicitDefEqProofs [spec_PathOk_l0_X, h_4, h_5, h_6, h_7, h_8, h_9]), hR⟩
            · replace H := HS.cnd_f h_8 H
              try simp -implicitDefEqProofs (maxSteps := 2000000) [-selQ_sel, h_4, h_5, h_6, h_7, h_8]
              obtain ⟨v7, h_10, H⟩ := HS.bnd H
              try simp -implicitDefEqProofs (maxSteps := 2000000) [-selQ_sel, h_4, h_5, h_6, h_7, h_8, h_10]
              refine Hid.selQ (fun h_11 => ?_) (fun h_11 => ?_)
              · replace H := HS.cnd_t h_11 H
                try simp -implicitDefEqProofs (maxSteps := 2000000) [-selQ_sel, h_4, h_5, h_6, h_7, h_8, h_10, h_11]
                refine Hid.brV (fun h_12 => ?_) (fun h_12 => ?_)
                · replace H := HS.cnd_t h_12 H
                  try simp -implicitDefEqProofs (maxSteps := 2000000) [-selQ_sel, h_4, h_5, h_6, h_7, h_8, h_10, h_11, h_12]
                  have hr := (HS.some H).symm; subst hr
                  exact Hid.mk ⟨spec_PathOk_l0_S a0 ((IntKind.i64.wrap (x3 + v6)), (IntKind.i64.wrap (x4 + 1))), Wk.ofk [0] hk (by rfl) (by simp -implicitDefEqProofs [spec_PathOk_l0_S, h_4, h_5, h_6, h_7, h_8, h_10, h_11, h_12]) (by simp -implicitDefEqProofs [spec_PathOk_l0_S, h_4, h_5, h_6, h_7, h_8, h_10, h_11, h_12]), hR⟩
                · replace H := HS.cnd_f h_12 H
                  try simp -implicitDefEqProofs (maxSteps := 2000000) [-selQ_sel, h_4, h_5, h_6, h_7, h_8, h_10, h_11, h_12]
                  have hr := (HS.some H).symm; subst hr
                  exact Hid.mk ⟨(spec_PathOk_l0_X a0 (.inr ())).2, Wk.ofk [] hk (by rfl) (by simp -implicitDefEqProofs [spec_PathOk_l0_X, h_4, h_5, h_6, h_7, h_8, h_10, h_11, h_12]) (by simp -implicitDefEqProofs [spec_PathOk_l0_X, h_4, h_5, h_6, h_7, h_8, h_10, h_11, h_12]), hR⟩
              · replace H := HS.cnd_f h_11 H
                try simp -implicitDefEqProofs (maxSteps := 2000000) [-selQ_sel, h_4, h_5, h_6, h_7, h_8, h_10, h_11]
                have hr := (HS.some H).symm; subst hr
                exact Hid.mk ⟨spec_PathOk_l0_S a0 ((IntKind.i64.wrap (x3 + v6)), (IntKind.i64.wrap (x4 + 1))), Wk.ofk [0] hk (by rfl) (by simp -implicitDefEqProofs [spec_PathOk_l0_S, h_4, h_5, h_6, h_7, h_8, h_10, h_11]) (by simp -implicitDefEqProofs [spec_PathOk_l0_S, h_4, h_5, h_6, h_7, h_8, h_10, h_11]), hR⟩
          · replace H := HS.cnd_f h_7 H
            try simp -implicitDefEqProofs (maxSteps := 2000000) [-selQ_sel, h_4, h_5, h_6, h_7]
            have hr := (HS.some H).symm; subst hr
            exact Hid.mk ⟨(spec_PathOk_l0_X a0 (.inr ())).2, Wk.ofk [] hk (by rfl) (by simp -implicitDefEqProofs [spec_PathOk_l0_X, h_4, h_5, h_6, h_7]) (by simp -implicitDefEqProofs [spec_PathOk_l0_X, h_4, h_5, h_6, h_7]), hR⟩
      · rcases q with y8 | ⟨⟩
        · dsimp only at H
          try simp -implicitDefEqProofs (maxSteps := 2000000) [-selQ_sel, h_1, h_2, spec_PathOk_l0_X]
          obtain ⟨q, h_13, H⟩ := HS.bnd H
          refine Hid.mk (Tr.weak (s' := (spec_PathOk_l1_S a0 y8) 0) (Wk.ofk [0] hk (by rfl) (by simp -implicitDefEqProofs [spec_PathOk_l1_S, h_1, h_2]) (by simp -implicitDefEqProofs [spec_PathOk_l1_S, h_1, h_2])) ?_)
          refine wp_loop_of (S := (spec_PathOk_l1_S a0 y8)) (f := (spec_PathOk_l1 a0 y8)) (xt := (spec_PathOk_l1_X a0 y8)) ?_ ?_ h_13 ?_
          · intro q; rcases q with ⟨⟩ | ⟨⟩ <;> simp [spec_PathOk_l1_X]
          · clear H h_13 q
            rintro x11 o R hf hR
            have H : HS (spec_PathOk_l1 a0 y8 x11) o := hf
            clear hf; unfold spec_PathOk_l1 at H
            try simp -implicitDefEqProofs at H
            refine Tr.of_vc (cl := tabC [(212, spec_NeedOf_x), (222, spec_PointOk_x)]) (E := E0) [] (tab_cons k_spec_NeedOf (tab_cons k_spec_PointOk tab_nil)) hm (by rw [hn]; decide +kernel) ?_
            try simp -implicitDefEqProofs (maxSteps := 2000000) [-selQ_sel, spec_PathOk_l1_S]
            refine Hid.brV (fun h_14 => ?_) (fun h_14 => ?_)
            · replace H := HS.cnd_t h_14 H
              try simp -implicitDefEqProofs (maxSteps := 2000000) [-selQ_sel, h_14]
              have hr := (HS.some H).symm; subst hr
              exact Hid.mk ⟨(spec_PathOk_l1_X a0 y8 (.inl ())).2, Wk.ofk [0] hk (by rfl) (by simp -implicitDefEqProofs [spec_PathOk_l1_X, h_14]) (by simp -implicitDefEqProofs [spec_PathOk_l1_X, h_14]), hR⟩
            · replace H := HS.cnd_f h_14 H
              try simp -implicitDefEqProofs (maxSteps := 2000000) [-selQ_sel, h_14]
              obtain ⟨v12, h_15, H⟩ := HS.bnd H
              try simp -implicitDefEqProofs (maxSteps := 2000000) [-selQ_sel, h_14, h_15]
              obtain ⟨v13, h_16, H⟩ := HS.bnd H
              try simp -implicitDefEqProofs (maxSteps := 2000000) [-selQ_sel, h_14, h_15, h_16]
              refine Hid.brV (fun h_17 => ?_) (fun h_17 => ?_)
              · replace H := HS.cnd_t h_17 H
                try simp -implicitDefEqProofs (maxSteps := 2000000) [-selQ_sel, h_14, h_15, h_16, h_17]
                have hr := (HS.some H).symm; subst hr
                exact Hid.mk ⟨spec_PathOk_l1_S a0 y8 (IntKind.i64.wrap (x11 + 1)), Wk.ofk [0] hk (by rfl) (by simp -implicitDefEqProofs [spec_PathOk_l1_S, h_14, h_15, h_16, h_17]) (by simp -implicitDefEqProofs [spec_PathOk_l1_S, h_14, h_15, h_16, h_17]), hR⟩
              · replace H := HS.cnd_f h_17 H
                try simp -implicitDefEqProofs (maxSteps := 2000000) [-selQ_sel, h_14, h_15, h_16, h_17]
                have hr := (HS.some H).symm; subst hr
                exact Hid.mk ⟨(spec_PathOk_l1_X a0 y8 (.inr ())).2, Wk.ofk [] hk (by rfl) (by simp -implicitDefEqProofs [spec_PathOk_l1_X, h_14, h_15, h_16, h_17]) (by simp -implicitDefEqProofs [spec_PathOk_l1_X, h_14, h_15, h_16, h_17]), hR⟩
          · rcases q with ⟨⟩ | ⟨⟩
            · dsimp only at H
              try simp -implicitDefEqProofs (maxSteps := 2000000) [-selQ_sel, h_1, h_2, spec_PathOk_l1_X]
              have hr := (HS.some H).symm; subst hr
              refine Hid.mk ⟨_, Wk.refl _, ?_⟩
              try simp -implicitDefEqProofs (maxSteps := 2000000) [-selQ_sel, h_1, h_2]
            · dsimp only at H
              try simp -implicitDefEqProofs (maxSteps := 2000000) [-selQ_sel, h_1, h_2, spec_PathOk_l1_X]
              have hr := (HS.some H).symm; subst hr
              refine Hid.mk ⟨_, Wk.refl _, ?_⟩
              try simp -implicitDefEqProofs (maxSteps := 2000000) [-selQ_sel, h_1, h_2]
        · dsimp only at H
          try simp -implicitDefEqProofs (maxSteps := 2000000) [-selQ_sel, h_1, h_2, spec_PathOk_l0_X]
          have hr := (HS.some H).symm; subst hr
          refine Hid.mk ⟨_, Wk.refl _, ?_⟩
          try simp -implicitDefEqProofs (maxSteps := 2000000) [-selQ_sel, h_1, h_2]
    · replace H := HS.cnd_f h_2 H
      try simp -implicitDefEqProofs (maxSteps := 2000000) [-selQ_sel, h_1, h_2]
      have hr := (HS.some H).symm; subst hr
      refine Hid.mk ⟨_, Wk.refl _, ?_⟩
      try simp -implicitDefEqProofs (maxSteps := 2000000) [-selQ_sel, h_1, h_2]
  · replace H := HS.cnd_f h_1 H
    try simp -implicitDefEqProofs (maxSteps := 2000000) [-selQ_sel, h_1]
    have hr := (HS.some H).symm; subst hr
    refine Hid.mk ⟨_, Wk.refl _, ?_⟩
    try simp -implicitDefEqProofs (maxSteps := 2000000) [-selQ_sel, h_1]
theorem spec_WindOf_ok0 (hm : Try.prog.follows .mixedOrders = true) (k_spec_l10Near : Sound Try.prog 235 spec_l10Near_x) : Sound Try.prog 233 spec_WindOf_x := by
  refine xOf_sound fun q r h => ?_
  obtain ⟨a0, a1⟩ := q
  refine fn_ok E0 hm Try.func233 rfl (by decide +kernel) (by rfl) fun Γ hn hk => ?_
  dsimp only [spec_WindOf_e, spec_WindOf_v]
  replace hn : Γ.n = 99 := hn
  replace hk : Γ.k = 0 := hk
  have H : HS (spec_WindOf a0 a1) r := h
  clear h; unfold spec_WindOf at H
  try simp -implicitDefEqProofs at H
  refine Tr.of_vc (cl := tabC [(235, spec_l10Near_x)]) (E := E0) [] (tab_cons k_spec_l10Near tab_nil) hm (by rw [hn]; decide +kernel) ?_
  try simp -implicitDefEqProofs (maxSteps := 2000000) [-selQ_sel]
  obtain ⟨v1, h_1, H⟩ := HS.bnd H
  try simp -implicitDefEqProofs (maxSteps := 2000000) [-selQ_sel, h_1]
  refine Hid.brV (fun h_2 => ?_) (fun h_2 => ?_)
  · replace H := HS.cnd_t h_2 H
    try simp -implicitDefEqProofs (maxSteps := 2000000) [-selQ_sel, h_1, h_2]
    obtain ⟨q, h_3, H⟩ := HS.bnd H
    refine Hid.mk (Tr.weak (s' := (spec_WindOf_l0_S a0 a1) (0, 0)) (Wk.ofk [0] hk (by rfl) (by simp -implicitDefEqProofs [spec_WindOf_l0_S, h_1, h_2]) (by simp -implicitDefEqProofs [spec_WindOf_l0_S, h_1, h_2])) ?_)
    refine wp_loop_of (S := (spec_WindOf_l0_S a0 a1)) (f := (spec_WindOf_l0 a0 a1)) (xt := (spec_WindOf_l0_X a0 a1)) ?_ ?_ h_3 ?_
    · intro q; rcases q with y12 | ⟨⟩ <;> simp [spec_WindOf_l0_X]
    · clear H h_3 q
      rintro ⟨x6, x7⟩ o R hf hR
      have H : HS (spec_WindOf_l0 a0 a1 (x6, x7)) o := hf
      clear hf; unfold spec_WindOf_l0 at H
      try simp -implicitDefEqProofs at H
      refine Tr.of_vc (cl := tabC [(235, spec_l10Near_x)]) (E := E0) [] (tab_cons k_spec_l10Near tab_nil) hm (by rw [hn]; decide +kernel) ?_
      try simp -implicitDefEqProofs (maxSteps := 2000000) [-selQ_sel, spec_WindOf_l0_S]
      refine Hid.brV (fun h_4 => ?_) (fun h_4 => ?_)
      · replace H := HS.cnd_t h_4 H
        try simp -implicitDefEqProofs (maxSteps := 2000000) [-selQ_sel, h_4]
        have hr := (HS.some H).symm; subst hr
        exact Hid.mk ⟨(spec_WindOf_l0_X a0 a1 (.inl x7)).2, Wk.ofk [] hk (by rfl) (by simp -implicitDefEqProofs [spec_WindOf_l0_X, h_4]) (by simp -implicitDefEqProofs [spec_WindOf_l0_X, h_4]), hR⟩
      · replace H := HS.cnd_f h_4 H
        try simp -implicitDefEqProofs (maxSteps := 2000000) [-selQ_sel, h_4]
        obtain ⟨v8, h_5, H⟩ := HS.bnd H
        try simp -implicitDefEqProofs (maxSteps := 2000000) [-selQ_sel, h_4, h_5]
        obtain ⟨h_6, H⟩ := HS.chkP H
        try simp -implicitDefEqProofs (maxSteps := 2000000) [-selQ_sel, h_4, h_5, h_6]
        obtain ⟨v9, h_7, H⟩ := HS.bnd H
        try simp -implicitDefEqProofs (maxSteps := 2000000) [-selQ_sel, h_4, h_5, h_6, h_7]
        obtain ⟨v10, h_8, H⟩ := HS.bnd H
        try simp -implicitDefEqProofs (maxSteps := 2000000) [-selQ_sel, h_4, h_5, h_6, h_7, h_8]
        refine Hid.selQ (fun h_9 => ?_) (fun h_9 => ?_)
        · replace H := HS.cnd_t h_9 H
          try simp -implicitDefEqProofs (maxSteps := 2000000) [-selQ_sel, h_4, h_5, h_6, h_7, h_8, h_9]
          obtain ⟨v11, h_10, H⟩ := HS.bnd H
          try simp -implicitDefEqProofs (maxSteps := 2000000) [-selQ_sel, h_4, h_5, h_6, h_7, h_8, h_9, h_10]
          refine Hid.brV (fun h_11 => ?_) (fun h_11 => ?_)
          · replace H := HS.cnd_t h_11 H
            try simp -implicitDefEqProofs (maxSteps := 2000000) [-selQ_sel, h_4, h_5, h_6, h_7, h_8, h_9, h_10, h_11]
            refine Hid.selQ (fun h_12 => ?_) (fun h_12 => ?_)
            · replace H := HS.cnd_t h_12 H
              try simp -implicitDefEqProofs (maxSteps := 2000000) [-selQ_sel, h_4, h_5, h_6, h_7, h_8, h_9, h_10, h_11, h_12]
              refine Hid.selQ (fun h_13 => ?_) (fun h_13 => ?_)
              · replace H := HS.cnd_t h_13 H
                try simp -implicitDefEqProofs (maxSteps := 2000000) [-selQ_sel, h_4, h_5, h_6, h_7, h_8, h_9, h_10, h_11, h_12, h_13]
                have hr := (HS.some H).symm; subst hr
                exact Hid.mk ⟨spec_WindOf_l0_S a0 a1 ((IntKind.i64.wrap (x6 + 1)), x7), Wk.ofk [0] hk (by rfl) (by simp -implicitDefEqProofs [spec_WindOf_l0_S, h_4, h_5, h_6, h_7, h_8, h_9, h_10, h_11, h_12, h_13]) (by simp -implicitDefEqProofs [spec_WindOf_l0_S, h_4, h_5, h_6, h_7, h_8, h_9, h_10, h_11, h_12, h_13]), hR⟩
              · replace H := HS.cnd_f h_13 H
                try simp -implicitDefEqProofs (maxSteps := 2000000) [-selQ_sel, h_4, h_5, h_6, h_7, h_8, h_9, h_10, h_11, h_12, h_13]
                refine Hid.brV (fun h_14 => ?_) (fun h_14 => ?_)
                · replace H := HS.cnd_t h_14 H
                  try simp -implicitDefEqProofs (maxSteps := 2000000) [-selQ_sel, h_4, h_5, h_6, h_7, h_8, h_9, h_10, h_11, h_12, h_13, h_14]
                  have hr := (HS.some H).symm; subst hr
                  exact Hid.mk ⟨spec_WindOf_l0_S a0 a1 ((IntKind.i64.wrap (x6 + 1)), x7), Wk.ofk [0] hk (by rfl) (by simp -implicitDefEqProofs [spec_WindOf_l0_S, h_4, h_5, h_6, h_7, h_8, h_9, h_10, h_11, h_12, h_13, h_14]) (by simp -implicitDefEqProofs [spec_WindOf_l0_S, h_4, h_5, h_6, h_7, h_8, h_9, h_10, h_11, h_12, h_13, h_14]), hR⟩
                · replace H := HS.cnd_f h_14 H
                  try simp -implicitDefEqProofs (maxSteps := 2000000) [-selQ_sel, h_4, h_5, h_6, h_7, h_8, h_9, h_10, h_11, h_12, h_13, h_14]
                  have hr := (HS.some H).symm; subst hr
                  exact Hid.mk ⟨spec_WindOf_l0_S a0 a1 ((IntKind.i64.wrap (x6 + 1)), (IntKind.i64.wrap (x7 + 1))), Wk.ofk [0] hk (by rfl) (by simp -implicitDefEqProofs [spec_WindOf_l0_S, h_4, h_5, h_6, h_7, h_8, h_9, h_10, h_11, h_12, h_13, h_14]) (by simp -implicitDefEqProofs [spec_WindOf_l0_S, h_4, h_5, h_6, h_7, h_8, h_9, h_10, h_11, h_12, h_13, h_14]), hR⟩
            · replace H := HS.cnd_f h_12 H
              try simp -implicitDefEqProofs (maxSteps := 2000000) [-selQ_sel, h_4, h_5, h_6, h_7, h_8, h_9, h_10, h_11, h_12]
              refine Hid.selQ (fun h_15 => ?_) (fun h_15 => ?_)
              · replace H := HS.cnd_t h_15 H
                try simp -implicitDefEqProofs (maxSteps := 2000000) [-selQ_sel, h_4, h_5, h_6, h_7, h_8, h_9, h_10, h_11, h_12, h_15]
                refine Hid.brV (fun h_16 => ?_) (fun h_16 => ?_)
                · replace H := HS.cnd_t h_16 H
                  try simp -implicitDefEqProofs (maxSteps := 2000000) [-selQ_sel, h_4, h_5, h_6, h_7, h_8, h_9, h_10, h_11, h_12, h_15, h_16]
                  have hr := (HS.some H).symm; subst hr
                  exact Hid.mk ⟨spec_WindOf_l0_S a0 a1 ((IntKind.i64.wrap (x6 + 1)), x7), Wk.ofk [0] hk (by rfl) (by simp -implicitDefEqProofs [spec_WindOf_l0_S, h_4, h_5, h_6, h_7, h_8, h_9, h_10, h_11, h_12, h_15, h_16]) (by simp -implicitDefEqProofs [spec_WindOf_l0_S, h_4, h_5, h_6, h_7, h_8, h_9, h_10, h_11, h_12, h_15, h_16]), hR⟩
                · replace H := HS.cnd_f h_16 H
                  try simp -implicitDefEqProofs (maxSteps := 2000000) [-selQ_sel, h_4, h_5, h_6, h_7, h_8, h_9, h_10, h_11, h_12, h_15, h_16]
                  have hr := (HS.some H).symm; subst hr
                  exact Hid.mk ⟨spec_WindOf_l0_S a0 a1 ((IntKind.i64.wrap (x6 + 1)), (IntKind.i64.wrap (x7 - 1))), Wk.ofk [0] hk (by rfl) (by simp -implicitDefEqProofs [spec_WindOf_l0_S, h_4, h_5, h_6, h_7, h_8, h_9, h_10, h_11, h_12, h_15, h_16]) (by simp -implicitDefEqProofs [spec_WindOf_l0_S, h_4, h_5, h_6, h_7, h_8, h_9, h_10, h_11, h_12, h_15, h_16]), hR⟩
              · replace H := HS.cnd_f h_15 H
                try simp -implicitDefEqProofs (maxSteps := 2000000) [-selQ_sel, h_4, h_5, h_6, h_7, h_8, h_9, h_10, h_11, h_12, h_15]
                have hr := (HS.some H).symm; subst hr
                exact Hid.mk ⟨spec_WindOf_l0_S a0 a1 ((IntKind.i64.wrap (x6 + 1)), x7), Wk.ofk [0] hk (by rfl) (by simp -implicitDefEqProofs [spec_WindOf_l0_S, h_4, h_5, h_6, h_7, h_8, h_9, h_10, h_11, h_12, h_15]) (by simp -implicitDefEqProofs [spec_WindOf_l0_S, h_4, h_5, h_6, h_7, h_8, h_9, h_10, h_11, h_12, h_15]), hR⟩
          · replace H := HS.cnd_f h_11 H
            try simp -implicitDefEqProofs (maxSteps := 2000000) [-selQ_sel, h_4, h_5, h_6, h_7, h_8, h_9, h_10, h_11]
            have hr := (HS.some H).symm; subst hr
            exact Hid.mk ⟨(spec_WindOf_l0_X a0 a1 (.inr ())).2, Wk.ofk [] hk (by rfl) (by simp -implicitDefEqProofs [spec_WindOf_l0_X, h_4, h_5, h_6, h_7, h_8, h_9, h_10, h_11]) (by simp -implicitDefEqProofs [spec_WindOf_l0_X, h_4, h_5, h_6, h_7, h_8, h_9, h_10, h_11]), hR⟩
        · replace H := HS.cnd_f h_9 H
          try simp -implicitDefEqProofs (maxSteps := 2000000) [-selQ_sel, h_4, h_5, h_6, h_7, h_8, h_9]
          have hr := (HS.some H).symm; subst hr
          exact Hid.mk ⟨(spec_WindOf_l0_X a0 a1 (.inr ())).2, Wk.ofk [] hk (by rfl) (by simp -implicitDefEqProofs [spec_WindOf_l0_X, h_4, h_5, h_6, h_7, h_8, h_9]) (by simp -implicitDefEqProofs [spec_WindOf_l0_X, h_4, h_5, h_6, h_7, h_8, h_9]), hR⟩
    · rcases q with y12 | ⟨⟩
      · dsimp only at H
        try simp -implicitDefEqProofs (maxSteps := 2000000) [-selQ_sel, h_1, h_2, spec_WindOf_l0_X]
        have hr := (HS.some H).symm; subst hr
        refine Hid.mk ⟨_, Wk.refl _, ?_⟩
        try simp -implicitDefEqProofs (maxSteps := 2000000) [-selQ_sel, h_1, h_2]
      · dsimp only at H
        try simp -implicitDefEqProofs (maxSteps := 2000000) [-selQ_sel, h_1, h_2, spec_WindOf_l0_X]
        have hr := (HS.some H).symm; subst hr
        refine Hid.mk ⟨_, Wk.refl _, ?_⟩
        try simp -implicitDefEqProofs (maxSteps := 2000000) [-selQ_sel, h_1, h_2]
  · replace H := HS.cnd_f h_2 H
    try simp -implicitDefEqProofs (maxSteps := 2000000) [-selQ_sel, h_1, h_2]
    have hr := (HS.some H).symm; subst hr
    refine Hid.mk ⟨_, Wk.refl _, ?_⟩
    try simp -implicitDefEqProofs (maxSteps := 2000000) [-selQ_sel, h_1, h_2]
theorem spec_MaskOf_ok0 (hm : Try.prog.follows .mixedOrders = true) (k_spec_l11Box : Sound Try.prog 161 spec_l11Box_x) (k_spec_MaskAt : Sound Try.prog 209 spec_MaskAt_x) : Sound Try.prog 167 spec_MaskOf_x := by
  refine xOf_sound fun q r h => ?_
  obtain ⟨a0, a1, a2⟩ := q
  refine fn_ok E0 hm Try.func167 rfl (by decide +kernel) (by rfl) fun Γ hn hk => ?_
  dsimp only [spec_MaskOf_e, spec_MaskOf_v]
  replace hn : Γ.n = 43 := hn
  replace hk : Γ.k = 0 := hk
  have H : HS (spec_MaskOf a0 a1 a2) r := h
  clear h; unfold spec_MaskOf at H
  try simp -implicitDefEqProofs at H
  refine Tr.of_vc (cl := tabC [(161, spec_l11Box_x), (209, spec_MaskAt_x)]) (E := E0) [] (tab_cons k_spec_l11Box (tab_cons k_spec_MaskAt tab_nil)) hm (by rw [hn]; decide +kernel) ?_
  try simp -implicitDefEqProofs +decide (maxSteps := 2000000) [-selQ_sel, hokQ_of]
  obtain ⟨v1, h_1, H⟩ := HS.bnd H
  try simp -implicitDefEqProofs +decide (maxSteps := 2000000) [-selQ_sel, hokQ_of, h_1]
  refine Hid.brV (fun h_2 => ?_) (fun h_2 => ?_)
  · replace H := HS.cnd_t h_2 H
    try simp -implicitDefEqProofs +decide (maxSteps := 2000000) [-selQ_sel, hokQ_of, h_1, h_2]
    obtain ⟨q, h_3, H⟩ := HS.bnd H
    refine Hid.mk (Tr.weak (s' := (spec_MaskOf_l1_S a0 a1 a2) (a2.y0, [])) (Wk.ofk [0, 1, 2, 3] hk (by rfl) (by simp -implicitDefEqProofs [spec_MaskOf_l1_S, h_1, h_2]) (by simp -implicitDefEqProofs [spec_MaskOf_l1_S, h_1, h_2])) ?_)
    refine wp_loop_of (S := (spec_MaskOf_l1_S a0 a1 a2)) (f := (spec_MaskOf_l1 a0 a1 a2)) (xt := (spec_MaskOf_l1_X a0 a1 a2)) ?_ ?_ h_3 ?_
    · intro q; simp [spec_MaskOf_l1_X]
    · clear H h_3 q
      rintro ⟨x8, x9⟩ o R hf hR
      have H : HS (spec_MaskOf_l1 a0 a1 a2 (x8, x9)) o := hf
      clear hf; unfold spec_MaskOf_l1 at H
      try simp -implicitDefEqProofs at H
      refine Tr.of_vc (cl := tabC [(161, spec_l11Box_x), (209, spec_MaskAt_x)]) (E := E0) [] (tab_cons k_spec_l11Box (tab_cons k_spec_MaskAt tab_nil)) hm (by rw [hn]; decide +kernel) ?_
      try simp -implicitDefEqProofs +decide (maxSteps := 2000000) [-selQ_sel, hokQ_of, spec_MaskOf_l1_S]
      refine Hid.brV (fun h_4 => ?_) (fun h_4 => ?_)
      · replace H := HS.cnd_t h_4 H
        try simp -implicitDefEqProofs +decide (maxSteps := 2000000) [-selQ_sel, hokQ_of, h_4]
        have hr := (HS.some H).symm; subst hr
        exact Hid.mk ⟨(spec_MaskOf_l1_X a0 a1 a2 x9).2, Wk.ofk [1, 2, 3] hk (by rfl) (by simp -implicitDefEqProofs [spec_MaskOf_l1_X, h_4]) (by simp -implicitDefEqProofs [spec_MaskOf_l1_X, h_4]), hR⟩
      · replace H := HS.cnd_f h_4 H
        try simp -implicitDefEqProofs +decide (maxSteps := 2000000) [-selQ_sel, hokQ_of, h_4]
        obtain ⟨q, h_5, H⟩ := HS.bnd H
        refine Hid.mk (Tr.weak (s' := (spec_MaskOf_l0_S a0 a1 a2 x8) (a2.x0, x9)) (Wk.ofk [0, 1, 2, 3] hk (by rfl) (by simp -implicitDefEqProofs [spec_MaskOf_l0_S, h_4]) (by simp -implicitDefEqProofs [spec_MaskOf_l0_S, h_4])) ?_)
        refine wp_loop_of (S := (spec_MaskOf_l0_S a0 a1 a2 x8)) (f := (spec_MaskOf_l0 a0 a1 a2 x8)) (xt := (spec_MaskOf_l0_X a0 a1 a2 x8)) ?_ ?_ h_5 ?_
        · intro q; simp [spec_MaskOf_l0_X]
        · clear H h_5 q
          rintro ⟨x12, x13⟩ o R hf hR
          have H : HS (spec_MaskOf_l0 a0 a1 a2 x8 (x12, x13)) o := hf
          clear hf; unfold spec_MaskOf_l0 at H
          try simp -implicitDefEqProofs at H
          refine Tr.of_vc (cl := tabC [(161, spec_l11Box_x), (209, spec_MaskAt_x)]) (E := E0) [] (tab_cons k_spec_l11Box (tab_cons k_spec_MaskAt tab_nil)) hm (by rw [hn]; decide +kernel) ?_
          try simp -implicitDefEqProofs +decide (maxSteps := 2000000) [-selQ_sel, hokQ_of, spec_MaskOf_l0_S]
          refine Hid.brV (fun h_6 => ?_) (fun h_6 => ?_)
          · replace H := HS.cnd_t h_6 H
            try simp -implicitDefEqProofs +decide (maxSteps := 2000000) [-selQ_sel, hokQ_of, h_6]
            have hr := (HS.some H).symm; subst hr
            exact Hid.mk ⟨(spec_MaskOf_l0_X a0 a1 a2 x8 x13).2, Wk.ofk [0, 1, 2, 3] hk (by rfl) (by simp -implicitDefEqProofs [spec_MaskOf_l0_X, h_6]) (by simp -implicitDefEqProofs [spec_MaskOf_l0_X, h_6]), hR⟩
          · replace H := HS.cnd_f h_6 H
            try simp -implicitDefEqProofs +decide (maxSteps := 2000000) [-selQ_sel, hokQ_of, h_6]
            obtain ⟨v14, h_7, H⟩ := HS.bnd H
            try simp -implicitDefEqProofs +decide (maxSteps := 2000000) [-selQ_sel, hokQ_of, h_6, h_7]
            obtain ⟨h_8, H⟩ := HS.chkP H
            try simp -implicitDefEqProofs +decide (maxSteps := 2000000) [-selQ_sel, hokQ_of, h_6, h_7, h_8]
            obtain ⟨l15, h_9, H⟩ := HS.nam H
            have m_10 := congrArg (List.map (AV.int .i64)) h_9
            have q_11 := congrArg List.length h_9
            simp -implicitDefEqProofs at m_10 q_11
            try simp only [q_11] at m_10
            try simp only [q_11] at h_8
            try simp -implicitDefEqProofs +decide (maxSteps := 2000000) [-selQ_sel, hokQ_of, h_6, h_7, h_8, m_10, q_11]
            have hr := (HS.some H).symm; subst hr
            exact Hid.mk ⟨spec_MaskOf_l0_S a0 a1 a2 x8 ((IntKind.i64.wrap (x12 + 1)), l15), Wk.ofk [0, 1, 2, 3] hk (by rfl) (by simp -implicitDefEqProofs [spec_MaskOf_l0_S, h_6, h_7, h_8, m_10, q_11]) (by simp -implicitDefEqProofs [spec_MaskOf_l0_S, h_6, h_7, h_8, m_10, q_11]), hR⟩
        · revert H h_5; revert q; intro y16 h_5 H
          try dsimp only at H
          try simp -implicitDefEqProofs +decide (maxSteps := 2000000) [-selQ_sel, hokQ_of, h_4, spec_MaskOf_l0_X]
          have hr := (HS.some H).symm; subst hr
          exact Hid.mk ⟨spec_MaskOf_l1_S a0 a1 a2 ((IntKind.i64.wrap (x8 + 1)), y16), Wk.ofk [0, 1, 2, 3] hk (by rfl) (by simp -implicitDefEqProofs [spec_MaskOf_l1_S, h_4]) (by simp -implicitDefEqProofs [spec_MaskOf_l1_S, h_4]), hR⟩
    · revert H h_3; revert q; intro y17 h_3 H
      try dsimp only at H
      try simp -implicitDefEqProofs +decide (maxSteps := 2000000) [-selQ_sel, hokQ_of, h_1, h_2, spec_MaskOf_l1_X]
      have hr := (HS.some H).symm; subst hr
      refine Hid.mk ⟨⟨[(6, AV.optr 0 0 5)], [(0, Ob.box [AV.int .i64 a2.x0, AV.int .i64 a2.y0, AV.int .i64 a2.x1, AV.int .i64 a2.y1, AV.osl 1 0 (List.length y17) (List.length y17)]), (1, Ob.arr 1 (List.map (AV.int .i64) y17) false)], 2⟩, Wk.ofk [0, 2] hk (by rfl) (by simp -implicitDefEqProofs [h_1, h_2]) (by simp -implicitDefEqProofs [h_1, h_2]), ?_⟩
      try simp -implicitDefEqProofs +decide (maxSteps := 2000000) [-selQ_sel, hokQ_of, h_1, h_2]
  · replace H := HS.cnd_f h_2 H
    try simp -implicitDefEqProofs +decide (maxSteps := 2000000) [-selQ_sel, hokQ_of, h_1, h_2]
    have hr := (HS.some H).symm; subst hr
    refine Hid.mk ⟨⟨[(6, AV.optr 0 0 5)], [(0, Ob.box [AV.int .i64 0, AV.int .i64 0, AV.int .i64 0, AV.int .i64 0, AV.osl 1 0 0 0]), (1, Ob.arr 1 (List.map (AV.int .i64) []) false)], 2⟩, Wk.ofk [1, 2] hk (by rfl) (by simp -implicitDefEqProofs [h_1, h_2]) (by simp -implicitDefEqProofs [h_1, h_2]), ?_⟩
    try simp -implicitDefEqProofs +decide (maxSteps := 2000000) [-selQ_sel, hokQ_of, h_1, h_2]
theorem impl_MaskOk_ok0 (hm : Try.prog.follows .mixedOrders = true) (k_impl_isMaskBox : Sound Try.prog 162 impl_isMaskBox_x) (k_impl_inRange : Sound Try.prog 95 impl_inRange_x) : Sound Try.prog 96 impl_MaskOk_x := by
  refine xOf_sound fun q r h => ?_
  revert h; revert r; revert q; intro a0 r h
  refine fn_ok E0 hm Try.func96 rfl (by decide +kernel) (by rfl) fun Γ hn hk => ?_
  dsimp only [impl_MaskOk_e, impl_MaskOk_v]
  replace hn : Γ.n = 49 := hn
  replace hk : Γ.k = 0 := hk
  have H : HS (impl_MaskOk a0) r := h
  clear h; unfold impl_MaskOk at H
  try simp -implicitDefEqProofs at H
  refine Tr.of_vc (cl := tabC [(162, impl_isMaskBox_x), (95, impl_inRange_x)]) (E := E0) [] (tab_cons k_impl_isMaskBox (tab_cons k_impl_inRange tab_nil)) hm (by rw [hn]; decide +kernel) ?_
  try simp -implicitDefEqProofs (maxSteps := 2000000) [-selQ_sel]
  refine Hid.brV (fun h_1 => ?_) (fun h_1 => ?_)
  · replace H := HS.cnd_t h_1 H
    try simp -implicitDefEqProofs (maxSteps := 2000000) [-selQ_sel, h_1]
    have hr := (HS.some H).symm; subst hr
    refine Hid.mk ⟨_, Wk.refl _, ?_⟩
    try simp -implicitDefEqProofs (maxSteps := 2000000) [-selQ_sel, h_1]
  · replace H := HS.cnd_f h_1 H
    try simp -implicitDefEqProofs (maxSteps := 2000000) [-selQ_sel, h_1]
    obtain ⟨v1, h_2, H⟩ := HS.bnd H
    try simp -implicitDefEqProofs (maxSteps := 2000000) [-selQ_sel, h_1, h_2]
    refine Hid.selQ (fun h_3 => ?_) (fun h_3 => ?_)
    · replace H := HS.cnd_t h_3 H
      try simp -implicitDefEqProofs (maxSteps := 2000000) [-selQ_sel, h_1, h_2, h_3]
      refine Hid.brV (fun h_4 => ?_) (fun h_4 => ?_)
      · replace H := HS.cnd_t h_4 H
        try simp -implicitDefEqProofs (maxSteps := 2000000) [-selQ_sel, h_1, h_2, h_3, h_4]
        obtain ⟨q, h_5, H⟩ := HS.bnd H
        refine Hid.mk (Tr.weak (s' := (impl_MaskOk_l0_S a0) 0) (Wk.ofk [] hk (by rfl) (by simp -implicitDefEqProofs [impl_MaskOk_l0_S, h_1, h_2, h_3, h_4]) (by simp -implicitDefEqProofs [impl_MaskOk_l0_S, h_1, h_2, h_3, h_4])) ?_)
        refine wp_loop_of (S := (impl_MaskOk_l0_S a0)) (f := (impl_MaskOk_l0 a0)) (xt := (impl_MaskOk_l0_X a0)) ?_ ?_ h_5 ?_
        · intro q; rcases q with ⟨⟩ | ⟨⟩ <;> simp [impl_MaskOk_l0_X]
        · clear H h_5 q
          rintro x4 o R hf hR
          have H : HS (impl_MaskOk_l0 a0 x4) o := hf
          clear hf; unfold impl_MaskOk_l0 at H
          try simp -implicitDefEqProofs at H
          refine Tr.of_vc (cl := tabC [(162, impl_isMaskBox_x), (95, impl_inRange_x)]) (E := E0) [] (tab_cons k_impl_isMaskBox (tab_cons k_impl_inRange tab_nil)) hm (by rw [hn]; decide +kernel) ?_
          try simp -implicitDefEqProofs (maxSteps := 2000000) [-selQ_sel, impl_MaskOk_l0_S]
          refine Hid.brV (fun h_6 => ?_) (fun h_6 => ?_)
          · replace H := HS.cnd_t h_6 H
            try simp -implicitDefEqProofs (maxSteps := 2000000) [-selQ_sel, h_6]
            have hr := (HS.some H).symm; subst hr
            exact Hid.mk ⟨(impl_MaskOk_l0_X a0 (.inl ())).2, Wk.ofk [] hk (by rfl) (by simp -implicitDefEqProofs [impl_MaskOk_l0_X, h_6]) (by simp -implicitDefEqProofs [impl_MaskOk_l0_X, h_6]), hR⟩
          · replace H := HS.cnd_f h_6 H
            try simp -implicitDefEqProofs (maxSteps := 2000000) [-selQ_sel, h_6]
            obtain ⟨v5, h_7, H⟩ := HS.bnd H
            try simp -implicitDefEqProofs (maxSteps := 2000000) [-selQ_sel, h_6, h_7]
            obtain ⟨v6, h_8, H⟩ := HS.bnd H
            try simp -implicitDefEqProofs (maxSteps := 2000000) [-selQ_sel, h_6, h_7, h_8]
            refine Hid.brV (fun h_9 => ?_) (fun h_9 => ?_)
            · replace H := HS.cnd_t h_9 H
              try simp -implicitDefEqProofs (maxSteps := 2000000) [-selQ_sel, h_6, h_7, h_8, h_9]
              have hr := (HS.some H).symm; subst hr
              exact Hid.mk ⟨impl_MaskOk_l0_S a0 (IntKind.i64.wrap (x4 + 1)), Wk.ofk [] hk (by rfl) (by simp -implicitDefEqProofs [impl_MaskOk_l0_S, h_6, h_7, h_8, h_9]) (by simp -implicitDefEqProofs [impl_MaskOk_l0_S, h_6, h_7, h_8, h_9]), hR⟩
            · replace H := HS.cnd_f h_9 H
              try simp -implicitDefEqProofs (maxSteps := 2000000) [-selQ_sel, h_6, h_7, h_8, h_9]
              have hr := (HS.some H).symm; subst hr
              exact Hid.mk ⟨(impl_MaskOk_l0_X a0 (.inr ())).2, Wk.ofk [] hk (by rfl) (by simp -implicitDefEqProofs [impl_MaskOk_l0_X, h_6, h_7, h_8, h_9]) (by simp -implicitDefEqProofs [impl_MaskOk_l0_X, h_6, h_7, h_8, h_9]), hR⟩
        · rcases q with ⟨⟩ | ⟨⟩
          · dsimp only at H
            try simp -implicitDefEqProofs (maxSteps := 2000000) [-selQ_sel, h_1, h_2, h_3, h_4, impl_MaskOk_l0_X]
            have hr := (HS.some H).symm; subst hr
            refine Hid.mk ⟨_, Wk.refl _, ?_⟩
            try simp -implicitDefEqProofs (maxSteps := 2000000) [-selQ_sel, h_1, h_2, h_3, h_4]
          · dsimp only at H
            try simp -implicitDefEqProofs (maxSteps := 2000000) [-selQ_sel, h_1, h_2, h_3, h_4, impl_MaskOk_l0_X]
            have hr := (HS.some H).symm; subst hr
            refine Hid.mk ⟨_, Wk.refl _, ?_⟩
            try simp -implicitDefEqProofs (maxSteps := 2000000) [-selQ_sel, h_1, h_2, h_3, h_4]
      · replace H := HS.cnd_f h_4 H
        try simp -implicitDefEqProofs (maxSteps := 2000000) [-selQ_sel, h_1, h_2, h_3, h_4]
        have hr := (HS.some H).symm; subst hr
        refine Hid.mk ⟨_, Wk.refl _, ?_⟩
        try simp -implicitDefEqProofs (maxSteps := 2000000) [-selQ_sel, h_1, h_2, h_3, h_4]
    · replace H := HS.cnd_f h_3 H
      try simp -implicitDefEqProofs (maxSteps := 2000000) [-selQ_sel, h_1, h_2, h_3]
      have hr := (HS.some H).symm; subst hr
      refine Hid.mk ⟨_, Wk.refl _, ?_⟩
      try simp -implicitDefEqProofs (maxSteps := 2000000) [-selQ_sel, h_1, h_2, h_3]
theorem spec_MaskOk_ok0 (hm : Try.prog.follows .mixedOrders = true) (k_spec_l11Box : Sound Try.prog 161 spec_l11Box_x) (k_spec_l01In : Sound Try.prog 91 spec_l01In_x) : Sound Try.prog 92 spec_MaskOk_x := by
  refine xOf_sound fun q r h => ?_
  revert h; revert r; revert q; intro a0 r h
  refine fn_ok E0 hm Try.func92 rfl (by decide +kernel) (by rfl) fun Γ hn hk => ?_
  dsimp only [spec_MaskOk_e, spec_MaskOk_v]
  replace hn : Γ.n = 51 := hn
  replace hk : Γ.k = 0 := hk
  have H : HS (spec_MaskOk a0) r := h
  clear h; unfold spec_MaskOk at H
  try simp -implicitDefEqProofs at H
  refine Tr.of_vc (cl := tabC [(161, spec_l11Box_x), (91, spec_l01In_x)]) (E := E0) [] (tab_cons k_spec_l11Box (tab_cons k_spec_l01In tab_nil)) hm (by rw [hn]; decide +kernel) ?_
  try simp -implicitDefEqProofs (maxSteps := 2000000) [-selQ_sel]
  refine Hid.brV (fun h_1 => ?_) (fun h_1 => ?_)
  · replace H := HS.cnd_t h_1 H
    try simp -implicitDefEqProofs (maxSteps := 2000000) [-selQ_sel, h_1]
    have hr := (HS.some H).symm; subst hr
    refine Hid.mk ⟨_, Wk.refl _, ?_⟩
    try simp -implicitDefEqProofs (maxSteps := 2000000) [-selQ_sel, h_1]
  · replace H := HS.cnd_f h_1 H
    try simp -implicitDefEqProofs (maxSteps := 2000000) [-selQ_sel, h_1]
    obtain ⟨v1, h_2, H⟩ := HS.bnd H
    try simp -implicitDefEqProofs (maxSteps := 2000000) [-selQ_sel, h_1, h_2]
    refine Hid.selQ (fun h_3 => ?_) (fun h_3 => ?_)
    · replace H := HS.cnd_t h_3 H
      try simp -implicitDefEqProofs (maxSteps := 2000000) [-selQ_sel, h_1, h_2, h_3]
      refine Hid.brV (fun h_4 => ?_) (fun h_4 => ?_)
      · replace H := HS.cnd_t h_4 H
        try simp -implicitDefEqProofs (maxSteps := 2000000) [-selQ_sel, h_1, h_2, h_3, h_4]
        obtain ⟨q, h_5, H⟩ := HS.bnd H
        refine Hid.mk (Tr.weak (s' := (spec_MaskOk_l0_S a0) 0) (Wk.ofk [0] hk (by rfl) (by simp -implicitDefEqProofs [spec_MaskOk_l0_S, h_1, h_2, h_3, h_4]) (by simp -implicitDefEqProofs [spec_MaskOk_l0_S, h_1, h_2, h_3, h_4])) ?_)
        refine wp_loop_of (S := (spec_MaskOk_l0_S a0)) (f := (spec_MaskOk_l0 a0)) (xt := (spec_MaskOk_l0_X a0)) ?_ ?_ h_5 ?_
        · intro q; rcases q with ⟨⟩ | ⟨⟩ <;> simp [spec_MaskOk_l0_X]
        · clear H h_5 q
          rintro x4 o R hf hR
          have H : HS (spec_MaskOk_l0 a0 x4) o := hf
          clear hf; unfold spec_MaskOk_l0 at H
          try simp -implicitDefEqProofs at H
          refine Tr.of_vc (cl := tabC [(161, spec_l11Box_x), (91, spec_l01In_x)]) (E := E0) [] (tab_cons k_spec_l11Box (tab_cons k_spec_l01In tab_nil)) hm (by rw [hn]; decide +kernel) ?_
          try simp -implicitDefEqProofs (maxSteps := 2000000) [-selQ_sel, spec_MaskOk_l0_S]
          refine Hid.brV (fun h_6 => ?_) (fun h_6 => ?_)
          · replace H := HS.cnd_t h_6 H
            try simp -implicitDefEqProofs (maxSteps := 2000000) [-selQ_sel, h_6]
            have hr := (HS.some H).symm; subst hr
            exact Hid.mk ⟨(spec_MaskOk_l0_X a0 (.inl ())).2, Wk.ofk [] hk (by rfl) (by simp -implicitDefEqProofs [spec_MaskOk_l0_X, h_6]) (by simp -implicitDefEqProofs [spec_MaskOk_l0_X, h_6]), hR⟩
          · replace H := HS.cnd_f h_6 H
            try simp -implicitDefEqProofs (maxSteps := 2000000) [-selQ_sel, h_6]
            obtain ⟨v5, h_7, H⟩ := HS.bnd H
            try simp -implicitDefEqProofs (maxSteps := 2000000) [-selQ_sel, h_6, h_7]
            obtain ⟨v6, h_8, H⟩ := HS.bnd H
            try simp -implicitDefEqProofs (maxSteps := 2000000) [-selQ_sel, h_6, h_7, h_8]
            refine Hid.brV (fun h_9 => ?_) (fun h_9 => ?_)
            · replace H := HS.cnd_t h_9 H
              try simp -implicitDefEqProofs (maxSteps := 2000000) [-selQ_sel, h_6, h_7, h_8, h_9]
              have hr := (HS.some H).symm; subst hr
              exact Hid.mk ⟨spec_MaskOk_l0_S a0 (IntKind.i64.wrap (x4 + 1)), Wk.ofk [0] hk (by rfl) (by simp -implicitDefEqProofs [spec_MaskOk_l0_S, h_6, h_7, h_8, h_9]) (by simp -implicitDefEqProofs [spec_MaskOk_l0_S, h_6, h_7, h_8, h_9]), hR⟩
            · replace H := HS.cnd_f h_9 H
              try simp -implicitDefEqProofs (maxSteps := 2000000) [-selQ_sel, h_6, h_7, h_8, h_9]
              have hr := (HS.some H).symm; subst hr
              exact Hid.mk ⟨(spec_MaskOk_l0_X a0 (.inr ())).2, Wk.ofk [] hk (by rfl) (by simp -implicitDefEqProofs [spec_MaskOk_l0_X, h_6, h_7, h_8, h_9]) (by simp -implicitDefEqProofs [spec_MaskOk_l0_X, h_6, h_7, h_8, h_9]), hR⟩
        · rcases q with ⟨⟩ | ⟨⟩
          · dsimp only at H
            try simp -implicitDefEqProofs (maxSteps := 2000000) [-selQ_sel, h_1, h_2, h_3, h_4, spec_MaskOk_l0_X]
            have hr := (HS.some H).symm; subst hr
            refine Hid.mk ⟨_, Wk.refl _, ?_⟩
            try simp -implicitDefEqProofs (maxSteps := 2000000) [-selQ_sel, h_1, h_2, h_3, h_4]
          · dsimp only at H
            try simp -implicitDefEqProofs (maxSteps := 2000000) [-selQ_sel, h_1, h_2, h_3, h_4, spec_MaskOk_l0_X]
            have hr := (HS.some H).symm; subst hr
            refine Hid.mk ⟨_, Wk.refl _, ?_⟩
            try simp -implicitDefEqProofs (maxSteps := 2000000) [-selQ_sel, h_1, h_2, h_3, h_4]
      · replace H := HS.cnd_f h_4 H
        try simp -implicitDefEqProofs (maxSteps := 2000000) [-selQ_sel, h_1, h_2, h_3, h_4]
        have hr := (HS.some H).symm; subst hr
        refine Hid.mk ⟨_, Wk.refl _, ?_⟩
        try simp -implicitDefEqProofs (maxSteps := 2000000) [-selQ_sel, h_1, h_2, h_3, h_4]
    · replace H := HS.cnd_f h_3 H
      try simp -implicitDefEqProofs (maxSteps := 2000000) [-selQ_sel, h_1, h_2, h_3]
      have hr := (HS.some H).symm; subst hr
      refine Hid.mk ⟨_, Wk.refl _, ?_⟩
      try simp -implicitDefEqProofs (maxSteps := 2000000) [-selQ_sel, h_1, h_2, h_3]
theorem impl_Remember_ok0 (hm : Try.prog.follows .mixedOrders = true) (k_impl_copyCache : Sound Try.prog 82 impl_copyCache_x) (k_impl_inRange : Sound Try.prog 95 impl_inRange_x) (k_impl_MaskOk : Sound Try.prog 96 impl_MaskOk_x) (k_impl_CacheOk : Sound Try.prog 42 impl_CacheOk_x) (k_impl_copyMask : Sound Try.prog 98 impl_copyMask_x) (k_impl_Cache_toFront : Sound Try.prog 97 impl_Cache_toFront_x) : Sound Try.prog 32 impl_Remember_x := by
  refine xOf_sound fun q r h => ?_
  obtain ⟨a0, a1, a2⟩ := q
  refine fn_ok E0 hm Try.func32 rfl (by decide +kernel) (by rfl) fun Γ hn hk => ?_
  dsimp only [impl_Remember_e, impl_Remember_v]
  replace hn : Γ.n = 30 := hn
  replace hk : Γ.k = 0 := hk
  have H : HS (impl_Remember a0 a1 a2) r := h
  clear h; unfold impl_Remember at H
  try simp -implicitDefEqProofs at H
  refine Tr.of_vc (cl := tabC [(82, impl_copyCache_x), (95, impl_inRange_x), (96, impl_MaskOk_x), (42, impl_CacheOk_x), (98, impl_copyMask_x), (97, impl_Cache_toFront_x)]) (E := E0) [] (tab_cons k_impl_copyCache (tab_cons k_impl_inRange (tab_cons k_impl_MaskOk (tab_cons k_impl_CacheOk (tab_cons k_impl_copyMask (tab_cons k_impl_Cache_toFront tab_nil)))))) hm (by rw [hn]; decide +kernel) ?_
  try simp -implicitDefEqProofs (maxSteps := 2000000) [-selQ_sel]
  obtain ⟨⟨w2, w3⟩, h_1, H⟩ := HS.bnd H
  dsimp only at H
  try simp -implicitDefEqProofs (maxSteps := 2000000) [-selQ_sel, h_1]
  obtain ⟨v4, h_2, H⟩ := HS.bnd H
  try simp -implicitDefEqProofs (maxSteps := 2000000) [-selQ_sel, h_1, h_2]
  refine Hid.selQ (fun h_3 => ?_) (fun h_3 => ?_)
  · replace H := HS.cnd_t h_3 H
    try simp -implicitDefEqProofs (maxSteps := 2000000) [-selQ_sel, h_1, h_2, h_3]
    obtain ⟨v5, h_4, H⟩ := HS.bnd H
    try simp -implicitDefEqProofs (maxSteps := 2000000) [-selQ_sel, h_1, h_2, h_3, h_4]
    refine Hid.selQ (fun h_5 => ?_) (fun h_5 => ?_)
    · replace H := HS.cnd_t h_5 H
      try simp -implicitDefEqProofs (maxSteps := 2000000) [-selQ_sel, h_1, h_2, h_3, h_4, h_5]
      obtain ⟨v6, h_6, H⟩ := HS.bnd H
      try simp -implicitDefEqProofs (maxSteps := 2000000) [-selQ_sel, h_1, h_2, h_3, h_4, h_5, h_6]
      refine Hid.brV (fun h_7 => ?_) (fun h_7 => ?_)
      · replace H := HS.cnd_t h_7 H
        try simp -implicitDefEqProofs (maxSteps := 2000000) [-selQ_sel, h_1, h_2, h_3, h_4, h_5, h_6, h_7]
        obtain ⟨v7, h_8, H⟩ := HS.bnd H
        try simp -implicitDefEqProofs (maxSteps := 2000000) [-selQ_sel, h_1, h_2, h_3, h_4, h_5, h_6, h_7, h_8]
        obtain ⟨⟨w9, w10, w11⟩, h_9, H⟩ := HS.bnd H
        dsimp only at H
        have k_10 := impl_Cache_toFront_k ((TKept.mk a1 v7).id) ((((TKept.mk a1 v7).mask).box).x0) ((((TKept.mk a1 v7).mask).box).y0) ((((TKept.mk a1 v7).mask).box).x1) ((((TKept.mk a1 v7).mask).box).y1) (((TKept.mk a1 v7).mask).bits) w2 w3
        simp -implicitDefEqProofs [-impl_Cache_toFront_k] at k_10
        try simp -implicitDefEqProofs (maxSteps := 2000000) [-selQ_sel, h_1, h_2, h_3, h_4, h_5, h_6, h_7, h_8, h_9, k_10]
        obtain ⟨v12, h_11, H⟩ := HS.bnd H
        have s_12 := (slc_spec h_11).1
        have s_13 := slc_fit h_11
        have s_14 := slc_map (e := eKept) h_11
        have s_15 := (slc_spec h_11).2.1
        simp -implicitDefEqProofs at s_12 s_13 s_14 s_15
        try simp only [s_15] at s_13 s_14
        try simp -implicitDefEqProofs (maxSteps := 2000000) [-selQ_sel, h_1, h_2, h_3, h_4, h_5, h_6, h_7, h_8, h_9, k_10, h_11, s_12, s_13, s_14, s_15]
        have hr := (HS.some H).symm; subst hr
        refine Hid.mk ⟨_, Wk.refl _, ?_⟩
        try simp -implicitDefEqProofs (maxSteps := 2000000) [-selQ_sel, h_1, h_2, h_3, h_4, h_5, h_6, h_7, h_8, h_9, k_10, h_11, s_12, s_13, s_14, s_15]
      · replace H := HS.cnd_f h_7 H
        try simp -implicitDefEqProofs (maxSteps := 2000000) [-selQ_sel, h_1, h_2, h_3, h_4, h_5, h_6, h_7]
        have hr := (HS.some H).symm; subst hr
        refine Hid.mk ⟨_, Wk.refl _, ?_⟩
        try simp -implicitDefEqProofs (maxSteps := 2000000) [-selQ_sel, h_1, h_2, h_3, h_4, h_5, h_6, h_7]
    · replace H := HS.cnd_f h_5 H
      try simp -implicitDefEqProofs (maxSteps := 2000000) [-selQ_sel, h_1, h_2, h_3, h_4, h_5]
      have hr := (HS.some H).symm; subst hr
      refine Hid.mk ⟨_, Wk.refl _, ?_⟩
      try simp -implicitDefEqProofs (maxSteps := 2000000) [-selQ_sel, h_1, h_2, h_3, h_4, h_5]
  · replace H := HS.cnd_f h_3 H
    try simp -implicitDefEqProofs (maxSteps := 2000000) [-selQ_sel, h_1, h_2, h_3]
    have hr := (HS.some H).symm; subst hr
    refine Hid.mk ⟨_, Wk.refl _, ?_⟩
    try simp -implicitDefEqProofs (maxSteps := 2000000) [-selQ_sel, h_1, h_2, h_3]
theorem laws_sameInts_ok0 (hm : Try.prog.follows .mixedOrders = true) : Sound Try.prog 108 laws_sameInts_x := by
  refine xOf_sound fun q r h => ?_
  obtain ⟨a0, a1⟩ := q
  refine fn_ok E0 hm Try.func108 rfl (by decide +kernel) (by rfl) fun Γ hn hk => ?_
  dsimp only [laws_sameInts_e, laws_sameInts_v]
  replace hn : Γ.n = 26 := hn
  replace hk : Γ.k = 0 := hk
  have H : HS (laws_sameInts a0 a1) r := h
  clear h; unfold laws_sameInts at H
  try simp -implicitDefEqProofs at H
  refine Tr.of_vc (cl := tabC []) (E := E0) [] tab_nil hm (by rw [hn]; decide +kernel) ?_
  try simp -implicitDefEqProofs +decide (maxSteps := 2000000) [-selQ_sel, hokQ_of]
  refine Hid.brV (fun h_1 => ?_) (fun h_1 => ?_)
  · replace H := HS.cnd_t h_1 H
    try simp -implicitDefEqProofs +decide (maxSteps := 2000000) [-selQ_sel, hokQ_of, h_1]
    obtain ⟨q, h_2, H⟩ := HS.bnd H
    refine Hid.mk (Tr.weak (s' := (laws_sameInts_l0_S a0 a1) 0) (Wk.ofk [] hk (by rfl) (by simp -implicitDefEqProofs [laws_sameInts_l0_S, h_1]) (by simp -implicitDefEqProofs [laws_sameInts_l0_S, h_1])) ?_)
    refine wp_loop_of (S := (laws_sameInts_l0_S a0 a1)) (f := (laws_sameInts_l0 a0 a1)) (xt := (laws_sameInts_l0_X a0 a1)) ?_ ?_ h_2 ?_
    · intro q; rcases q with ⟨⟩ | ⟨⟩ <;> simp [laws_sameInts_l0_X]
    · clear H h_2 q
      rintro x3 o R hf hR
      have H : HS (laws_sameInts_l0 a0 a1 x3) o := hf
      clear hf; unfold laws_sameInts_l0 at H
      try simp -implicitDefEqProofs at H
      refine Tr.of_vc (cl := tabC []) (E := E0) [] tab_nil hm (by rw [hn]; decide +kernel) ?_
      try simp -implicitDefEqProofs +decide (maxSteps := 2000000) [-selQ_sel, hokQ_of, laws_sameInts_l0_S]
      refine Hid.brV (fun h_3 => ?_) (fun h_3 => ?_)
      · replace H := HS.cnd_t h_3 H
        try simp -implicitDefEqProofs +decide (maxSteps := 2000000) [-selQ_sel, hokQ_of, h_3]
        have hr := (HS.some H).symm; subst hr
        exact Hid.mk ⟨(laws_sameInts_l0_X a0 a1 (.inl ())).2, Wk.ofk [] hk (by rfl) (by simp -implicitDefEqProofs [laws_sameInts_l0_X, h_3]) (by simp -implicitDefEqProofs [laws_sameInts_l0_X, h_3]), hR⟩
      · replace H := HS.cnd_f h_3 H
        try simp -implicitDefEqProofs +decide (maxSteps := 2000000) [-selQ_sel, hokQ_of, h_3]
        obtain ⟨v4, h_4, H⟩ := HS.bnd H
        try simp -implicitDefEqProofs +decide (maxSteps := 2000000) [-selQ_sel, hokQ_of, h_3, h_4]
        obtain ⟨v5, h_5, H⟩ := HS.bnd H
        try simp -implicitDefEqProofs +decide (maxSteps := 2000000) [-selQ_sel, hokQ_of, h_3, h_4, h_5]
        refine Hid.brV (fun h_6 => ?_) (fun h_6 => ?_)
        · replace H := HS.cnd_t h_6 H
          try simp -implicitDefEqProofs +decide (maxSteps := 2000000) [-selQ_sel, hokQ_of, h_3, h_4, h_5, h_6]
          have hr := (HS.some H).symm; subst hr
          exact Hid.mk ⟨laws_sameInts_l0_S a0 a1 (IntKind.i64.wrap (x3 + 1)), Wk.ofk [] hk (by rfl) (by simp -implicitDefEqProofs [laws_sameInts_l0_S, h_3, h_4, h_5, h_6]) (by simp -implicitDefEqProofs [laws_sameInts_l0_S, h_3, h_4, h_5, h_6]), hR⟩
        · replace H := HS.cnd_f h_6 H
          try simp -implicitDefEqProofs +decide (maxSteps := 2000000) [-selQ_sel, hokQ_of, h_3, h_4, h_5, h_6]
          have hr := (HS.some H).symm; subst hr
          exact Hid.mk ⟨(laws_sameInts_l0_X a0 a1 (.inr ())).2, Wk.ofk [] hk (by rfl) (by simp -implicitDefEqProofs [laws_sameInts_l0_X, h_3, h_4, h_5, h_6]) (by simp -implicitDefEqProofs [laws_sameInts_l0_X, h_3, h_4, h_5, h_6]), hR⟩
    · rcases q with ⟨⟩ | ⟨⟩
      · dsimp only at H
        try simp -implicitDefEqProofs +decide (maxSteps := 2000000) [-selQ_sel, hokQ_of, h_1, laws_sameInts_l0_X]
        have hr := (HS.some H).symm; subst hr
        refine Hid.mk ⟨_, Wk.refl _, ?_⟩
        try simp -implicitDefEqProofs +decide (maxSteps := 2000000) [-selQ_sel, hokQ_of, h_1]
      · dsimp only at H
        try simp -implicitDefEqProofs +decide (maxSteps := 2000000) [-selQ_sel, hokQ_of, h_1, laws_sameInts_l0_X]
        have hr := (HS.some H).symm; subst hr
        refine Hid.mk ⟨_, Wk.refl _, ?_⟩
        try simp -implicitDefEqProofs +decide (maxSteps := 2000000) [-selQ_sel, hokQ_of, h_1]
  · replace H := HS.cnd_f h_1 H
    try simp -implicitDefEqProofs +decide (maxSteps := 2000000) [-selQ_sel, hokQ_of, h_1]
    have hr := (HS.some H).symm; subst hr
    refine Hid.mk ⟨_, Wk.refl _, ?_⟩
    try simp -implicitDefEqProofs +decide (maxSteps := 2000000) [-selQ_sel, hokQ_of, h_1]
theorem spec_CubicAt_ok0 (hm : Try.prog.follows .mixedOrders = true) (k_spec_PointOk : Sound Try.prog 222 spec_PointOk_x) (k_spec_Clamp : Sound Try.prog 228 spec_Clamp_x) (k_spec_RoundDiv : Sound Try.prog 229 spec_RoundDiv_x) : Sound Try.prog 211 spec_CubicAt_x := by
  refine xOf_sound fun q r h => ?_
  obtain ⟨a0, a1, a2, a3, a4⟩ := q
  refine fn_ok E0 hm Try.func211 rfl (by decide +kernel) (by rfl) fun Γ hn hk => ?_
  dsimp only [spec_CubicAt_e, spec_CubicAt_v]
  replace hn : Γ.n = 116 := hn
  replace hk : Γ.k = 0 := hk
  have H : HS (spec_CubicAt a0 a1 a2 a3 a4) r := h
  clear h; unfold spec_CubicAt at H
  try simp -implicitDefEqProofs at H
  refine Tr.of_vc (cl := tabC [(222, spec_PointOk_x), (228, spec_Clamp_x), (229, spec_RoundDiv_x)]) (E := E0) [] (tab_cons k_spec_PointOk (tab_cons k_spec_Clamp (tab_cons k_spec_RoundDiv tab_nil))) hm (by rw [hn]; decide +kernel) ?_
  try simp -implicitDefEqProofs (maxSteps := 2000000) [-selQ_sel]
  obtain ⟨v1, h_1, H⟩ := HS.bnd H
  try simp -implicitDefEqProofs (maxSteps := 2000000) [-selQ_sel, h_1]
  refine Hid.selQ (fun h_2 => ?_) (fun h_2 => ?_)
  · replace H := HS.cnd_t h_2 H
    try simp -implicitDefEqProofs (maxSteps := 2000000) [-selQ_sel, h_1, h_2]
    obtain ⟨v2, h_3, H⟩ := HS.bnd H
    try simp -implicitDefEqProofs (maxSteps := 2000000) [-selQ_sel, h_1, h_2, h_3]
    refine Hid.selQ (fun h_4 => ?_) (fun h_4 => ?_)
    · replace H := HS.cnd_t h_4 H
      try simp -implicitDefEqProofs (maxSteps := 2000000) [-selQ_sel, h_1, h_2, h_3, h_4]
      obtain ⟨v3, h_5, H⟩ := HS.bnd H
      try simp -implicitDefEqProofs (maxSteps := 2000000) [-selQ_sel, h_1, h_2, h_3, h_4, h_5]
      refine Hid.selQ (fun h_6 => ?_) (fun h_6 => ?_)
      · replace H := HS.cnd_t h_6 H
        try simp -implicitDefEqProofs (maxSteps := 2000000) [-selQ_sel, h_1, h_2, h_3, h_4, h_5, h_6]
        obtain ⟨v4, h_7, H⟩ := HS.bnd H
        try simp -implicitDefEqProofs (maxSteps := 2000000) [-selQ_sel, h_1, h_2, h_3, h_4, h_5, h_6, h_7]
        refine Hid.brV (fun h_8 => ?_) (fun h_8 => ?_)
        · replace H := HS.cnd_t h_8 H
          try simp -implicitDefEqProofs (maxSteps := 2000000) [-selQ_sel, h_1, h_2, h_3, h_4, h_5, h_6, h_7, h_8]
          obtain ⟨v5, h_9, H⟩ := HS.bnd H
          try simp -implicitDefEqProofs (maxSteps := 2000000) [-selQ_sel, h_1, h_2, h_3, h_4, h_5, h_6, h_7, h_8, h_9]
          obtain ⟨v6, h_10, H⟩ := HS.bnd H
          try simp -implicitDefEqProofs (maxSteps := 2000000) [-selQ_sel, h_1, h_2, h_3, h_4, h_5, h_6, h_7, h_8, h_9, h_10]
          obtain ⟨v7, h_11, H⟩ := HS.bnd H
          try simp -implicitDefEqProofs (maxSteps := 2000000) [-selQ_sel, h_1, h_2, h_3, h_4, h_5, h_6, h_7, h_8, h_9, h_10, h_11]
          have hr := (HS.some H).symm; subst hr
          refine Hid.mk ⟨_, Wk.refl _, ?_⟩
          try simp -implicitDefEqProofs (maxSteps := 2000000) [-selQ_sel, h_1, h_2, h_3, h_4, h_5, h_6, h_7, h_8, h_9, h_10, h_11]
        · replace H := HS.cnd_f h_8 H
          try simp -implicitDefEqProofs (maxSteps := 2000000) [-selQ_sel, h_1, h_2, h_3, h_4, h_5, h_6, h_7, h_8]
          have hr := (HS.some H).symm; subst hr
          refine Hid.mk ⟨_, Wk.refl _, ?_⟩
          try simp -implicitDefEqProofs (maxSteps := 2000000) [-selQ_sel, h_1, h_2, h_3, h_4, h_5, h_6, h_7, h_8]
      · replace H := HS.cnd_f h_6 H
        try simp -implicitDefEqProofs (maxSteps := 2000000) [-selQ_sel, h_1, h_2, h_3, h_4, h_5, h_6]
        have hr := (HS.some H).symm; subst hr
        refine Hid.mk ⟨_, Wk.refl _, ?_⟩
        try simp -implicitDefEqProofs (maxSteps := 2000000) [-selQ_sel, h_1, h_2, h_3, h_4, h_5, h_6]
    · replace H := HS.cnd_f h_4 H
      try simp -implicitDefEqProofs (maxSteps := 2000000) [-selQ_sel, h_1, h_2, h_3, h_4]
      have hr := (HS.some H).symm; subst hr
      refine Hid.mk ⟨_, Wk.refl _, ?_⟩
      try simp -implicitDefEqProofs (maxSteps := 2000000) [-selQ_sel, h_1, h_2, h_3, h_4]
  · replace H := HS.cnd_f h_2 H
    try simp -implicitDefEqProofs (maxSteps := 2000000) [-selQ_sel, h_1, h_2]
    have hr := (HS.some H).symm; subst hr
    refine Hid.mk ⟨_, Wk.refl _, ?_⟩
    try simp -implicitDefEqProofs (maxSteps := 2000000) [-selQ_sel, h_1, h_2]
theorem spec_QuadAt_ok0 (hm : Try.prog.follows .mixedOrders = true) (k_spec_PointOk : Sound Try.prog 222 spec_PointOk_x) (k_spec_Clamp : Sound Try.prog 228 spec_Clamp_x) (k_spec_RoundDiv : Sound Try.prog 229 spec_RoundDiv_x) : Sound Try.prog 210 spec_QuadAt_x := by
  refine xOf_sound fun q r h => ?_
  obtain ⟨a0, a1, a2, a3⟩ := q
  refine fn_ok E0 hm Try.func210 rfl (by decide +kernel) (by rfl) fun Γ hn hk => ?_
  dsimp only [spec_QuadAt_e, spec_QuadAt_v]
  replace hn : Γ.n = 73 := hn
  replace hk : Γ.k = 0 := hk
  have H : HS (spec_QuadAt a0 a1 a2 a3) r := h
  clear h; unfold spec_QuadAt at H
  try simp -implicitDefEqProofs at H
  refine Tr.of_vc (cl := tabC [(222, spec_PointOk_x), (228, spec_Clamp_x), (229, spec_RoundDiv_x)]) (E := E0) [] (tab_cons k_spec_PointOk (tab_cons k_spec_Clamp (tab_cons k_spec_RoundDiv tab_nil))) hm (by rw [hn]; decide +kernel) ?_
  try simp -implicitDefEqProofs +decide (maxSteps := 2000000) [-selQ_sel, hokQ_of]
  obtain ⟨v1, h_1, H⟩ := HS.bnd H
  try simp -implicitDefEqProofs +decide (maxSteps := 2000000) [-selQ_sel, hokQ_of, h_1]
  refine Hid.selQ (fun h_2 => ?_) (fun h_2 => ?_)
  · replace H := HS.cnd_t h_2 H
    try simp -implicitDefEqProofs +decide (maxSteps := 2000000) [-selQ_sel, hokQ_of, h_1, h_2]
    obtain ⟨v2, h_3, H⟩ := HS.bnd H
    try simp -implicitDefEqProofs +decide (maxSteps := 2000000) [-selQ_sel, hokQ_of, h_1, h_2, h_3]
    refine Hid.selQ (fun h_4 => ?_) (fun h_4 => ?_)
    · replace H := HS.cnd_t h_4 H
      try simp -implicitDefEqProofs +decide (maxSteps := 2000000) [-selQ_sel, hokQ_of, h_1, h_2, h_3, h_4]
      obtain ⟨v3, h_5, H⟩ := HS.bnd H
      try simp -implicitDefEqProofs +decide (maxSteps := 2000000) [-selQ_sel, hokQ_of, h_1, h_2, h_3, h_4, h_5]
      refine Hid.brV (fun h_6 => ?_) (fun h_6 => ?_)
      · replace H := HS.cnd_t h_6 H
        try simp -implicitDefEqProofs +decide (maxSteps := 2000000) [-selQ_sel, hokQ_of, h_1, h_2, h_3, h_4, h_5, h_6]
        obtain ⟨v4, h_7, H⟩ := HS.bnd H
        try simp -implicitDefEqProofs +decide (maxSteps := 2000000) [-selQ_sel, hokQ_of, h_1, h_2, h_3, h_4, h_5, h_6, h_7]
        obtain ⟨v5, h_8, H⟩ := HS.bnd H
        try simp -implicitDefEqProofs +decide (maxSteps := 2000000) [-selQ_sel, hokQ_of, h_1, h_2, h_3, h_4, h_5, h_6, h_7, h_8]
        obtain ⟨v6, h_9, H⟩ := HS.bnd H
        try simp -implicitDefEqProofs +decide (maxSteps := 2000000) [-selQ_sel, hokQ_of, h_1, h_2, h_3, h_4, h_5, h_6, h_7, h_8, h_9]
        have hr := (HS.some H).symm; subst hr
        refine Hid.mk ⟨_, Wk.refl _, ?_⟩
        try simp -implicitDefEqProofs +decide (maxSteps := 2000000) [-selQ_sel, hokQ_of, h_1, h_2, h_3, h_4, h_5, h_6, h_7, h_8, h_9]
      · replace H := HS.cnd_f h_6 H
        try simp -implicitDefEqProofs +decide (maxSteps := 2000000) [-selQ_sel, hokQ_of, h_1, h_2, h_3, h_4, h_5, h_6]
        have hr := (HS.some H).symm; subst hr
        refine Hid.mk ⟨_, Wk.refl _, ?_⟩
        try simp -implicitDefEqProofs +decide (maxSteps := 2000000) [-selQ_sel, hokQ_of, h_1, h_2, h_3, h_4, h_5, h_6]
    · replace H := HS.cnd_f h_4 H
      try simp -implicitDefEqProofs +decide (maxSteps := 2000000) [-selQ_sel, hokQ_of, h_1, h_2, h_3, h_4]
      have hr := (HS.some H).symm; subst hr
      refine Hid.mk ⟨_, Wk.refl _, ?_⟩
      try simp -implicitDefEqProofs +decide (maxSteps := 2000000) [-selQ_sel, hokQ_of, h_1, h_2, h_3, h_4]
  · replace H := HS.cnd_f h_2 H
    try simp -implicitDefEqProofs +decide (maxSteps := 2000000) [-selQ_sel, hokQ_of, h_1, h_2]
    have hr := (HS.some H).symm; subst hr
    refine Hid.mk ⟨_, Wk.refl _, ?_⟩
    try simp -implicitDefEqProofs +decide (maxSteps := 2000000) [-selQ_sel, hokQ_of, h_1, h_2]
theorem spec_Remember_ok0 (hm : Try.prog.follows .mixedOrders = true) (k_spec_CacheOk : Sound Try.prog 90 spec_CacheOk_x) (k_spec_l01In : Sound Try.prog 91 spec_l01In_x) (k_spec_MaskOk : Sound Try.prog 92 spec_MaskOk_x) (k_spec_l21First : Sound Try.prog 93 spec_l21First_x) (k_spec_l21Copy : Sound Try.prog 80 spec_l21Copy_x) : Sound Try.prog 30 spec_Remember_x := by
  refine xOf_sound fun q r h => ?_
  obtain ⟨a0, a1, a2⟩ := q
  refine fn_ok E0 hm Try.func30 rfl (by decide +kernel) (by rfl) fun Γ hn hk => ?_
  dsimp only [spec_Remember_e, spec_Remember_v]
  replace hn : Γ.n = 26 := hn
  replace hk : Γ.k = 0 := hk
  have H : HS (spec_Remember a0 a1 a2) r := h
  clear h; unfold spec_Remember at H
  try simp -implicitDefEqProofs at H
  refine Tr.of_vc (cl := tabC [(90, spec_CacheOk_x), (91, spec_l01In_x), (92, spec_MaskOk_x), (93, spec_l21First_x), (80, spec_l21Copy_x)]) (E := E0) [] (tab_cons k_spec_CacheOk (tab_cons k_spec_l01In (tab_cons k_spec_MaskOk (tab_cons k_spec_l21First (tab_cons k_spec_l21Copy tab_nil))))) hm (by rw [hn]; decide +kernel) ?_
  try simp -implicitDefEqProofs (maxSteps := 2000000) [-selQ_sel]
  obtain ⟨v1, h_1, H⟩ := HS.bnd H
  try simp -implicitDefEqProofs (maxSteps := 2000000) [-selQ_sel, h_1]
  refine Hid.selQ (fun h_2 => ?_) (fun h_2 => ?_)
  · replace H := HS.cnd_t h_2 H
    try simp -implicitDefEqProofs (maxSteps := 2000000) [-selQ_sel, h_1, h_2]
    obtain ⟨v2, h_3, H⟩ := HS.bnd H
    try simp -implicitDefEqProofs (maxSteps := 2000000) [-selQ_sel, h_1, h_2, h_3]
    refine Hid.selQ (fun h_4 => ?_) (fun h_4 => ?_)
    · replace H := HS.cnd_t h_4 H
      try simp -implicitDefEqProofs (maxSteps := 2000000) [-selQ_sel, h_1, h_2, h_3, h_4]
      obtain ⟨v3, h_5, H⟩ := HS.bnd H
      try simp -implicitDefEqProofs (maxSteps := 2000000) [-selQ_sel, h_1, h_2, h_3, h_4, h_5]
      refine Hid.brV (fun h_6 => ?_) (fun h_6 => ?_)
      · replace H := HS.cnd_t h_6 H
        try simp -implicitDefEqProofs (maxSteps := 2000000) [-selQ_sel, h_1, h_2, h_3, h_4, h_5, h_6]
        obtain ⟨v4, h_7, H⟩ := HS.bnd H
        try simp -implicitDefEqProofs (maxSteps := 2000000) [-selQ_sel, h_1, h_2, h_3, h_4, h_5, h_6, h_7]
        have hr := (HS.some H).symm; subst hr
        refine Hid.mk ⟨_, Wk.refl _, ?_⟩
        try simp -implicitDefEqProofs (maxSteps := 2000000) [-selQ_sel, h_1, h_2, h_3, h_4, h_5, h_6, h_7]
      · replace H := HS.cnd_f h_6 H
        try simp -implicitDefEqProofs (maxSteps := 2000000) [-selQ_sel, h_1, h_2, h_3, h_4, h_5, h_6]
        obtain ⟨v5, h_8, H⟩ := HS.bnd H
        try simp -implicitDefEqProofs (maxSteps := 2000000) [-selQ_sel, h_1, h_2, h_3, h_4, h_5, h_6, h_8]
        have hr := (HS.some H).symm; subst hr
        refine Hid.mk ⟨_, Wk.refl _, ?_⟩
        try simp -implicitDefEqProofs (maxSteps := 2000000) [-selQ_sel, h_1, h_2, h_3, h_4, h_5, h_6, h_8]
    · replace H := HS.cnd_f h_4 H
      try simp -implicitDefEqProofs (maxSteps := 2000000) [-selQ_sel, h_1, h_2, h_3, h_4]
      obtain ⟨v6, h_9, H⟩ := HS.bnd H
      try simp -implicitDefEqProofs (maxSteps := 2000000) [-selQ_sel, h_1, h_2, h_3, h_4, h_9]
      have hr := (HS.some H).symm; subst hr
      refine Hid.mk ⟨_, Wk.refl _, ?_⟩
      try simp -implicitDefEqProofs (maxSteps := 2000000) [-selQ_sel, h_1, h_2, h_3, h_4, h_9]
  · replace H := HS.cnd_f h_2 H
    try simp -implicitDefEqProofs (maxSteps := 2000000) [-selQ_sel, h_1, h_2]
    obtain ⟨v7, h_10, H⟩ := HS.bnd H
    try simp -implicitDefEqProofs (maxSteps := 2000000) [-selQ_sel, h_1, h_2, h_10]
    have hr := (HS.some H).symm; subst hr
    refine Hid.mk ⟨_, Wk.refl _, ?_⟩
    try simp -implicitDefEqProofs (maxSteps := 2000000) [-selQ_sel, h_1, h_2, h_10]
theorem spec_Covers_ok0 (hm : Try.prog.follows .mixedOrders = true) (k_spec_WindOf : Sound Try.prog 233 spec_WindOf_x) : Sound Try.prog 227 spec_Covers_x := by
  refine xOf_sound fun q r h => ?_
  obtain ⟨a0, a1, a2⟩ := q
  refine fn_ok E0 hm Try.func227 rfl (by decide +kernel) (by rfl) fun Γ hn hk => ?_
  dsimp only [spec_Covers_e, spec_Covers_v]
  replace hn : Γ.n = 29 := hn
  replace hk : Γ.k = 0 := hk
  have H : HS (spec_Covers a0 a1 a2) r := h
  clear h; unfold spec_Covers at H
  try simp -implicitDefEqProofs at H
  refine Tr.of_vc (cl := tabC [(233, spec_WindOf_x)]) (E := E0) [] (tab_cons k_spec_WindOf tab_nil) hm (by rw [hn]; decide +kernel) ?_
  try simp -implicitDefEqProofs +decide (maxSteps := 2000000) [-selQ_sel, hokQ_of]
  obtain ⟨q, h_1, H⟩ := HS.bnd H
  refine Hid.mk (Tr.weak (s' := (spec_Covers_l0_S a0 a1 a2) (0, 0)) (Wk.ofk [0] hk (by rfl) (by simp -implicitDefEqProofs [spec_Covers_l0_S]) (by simp -implicitDefEqProofs [spec_Covers_l0_S])) ?_)
  refine wp_loop_of (S := (spec_Covers_l0_S a0 a1 a2)) (f := (spec_Covers_l0 a0 a1 a2)) (xt := (spec_Covers_l0_X a0 a1 a2)) ?_ ?_ h_1 ?_
  · intro q; simp [spec_Covers_l0_X]
  · clear H h_1 q
    rintro ⟨x3, x4⟩ o R hf hR
    have H : HS (spec_Covers_l0 a0 a1 a2 (x3, x4)) o := hf
    clear hf; unfold spec_Covers_l0 at H
    try simp -implicitDefEqProofs at H
    refine Tr.of_vc (cl := tabC [(233, spec_WindOf_x)]) (E := E0) [] (tab_cons k_spec_WindOf tab_nil) hm (by rw [hn]; decide +kernel) ?_
    try simp -implicitDefEqProofs +decide (maxSteps := 2000000) [-selQ_sel, hokQ_of, spec_Covers_l0_S]
    refine Hid.brV (fun h_2 => ?_) (fun h_2 => ?_)
    · replace H := HS.cnd_t h_2 H
      try simp -implicitDefEqProofs +decide (maxSteps := 2000000) [-selQ_sel, hokQ_of, h_2]
      have hr := (HS.some H).symm; subst hr
      exact Hid.mk ⟨(spec_Covers_l0_X a0 a1 a2 x3).2, Wk.ofk [] hk (by rfl) (by simp -implicitDefEqProofs [spec_Covers_l0_X, h_2]) (by simp -implicitDefEqProofs [spec_Covers_l0_X, h_2]), hR⟩
    · replace H := HS.cnd_f h_2 H
      try simp -implicitDefEqProofs +decide (maxSteps := 2000000) [-selQ_sel, hokQ_of, h_2]
      obtain ⟨v5, h_3, H⟩ := HS.bnd H
      try simp -implicitDefEqProofs +decide (maxSteps := 2000000) [-selQ_sel, hokQ_of, h_2, h_3]
      obtain ⟨v6, h_4, H⟩ := HS.bnd H
      try simp -implicitDefEqProofs +decide (maxSteps := 2000000) [-selQ_sel, hokQ_of, h_2, h_3, h_4]
      have hr := (HS.some H).symm; subst hr
      exact Hid.mk ⟨spec_Covers_l0_S a0 a1 a2 ((IntKind.i64.wrap (x3 + v6)), (IntKind.i64.wrap (x4 + 1))), Wk.ofk [0] hk (by rfl) (by simp -implicitDefEqProofs [spec_Covers_l0_S, h_2, h_3, h_4]) (by simp -implicitDefEqProofs [spec_Covers_l0_S, h_2, h_3, h_4]), hR⟩
  · revert H h_1; revert q; intro y7 h_1 H
    try dsimp only at H
    try simp -implicitDefEqProofs +decide (maxSteps := 2000000) [-selQ_sel, hokQ_of, spec_Covers_l0_X]
    refine Hid.brV (fun h_5 => ?_) (fun h_5 => ?_)
    · replace H := HS.cnd_t h_5 H
      try simp -implicitDefEqProofs +decide (maxSteps := 2000000) [-selQ_sel, hokQ_of, h_5]
      have hr := (HS.some H).symm; subst hr
      refine Hid.mk ⟨_, Wk.refl _, ?_⟩
      try simp -implicitDefEqProofs +decide (maxSteps := 2000000) [-selQ_sel, hokQ_of, h_5]
    · replace H := HS.cnd_f h_5 H
      try simp -implicitDefEqProofs +decide (maxSteps := 2000000) [-selQ_sel, hokQ_of, h_5]
      have hr := (HS.some H).symm; subst hr
      refine Hid.mk ⟨_, Wk.refl _, ?_⟩
      try simp -implicitDefEqProofs +decide (maxSteps := 2000000) [-selQ_sel, hokQ_of, h_5]
theorem spec_FloorDiv_ok0 (hm : Try.prog.follows .mixedOrders = true) : Sound Try.prog 234 spec_FloorDiv_x := by
  refine xOf_sound fun q r h => ?_
  obtain ⟨a0, a1⟩ := q
  refine fn_ok E0 hm Try.func234 rfl (by decide +kernel) (by rfl) fun Γ hn hk => ?_
  dsimp only [spec_FloorDiv_e, spec_FloorDiv_v]
  replace hn : Γ.n = 18 := hn
  replace hk : Γ.k = 0 := hk
  have H : HS (spec_FloorDiv a0 a1) r := h
  clear h; unfold spec_FloorDiv at H
  try simp -implicitDefEqProofs at H
  refine Tr.of_vc (cl := tabC []) (E := E0) [] tab_nil hm (by rw [hn]; decide +kernel) ?_
  try simp -implicitDefEqProofs (maxSteps := 2000000) [-selQ_sel]
  refine Hid.brV (fun h_1 => ?_) (fun h_1 => ?_)
  · replace H := HS.cnd_t h_1 H
    try simp -implicitDefEqProofs (maxSteps := 2000000) [-selQ_sel, h_1]
    obtain ⟨h_2, H⟩ := HS.chkP H
    try simp -implicitDefEqProofs (maxSteps := 2000000) [-selQ_sel, h_1, h_2]
    refine Hid.brV (fun h_3 => ?_) (fun h_3 => ?_)
    · replace H := HS.cnd_t h_3 H
      try simp -implicitDefEqProofs (maxSteps := 2000000) [-selQ_sel, h_1, h_2, h_3]
      have hr := (HS.some H).symm; subst hr
      refine Hid.mk ⟨_, Wk.refl _, ?_⟩
      try simp -implicitDefEqProofs (maxSteps := 2000000) [-selQ_sel, h_1, h_2, h_3]
    · replace H := HS.cnd_f h_3 H
      try simp -implicitDefEqProofs (maxSteps := 2000000) [-selQ_sel, h_1, h_2, h_3]
      have hr := (HS.some H).symm; subst hr
      refine Hid.mk ⟨_, Wk.refl _, ?_⟩
      try simp -implicitDefEqProofs (maxSteps := 2000000) [-selQ_sel, h_1, h_2, h_3]
  · replace H := HS.cnd_f h_1 H
    try simp -implicitDefEqProofs (maxSteps := 2000000) [-selQ_sel, h_1]
    have hr := (HS.some H).symm; subst hr
    refine Hid.mk ⟨_, Wk.refl _, ?_⟩
    try simp -implicitDefEqProofs (maxSteps := 2000000) [-selQ_sel, h_1]
theorem spec_NeedOf_ok0 (hm : Try.prog.follows .mixedOrders = true) (k_spec_l01In : Sound Try.prog 91 spec_l01In_x) : Sound Try.prog 212 spec_NeedOf_x := by
  refine xOf_sound fun q r h => ?_
  revert h; revert r; revert q; intro a0 r h
  refine fn_ok E0 hm Try.func212 rfl (by decide +kernel) (by rfl) fun Γ hn hk => ?_
  dsimp only [spec_NeedOf_e, spec_NeedOf_v]
  replace hn : Γ.n = 13 := hn
  replace hk : Γ.k = 0 := hk
  have H : HS (spec_NeedOf a0) r := h
  clear h; unfold spec_NeedOf at H
  try simp -implicitDefEqProofs at H
  refine Tr.of_vc (cl := tabC [(91, spec_l01In_x)]) (E := E0) [] (tab_cons k_spec_l01In tab_nil) hm (by rw [hn]; decide +kernel) ?_
  try simp -implicitDefEqProofs (maxSteps := 2000000) [-selQ_sel]
  obtain ⟨v1, h_1, H⟩ := HS.bnd H
  try simp -implicitDefEqProofs (maxSteps := 2000000) [-selQ_sel, h_1]
  refine Hid.brV (fun h_2 => ?_) (fun h_2 => ?_)
  · replace H := HS.cnd_t h_2 H
    try simp -implicitDefEqProofs (maxSteps := 2000000) [-selQ_sel, h_1, h_2]
    obtain ⟨v2, h_3, H⟩ := HS.bnd H
    have g_4 := idx_get h_3
    have g_5 := idx_map (e := (AV.int .i64)) h_3
    have g_6 := idx_get g_5
    simp -implicitDefEqProofs at g_5 g_6
    try simp -implicitDefEqProofs (maxSteps := 2000000) [-selQ_sel, h_1, h_2, h_3, g_4, g_5, g_6]
    have hr := (HS.some H).symm; subst hr
    refine Hid.mk ⟨_, Wk.refl _, ?_⟩
    try simp -implicitDefEqProofs (maxSteps := 2000000) [-selQ_sel, h_1, h_2, h_3, g_4, g_5, g_6]
  · replace H := HS.cnd_f h_2 H
    try simp -implicitDefEqProofs (maxSteps := 2000000) [-selQ_sel, h_1, h_2]
    have hr := (HS.some H).symm; subst hr
    refine Hid.mk ⟨_, Wk.refl _, ?_⟩
    try simp -implicitDefEqProofs (maxSteps := 2000000) [-selQ_sel, h_1, h_2]
theorem spec_PointOk_ok0 (hm : Try.prog.follows .mixedOrders = true) (k_spec_l01In : Sound Try.prog 91 spec_l01In_x) : Sound Try.prog 222 spec_PointOk_x := by
  refine xOf_sound fun q r h => ?_
  revert h; revert r; revert q; intro a0 r h
  refine fn_ok E0 hm Try.func222 rfl (by decide +kernel) (by rfl) fun Γ hn hk => ?_
  dsimp only [spec_PointOk_e, spec_PointOk_v]
  replace hn : Γ.n = 11 := hn
  replace hk : Γ.k = 0 := hk
  have H : HS (spec_PointOk a0) r := h
  clear h; unfold spec_PointOk at H
  try simp -implicitDefEqProofs at H
  refine Tr.of_vc (cl := tabC [(91, spec_l01In_x)]) (E := E0) [] (tab_cons k_spec_l01In tab_nil) hm (by rw [hn]; decide +kernel) ?_
  try simp -implicitDefEqProofs (maxSteps := 2000000) [-selQ_sel]
  obtain ⟨v1, h_1, H⟩ := HS.bnd H
  try simp -implicitDefEqProofs (maxSteps := 2000000) [-selQ_sel, h_1]
  refine Hid.selQ (fun h_2 => ?_) (fun h_2 => ?_)
  · replace H := HS.cnd_t h_2 H
    try simp -implicitDefEqProofs (maxSteps := 2000000) [-selQ_sel, h_1, h_2]
    obtain ⟨v2, h_3, H⟩ := HS.bnd H
    try simp -implicitDefEqProofs (maxSteps := 2000000) [-selQ_sel, h_1, h_2, h_3]
    have hr := (HS.some H).symm; subst hr
    refine Hid.mk ⟨_, Wk.refl _, ?_⟩
    try simp -implicitDefEqProofs (maxSteps := 2000000) [-selQ_sel, h_1, h_2, h_3]
  · replace H := HS.cnd_f h_2 H
    try simp -implicitDefEqProofs (maxSteps := 2000000) [-selQ_sel, h_1, h_2]
    have hr := (HS.some H).symm; subst hr
    refine Hid.mk ⟨_, Wk.refl _, ?_⟩
    try simp -implicitDefEqProofs (maxSteps := 2000000) [-selQ_sel, h_1, h_2]
theorem spec_l01Byte_ok0 (hm : Try.prog.follows .mixedOrders = true) : Sound Try.prog 106 spec_l01Byte_x := by
  refine xOf_sound fun q r h => ?_
  revert h; revert r; revert q; intro a0 r h
  refine fn_ok E0 hm Try.func106 rfl (by decide +kernel) (by rfl) fun Γ hn hk => ?_
  dsimp only [spec_l01Byte_e, spec_l01Byte_v]
  replace hn : Γ.n = 58 := hn
  replace hk : Γ.k = 1 := hk
  have H : HS (spec_l01Byte a0) r := h
  clear h; unfold spec_l01Byte at H
  try simp -implicitDefEqProofs at H
  refine Tr.of_vc (cl := tabC []) (E := E0) [] tab_nil hm (by rw [hn]; decide +kernel) ?_
  try simp -implicitDefEqProofs +decide (maxSteps := 2000000) [-selQ_sel, hokQ_of]
  refine Hid.brV (fun h_1 => ?_) (fun h_1 => ?_)
  · replace H := HS.cnd_t h_1 H
    try simp -implicitDefEqProofs +decide (maxSteps := 2000000) [-selQ_sel, hokQ_of, h_1]
    have hr := (HS.some H).symm; subst hr
    refine Hid.mk ⟨_, Wk.refl _, ?_⟩
    try simp -implicitDefEqProofs +decide (maxSteps := 2000000) [-selQ_sel, hokQ_of, h_1]
  · replace H := HS.cnd_f h_1 H
    try simp -implicitDefEqProofs +decide (maxSteps := 2000000) [-selQ_sel, hokQ_of, h_1]
    obtain ⟨v1, h_2, H⟩ := HS.bnd H
    try simp -implicitDefEqProofs +decide (maxSteps := 2000000) [-selQ_sel, hokQ_of, h_1, h_2]
    have hr := (HS.some H).symm; subst hr
    refine Hid.mk ⟨_, Wk.refl _, ?_⟩
    try simp -implicitDefEqProofs +decide (maxSteps := 2000000) [-selQ_sel, hokQ_of, h_1, h_2]
theorem spec_l21CopyMask_ok0 (hm : Try.prog.follows .mixedOrders = true) : Sound Try.prog 100 spec_l21CopyMask_x := by
  refine xOf_sound fun q r h => ?_
  revert h; revert r; revert q; intro a0 r h
  refine fn_ok E0 hm Try.func100 rfl (by decide +kernel) (by rfl) fun Γ hn hk => ?_
  dsimp only [spec_l21CopyMask_e, spec_l21CopyMask_v]
  replace hn : Γ.n = 10 := hn
  replace hk : Γ.k = 0 := hk
  have H : HS (spec_l21CopyMask a0) r := h
  clear h; unfold spec_l21CopyMask at H
  try simp -implicitDefEqProofs at H
  refine Tr.of_vc (cl := tabC []) (E := E0) [] tab_nil hm (by rw [hn]; decide +kernel) ?_
  try simp -implicitDefEqProofs +decide (maxSteps := 2000000) [-selQ_sel, hokQ_of]
  obtain ⟨h_1, H⟩ := HS.chkP H
  try simp -implicitDefEqProofs +decide (maxSteps := 2000000) [-selQ_sel, hokQ_of, h_1]
  obtain ⟨l1, h_2, H⟩ := HS.nam H
  have m_3 := congrArg (List.map (AV.int .i64)) h_2
  have q_4 := congrArg List.length h_2
  simp -implicitDefEqProofs at m_3 q_4
  try simp only [q_4] at m_3
  try simp only [q_4] at h_1
  try simp -implicitDefEqProofs +decide (maxSteps := 2000000) [-selQ_sel, hokQ_of, h_1, m_3, q_4]
  have hr := (HS.some H).symm; subst hr
  refine Hid.mk ⟨_, Wk.refl _, ?_⟩
  try simp -implicitDefEqProofs +decide (maxSteps := 2000000) [-selQ_sel, hokQ_of, h_1, m_3, q_4]
theorem impl_Empty_ok0 (hm : Try.prog.follows .mixedOrders = true) : Sound Try.prog 206 impl_Empty_x := by
  refine xOf_sound fun q r h => ?_
  revert h; revert r; revert q; intro a0 r h
  refine fn_ok E0 hm Try.func206 rfl (by decide +kernel) (by rfl) fun Γ hn hk => ?_
  dsimp only [impl_Empty_e, impl_Empty_v]
  replace hn : Γ.n = 15 := hn
  replace hk : Γ.k = 0 := hk
  have H : HS (impl_Empty a0) r := h
  clear h; unfold impl_Empty at H
  try simp -implicitDefEqProofs at H
  refine Tr.of_vc (cl := tabC []) (E := E0) [] tab_nil hm (by rw [hn]; decide +kernel) ?_
  try simp -implicitDefEqProofs (maxSteps := 2000000) [-selQ_sel]
  refine Hid.selQ (fun h_1 => ?_) (fun h_1 => ?_)
  · replace H := HS.cnd_t h_1 H
    try simp -implicitDefEqProofs (maxSteps := 2000000) [-selQ_sel, h_1]
    have hr := (HS.some H).symm; subst hr
    refine Hid.mk ⟨_, Wk.refl _, ?_⟩
    try simp -implicitDefEqProofs (maxSteps := 2000000) [-selQ_sel, h_1]
  · replace H := HS.cnd_f h_1 H
    try simp -implicitDefEqProofs (maxSteps := 2000000) [-selQ_sel, h_1]
    have hr := (HS.some H).symm; subst hr
    refine Hid.mk ⟨_, Wk.refl _, ?_⟩
    try simp -implicitDefEqProofs (maxSteps := 2000000) [-selQ_sel, h_1]
theorem spec_l01PickInt_ok0 (hm : Try.prog.follows .mixedOrders = true) (k_spec_l01Below : Sound Try.prog 107 spec_l01Below_x) : Sound Try.prog 171 spec_l01PickInt_x := by
  refine xOf_sound fun q r h => ?_
  obtain ⟨a0, a1⟩ := q
  refine fn_ok E0 hm Try.func171 rfl (by decide +kernel) (by rfl) fun Γ hn hk => ?_
  dsimp only [spec_l01PickInt_e, spec_l01PickInt_v]
  replace hn : Γ.n = 12 := hn
  replace hk : Γ.k = 2 := hk
  have H : HS (spec_l01PickInt a0 a1) r := h
  clear h; unfold spec_l01PickInt at H
  try simp -implicitDefEqProofs at H
  refine Tr.of_vc (cl := tabC [(107, spec_l01Below_x)]) (E := E0) [] (tab_cons k_spec_l01Below tab_nil) hm (by rw [hn]; decide +kernel) ?_
  try simp -implicitDefEqProofs (maxSteps := 2000000) [-selQ_sel]
  obtain ⟨⟨w2, w3⟩, h_1, H⟩ := HS.bnd H
  dsimp only at H
  try simp -implicitDefEqProofs (maxSteps := 2000000) [-selQ_sel, h_1]
  obtain ⟨v4, h_2, H⟩ := HS.bnd H
  have g_3 := idx_get h_2
  try simp -implicitDefEqProofs (maxSteps := 2000000) [-selQ_sel, h_1, h_2, g_3]
  have hr := (HS.some H).symm; subst hr
  refine Hid.mk ⟨_, Wk.refl _, ?_⟩
  try simp -implicitDefEqProofs (maxSteps := 2000000) [-selQ_sel, h_1, h_2, g_3]
theorem impl_copyMask_ok0 (hm : Try.prog.follows .mixedOrders = true) (k_slices_Clone_int : Sound Try.prog 165 slices_Clone_int_x) : Sound Try.prog 98 impl_copyMask_x := by
  refine xOf_sound fun q r h => ?_
  revert h; revert r; revert q; intro a0 r h
  refine fn_ok E0 hm Try.func98 rfl (by decide +kernel) (by rfl) fun Γ hn hk => ?_
  dsimp only [impl_copyMask_e, impl_copyMask_v]
  replace hn : Γ.n = 9 := hn
  replace hk : Γ.k = 0 := hk
  have H : HS (impl_copyMask a0) r := h
  clear h; unfold impl_copyMask at H
  try simp -implicitDefEqProofs at H
  refine Tr.of_vc (cl := tabC [(165, slices_Clone_int_x)]) (E := E0) [] (tab_cons k_slices_Clone_int tab_nil) hm (by rw [hn]; decide +kernel) ?_
  try simp -implicitDefEqProofs +decide (maxSteps := 2000000) [-selQ_sel, hokQ_of]
  obtain ⟨v1, h_1, H⟩ := HS.bnd H
  try simp -implicitDefEqProofs +decide (maxSteps := 2000000) [-selQ_sel, hokQ_of, h_1]
  have hr := (HS.some H).symm; subst hr
  refine Hid.mk ⟨_, Wk.refl _, ?_⟩
  try simp -implicitDefEqProofs +decide (maxSteps := 2000000) [-selQ_sel, hokQ_of, h_1]
theorem impl_Cache_keptAt_1_ok0 (hm : Try.prog.follows .mixedOrders = true) : Sound Try.prog 166 impl_Cache_keptAt_1_x := by
  refine xOf_sound fun q r h => ?_
  obtain ⟨a0, a1⟩ := q
  refine fn_ok E0 hm Try.func166 rfl (by decide +kernel) (by rfl) fun Γ hn hk => ?_
  dsimp only [impl_Cache_keptAt_1_e, impl_Cache_keptAt_1_v]
  replace hn : Γ.n = 8 := hn
  replace hk : Γ.k = 0 := hk
  have H : HS (impl_Cache_keptAt_1 a0 a1) r := h
  clear h; unfold impl_Cache_keptAt_1 at H
  try simp -implicitDefEqProofs at H
  refine Tr.of_vc (cl := tabC []) (E := E0) [] tab_nil hm (by rw [hn]; decide +kernel) ?_
  try simp -implicitDefEqProofs (maxSteps := 2000000) [-selQ_sel]
  have hr := (HS.some H).symm; subst hr
  refine Hid.mk ⟨_, Wk.refl _, ?_⟩
  try simp -implicitDefEqProofs (maxSteps := 2000000) [-selQ_sel]
end Go.Proofs.Ytafljhadfoaceaa.Am
