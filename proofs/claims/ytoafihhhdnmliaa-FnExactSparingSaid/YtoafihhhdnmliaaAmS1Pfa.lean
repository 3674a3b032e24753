import Derived.Test.YtoafihhhdnmliaaAmS1Mo
set_option linter.unusedVariables false
set_option linter.unusedSimpArgs false
set_option linter.unusedSectionVars false
namespace Go.Proofs.Ytoafihhhdnmliaa.Am
open Go Go.Proofs
set_option maxRecDepth 100000
set_option linter.unusedSimpArgs false
set_option linter.unusedVariables false
set_option maxHeartbeats 4000000
theorem spec_Sparing_ok0 (hm : Try.prog.follows .mixedOrders = true) (k_spec_TileCount : Sound Try.prog 81 spec_TileCount_x) (k_spec_SurfaceOk : Sound Try.prog 82 spec_SurfaceOk_x) (k_spec_TileBox : Sound Try.prog 83 spec_TileBox_x) (k_spec_MeetBox : Sound Try.prog 85 spec_MeetBox_x) (k_spec_Empty : Sound Try.prog 84 spec_Empty_x) : Sound Try.prog 18 spec_Sparing_x := by
  refine xOf_sound fun q r h => ?_
  obtain ⟨a0, a1⟩ := q
  refine fn_ok E0 hm Try.func18 rfl (by decide +kernel) (by rfl) fun Γ hn hk => ?_
  dsimp only [spec_Sparing_e, spec_Sparing_v]
  replace hn : Γ.n = 156 := hn
  replace hk : Γ.k = 0 := hk
  have H : HS (spec_Sparing a0 a1) r := h
  clear h; unfold spec_Sparing at H
  try simp -implicitDefEqProofs at H
  refine Tr.of_vc (cl := tabC [(81, spec_TileCount_x), (82, spec_SurfaceOk_x), (83, spec_TileBox_x), (85, spec_MeetBox_x), (84, spec_Empty_x)]) (E := E0) [] (tab_cons k_spec_TileCount (tab_cons k_spec_SurfaceOk (tab_cons k_spec_TileBox (tab_cons k_spec_MeetBox (tab_cons k_spec_Empty tab_nil))))) hm (by rw [hn]; decide +kernel) ?_
  try simp -implicitDefEqProofs +decide (maxSteps := 2000000) [-selQ_sel, hokQ_of]
  refine Hid.selQ (fun h_1 => ?_) (fun h_1 => ?_)
  · replace H := HS.cnd_t h_1 H
    try simp -implicitDefEqProofs +decide (maxSteps := 2000000) [-selQ_sel, hokQ_of, h_1]
    refine Hid.selQ (fun h_2 => ?_) (fun h_2 => ?_)
    · replace H := HS.cnd_t h_2 H
      try simp -implicitDefEqProofs +decide (maxSteps := 2000000) [-selQ_sel, hokQ_of, h_1, h_2]
      obtain ⟨v1, h_3, H⟩ := HS.bnd H
      try simp -implicitDefEqProofs +decide (maxSteps := 2000000) [-selQ_sel, hokQ_of, h_1, h_2, h_3]
      refine Hid.selQ (fun h_4 => ?_) (fun h_4 => ?_)
      · replace H := HS.cnd_t h_4 H
        try simp -implicitDefEqProofs +decide (maxSteps := 2000000) [-selQ_sel, hokQ_of, h_1, h_2, h_3, h_4]
        refine Hid.selQ (fun h_5 => ?_) (fun h_5 => ?_)
        · replace H := HS.cnd_t h_5 H
          try simp -implicitDefEqProofs +decide (maxSteps := 2000000) [-selQ_sel, hokQ_of, h_1, h_2, h_3, h_4, h_5]
          obtain ⟨v2, h_6, H⟩ := HS.bnd H
          try simp -implicitDefEqProofs +decide (maxSteps := 2000000) [-selQ_sel, hokQ_of, h_1, h_2, h_3, h_4, h_5, h_6]
          refine Hid.selQ (fun h_7 => ?_) (fun h_7 => ?_)
          · replace H := HS.cnd_t h_7 H
            try simp -implicitDefEqProofs +decide (maxSteps := 2000000) [-selQ_sel, hokQ_of, h_1, h_2, h_3, h_4, h_5, h_6, h_7]
            obtain ⟨v3, h_8, H⟩ := HS.bnd H
            try simp -implicitDefEqProofs +decide (maxSteps := 2000000) [-selQ_sel, hokQ_of, h_1, h_2, h_3, h_4, h_5, h_6, h_7, h_8]
            refine Hid.brV (fun h_9 => ?_) (fun h_9 => ?_)
            · replace H := HS.cnd_t h_9 H
              try simp -implicitDefEqProofs +decide (maxSteps := 2000000) [-selQ_sel, hokQ_of, h_1, h_2, h_3, h_4, h_5, h_6, h_7, h_8, h_9]
              obtain ⟨q, h_10, H⟩ := HS.bnd H
              refine Hid.mk (Tr.weak (s' := (spec_Sparing_l5_S a0 a1) 0) (Wk.ofk [0, 1] hk (by rfl) (by simp -implicitDefEqProofs [spec_Sparing_l5_S, h_1, h_2, h_3, h_4, h_5, h_6, h_7, h_8, h_9]) (by simp -implicitDefEqProofs [spec_Sparing_l5_S, h_1, h_2, h_3, h_4, h_5, h_6, h_7, h_8, h_9])) ?_)
              refine wp_loop_of (S := (spec_Sparing_l5_S a0 a1)) (f := (spec_Sparing_l5 a0 a1)) (xt := (spec_Sparing_l5_X a0 a1)) ?_ ?_ h_10 ?_
              · intro q; rcases q with ⟨⟩ | ⟨⟩ <;> simp [spec_Sparing_l5_X]
              · clear H h_10 q
                rintro x46 o R hf hR
                have H : HS (spec_Sparing_l5 a0 a1 x46) o := hf
                clear hf; unfold spec_Sparing_l5 at H
                try simp -implicitDefEqProofs at H
                refine Tr.of_vc (cl := tabC [(81, spec_TileCount_x), (82, spec_SurfaceOk_x), (83, spec_TileBox_x), (85, spec_MeetBox_x), (84, spec_Empty_x)]) (E := E0) [] (tab_cons k_spec_TileCount (tab_cons k_spec_SurfaceOk (tab_cons k_spec_TileBox (tab_cons k_spec_MeetBox (tab_cons k_spec_Empty tab_nil))))) hm (by rw [hn]; decide +kernel) ?_
                try simp -implicitDefEqProofs +decide (maxSteps := 2000000) [-selQ_sel, hokQ_of, spec_Sparing_l5_S]
                refine Hid.brV (fun h_11 => ?_) (fun h_11 => ?_)
                · replace H := HS.cnd_t h_11 H
                  try simp -implicitDefEqProofs +decide (maxSteps := 2000000) [-selQ_sel, hokQ_of, h_11]
                  have hr := (HS.some H).symm; subst hr
                  exact Hid.mk ⟨(spec_Sparing_l5_X a0 a1 (.inl ())).2, Wk.ofk [] hk (by rfl) (by simp -implicitDefEqProofs [spec_Sparing_l5_X, h_11]) (by simp -implicitDefEqProofs [spec_Sparing_l5_X, h_11]), hR⟩
                · replace H := HS.cnd_f h_11 H
                  try simp -implicitDefEqProofs +decide (maxSteps := 2000000) [-selQ_sel, hokQ_of, h_11]
                  obtain ⟨v47, h_12, H⟩ := HS.bnd H
                  try simp -implicitDefEqProofs +decide (maxSteps := 2000000) [-selQ_sel, hokQ_of, h_11, h_12]
                  obtain ⟨q, h_13, H⟩ := HS.bnd H
                  refine Hid.mk (Tr.weak (s' := (spec_Sparing_l0_S a0 a1 v47 x46) (false, 0)) (Wk.ofk [0, 1, 2] hk (by rfl) (by simp -implicitDefEqProofs [spec_Sparing_l0_S, h_11, h_12]) (by simp -implicitDefEqProofs [spec_Sparing_l0_S, h_11, h_12])) ?_)
                  refine wp_loop_of (S := (spec_Sparing_l0_S a0 a1 v47 x46)) (f := (spec_Sparing_l0 a0 a1 v47 x46)) (xt := (spec_Sparing_l0_X a0 a1 v47 x46)) ?_ ?_ h_13 ?_
                  · intro q; simp [spec_Sparing_l0_X]
                  · clear H h_13 q
                    rintro ⟨x51, x52⟩ o R hf hR
                    have H : HS (spec_Sparing_l0 a0 a1 v47 x46 (x51, x52)) o := hf
                    clear hf; unfold spec_Sparing_l0 at H
                    try simp -implicitDefEqProofs at H
                    refine Tr.of_vc (cl := tabC [(81, spec_TileCount_x), (82, spec_SurfaceOk_x), (83, spec_TileBox_x), (85, spec_MeetBox_x), (84, spec_Empty_x)]) (E := E0) [] (tab_cons k_spec_TileCount (tab_cons k_spec_SurfaceOk (tab_cons k_spec_TileBox (tab_cons k_spec_MeetBox (tab_cons k_spec_Empty tab_nil))))) hm (by rw [hn]; decide +kernel) ?_
                    try simp -implicitDefEqProofs +decide (maxSteps := 2000000) [-selQ_sel, hokQ_of, spec_Sparing_l0_S]
                    refine Hid.brV (fun h_14 => ?_) (fun h_14 => ?_)
                    · replace H := HS.cnd_t h_14 H
                      try simp -implicitDefEqProofs +decide (maxSteps := 2000000) [-selQ_sel, hokQ_of, h_14]
                      have hr := (HS.some H).symm; subst hr
                      exact Hid.mk ⟨(spec_Sparing_l0_X a0 a1 v47 x46 x51).2, Wk.ofk [0, 1, 2] hk (by rfl) (by simp -implicitDefEqProofs [spec_Sparing_l0_X, h_14]) (by simp -implicitDefEqProofs [spec_Sparing_l0_X, h_14]), hR⟩
                    · replace H := HS.cnd_f h_14 H
                      try simp -implicitDefEqProofs +decide (maxSteps := 2000000) [-selQ_sel, hokQ_of, h_14]
                      refine Hid.selQ (fun h_15 => ?_) (fun h_15 => ?_)
                      · replace H := HS.cnd_t h_15 H
                        try simp -implicitDefEqProofs +decide (maxSteps := 2000000) [-selQ_sel, hokQ_of, h_14, h_15]
                        have hr := (HS.some H).symm; subst hr
                        exact Hid.mk ⟨spec_Sparing_l0_S a0 a1 v47 x46 (true, (IntKind.i64.wrap (x52 + 1))), Wk.ofk [0, 1, 2] hk (by rfl) (by simp -implicitDefEqProofs [spec_Sparing_l0_S, h_14, h_15]) (by simp -implicitDefEqProofs [spec_Sparing_l0_S, h_14, h_15]), hR⟩
                      · replace H := HS.cnd_f h_15 H
                        try simp -implicitDefEqProofs +decide (maxSteps := 2000000) [-selQ_sel, hokQ_of, h_14, h_15]
                        obtain ⟨v53, h_16, H⟩ := HS.bnd H
                        try simp -implicitDefEqProofs +decide (maxSteps := 2000000) [-selQ_sel, hokQ_of, h_14, h_15, h_16]
                        obtain ⟨v54, h_17, H⟩ := HS.bnd H
                        try simp -implicitDefEqProofs +decide (maxSteps := 2000000) [-selQ_sel, hokQ_of, h_14, h_15, h_16, h_17]
                        obtain ⟨v55, h_18, H⟩ := HS.bnd H
                        try simp -implicitDefEqProofs +decide (maxSteps := 2000000) [-selQ_sel, hokQ_of, h_14, h_15, h_16, h_17, h_18]
                        have hr := (HS.some H).symm; subst hr
                        exact Hid.mk ⟨spec_Sparing_l0_S a0 a1 v47 x46 ((!v55), (IntKind.i64.wrap (x52 + 1))), Wk.ofk [0, 1, 2] hk (by rfl) (by simp -implicitDefEqProofs [spec_Sparing_l0_S, h_14, h_15, h_16, h_17, h_18]) (by simp -implicitDefEqProofs [spec_Sparing_l0_S, h_14, h_15, h_16, h_17, h_18]), hR⟩
                  · revert H h_13; revert q; intro y56 h_13 H
                    try dsimp only at H
                    try simp -implicitDefEqProofs +decide (maxSteps := 2000000) [-selQ_sel, hokQ_of, h_11, h_12, spec_Sparing_l0_X]
                    obtain ⟨v57, h_19, H⟩ := HS.bnd H
                    try simp -implicitDefEqProofs +decide (maxSteps := 2000000) [-selQ_sel, hokQ_of, h_11, h_12, h_19]
                    obtain ⟨v58, h_20, H⟩ := HS.bnd H
                    try simp -implicitDefEqProofs +decide (maxSteps := 2000000) [-selQ_sel, hokQ_of, h_11, h_12, h_19, h_20]
                    refine Hid.selQ (fun h_21 => ?_) (fun h_21 => ?_)
                    · replace H := HS.cnd_t h_21 H
                      try simp -implicitDefEqProofs +decide (maxSteps := 2000000) [-selQ_sel, hokQ_of, h_11, h_12, h_19, h_20, h_21]
                      obtain ⟨q, h_22, H⟩ := HS.bnd H
                      refine Hid.mk (Tr.weak (s' := (spec_Sparing_l2_S a0 a1 v47 x46) v47.y0) (Wk.ofk [0, 1, 2] hk (by rfl) (by simp -implicitDefEqProofs [spec_Sparing_l2_S, h_11, h_12, h_19, h_20, h_21]) (by simp -implicitDefEqProofs [spec_Sparing_l2_S, h_11, h_12, h_19, h_20, h_21])) ?_)
                      refine wp_loop_of (S := (spec_Sparing_l2_S a0 a1 v47 x46)) (f := (spec_Sparing_l2 a0 a1 v47 x46)) (xt := (spec_Sparing_l2_X a0 a1 v47 x46)) ?_ ?_ h_22 ?_
                      · intro q; rcases q with ⟨⟩ | ⟨⟩ <;> simp [spec_Sparing_l2_X]
                      · clear H h_22 q
                        rintro x66 o R hf hR
                        have H : HS (spec_Sparing_l2 a0 a1 v47 x46 x66) o := hf
                        clear hf; unfold spec_Sparing_l2 at H
                        try simp -implicitDefEqProofs at H
                        refine Tr.of_vc (cl := tabC [(81, spec_TileCount_x), (82, spec_SurfaceOk_x), (83, spec_TileBox_x), (85, spec_MeetBox_x), (84, spec_Empty_x)]) (E := E0) [] (tab_cons k_spec_TileCount (tab_cons k_spec_SurfaceOk (tab_cons k_spec_TileBox (tab_cons k_spec_MeetBox (tab_cons k_spec_Empty tab_nil))))) hm (by rw [hn]; decide +kernel) ?_
                        try simp -implicitDefEqProofs +decide (maxSteps := 2000000) [-selQ_sel, hokQ_of, spec_Sparing_l2_S]
                        refine Hid.selQ (fun h_23 => ?_) (fun h_23 => ?_)
                        · replace H := HS.cnd_t h_23 H
                          try simp -implicitDefEqProofs +decide (maxSteps := 2000000) [-selQ_sel, hokQ_of, h_23]
                          have hr := (HS.some H).symm; subst hr
                          exact Hid.mk ⟨(spec_Sparing_l2_X a0 a1 v47 x46 (.inl ())).2, Wk.ofk [0, 1] hk (by rfl) (by simp -implicitDefEqProofs [spec_Sparing_l2_X, h_23]) (by simp -implicitDefEqProofs [spec_Sparing_l2_X, h_23]), hR⟩
                        · replace H := HS.cnd_f h_23 H
                          try simp -implicitDefEqProofs +decide (maxSteps := 2000000) [-selQ_sel, hokQ_of, h_23]
                          obtain ⟨v67, h_24, H⟩ := HS.bnd H
                          try simp -implicitDefEqProofs +decide (maxSteps := 2000000) [-selQ_sel, hokQ_of, h_23, h_24]
                          obtain ⟨v68, h_25, H⟩ := HS.bnd H
                          try simp -implicitDefEqProofs +decide (maxSteps := 2000000) [-selQ_sel, hokQ_of, h_23, h_24, h_25]
                          refine Hid.brV (fun h_26 => ?_) (fun h_26 => ?_)
                          · replace H := HS.cnd_t h_26 H
                            try simp -implicitDefEqProofs +decide (maxSteps := 2000000) [-selQ_sel, hokQ_of, h_23, h_24, h_25, h_26]
                            obtain ⟨q, h_27, H⟩ := HS.bnd H
                            refine Hid.mk (Tr.weak (s' := (spec_Sparing_l1_S a0 a1 v47 x46 x66) v47.x0) (Wk.ofk [0, 1, 2] hk (by rfl) (by simp -implicitDefEqProofs [spec_Sparing_l1_S, h_23, h_24, h_25, h_26]) (by simp -implicitDefEqProofs [spec_Sparing_l1_S, h_23, h_24, h_25, h_26])) ?_)
                            refine wp_loop_of (S := (spec_Sparing_l1_S a0 a1 v47 x46 x66)) (f := (spec_Sparing_l1 a0 a1 v47 x46 x66)) (xt := (spec_Sparing_l1_X a0 a1 v47 x46 x66)) ?_ ?_ h_27 ?_
                            · intro q; rcases q with ⟨⟩ | ⟨⟩ <;> simp [spec_Sparing_l1_X]
                            · clear H h_27 q
                              rintro x71 o R hf hR
                              have H : HS (spec_Sparing_l1 a0 a1 v47 x46 x66 x71) o := hf
                              clear hf; unfold spec_Sparing_l1 at H
                              try simp -implicitDefEqProofs at H
                              refine Tr.of_vc (cl := tabC [(81, spec_TileCount_x), (82, spec_SurfaceOk_x), (83, spec_TileBox_x), (85, spec_MeetBox_x), (84, spec_Empty_x)]) (E := E0) [] (tab_cons k_spec_TileCount (tab_cons k_spec_SurfaceOk (tab_cons k_spec_TileBox (tab_cons k_spec_MeetBox (tab_cons k_spec_Empty tab_nil))))) hm (by rw [hn]; decide +kernel) ?_
                              try simp -implicitDefEqProofs +decide (maxSteps := 2000000) [-selQ_sel, hokQ_of, spec_Sparing_l1_S]
                              refine Hid.brV (fun h_28 => ?_) (fun h_28 => ?_)
                              · replace H := HS.cnd_t h_28 H
                                try simp -implicitDefEqProofs +decide (maxSteps := 2000000) [-selQ_sel, hokQ_of, h_28]
                                have hr := (HS.some H).symm; subst hr
                                exact Hid.mk ⟨(spec_Sparing_l1_X a0 a1 v47 x46 x66 (.inl ())).2, Wk.ofk [0, 1, 2] hk (by rfl) (by simp -implicitDefEqProofs [spec_Sparing_l1_X, h_28]) (by simp -implicitDefEqProofs [spec_Sparing_l1_X, h_28]), hR⟩
                              · replace H := HS.cnd_f h_28 H
                                try simp -implicitDefEqProofs +decide (maxSteps := 2000000) [-selQ_sel, hokQ_of, h_28]
                                obtain ⟨v72, h_29, H⟩ := HS.bnd H
                                try simp -implicitDefEqProofs +decide (maxSteps := 2000000) [-selQ_sel, hokQ_of, h_28, h_29]
                                obtain ⟨v73, h_30, H⟩ := HS.bnd H
                                try simp -implicitDefEqProofs +decide (maxSteps := 2000000) [-selQ_sel, hokQ_of, h_28, h_29, h_30]
                                refine Hid.brV (fun h_31 => ?_) (fun h_31 => ?_)
                                · replace H := HS.cnd_t h_31 H
                                  try simp -implicitDefEqProofs +decide (maxSteps := 2000000) [-selQ_sel, hokQ_of, h_28, h_29, h_30, h_31]
                                  have hr := (HS.some H).symm; subst hr
                                  exact Hid.mk ⟨spec_Sparing_l1_S a0 a1 v47 x46 x66 (IntKind.i64.wrap (x71 + 1)), Wk.ofk [0, 1, 2] hk (by rfl) (by simp -implicitDefEqProofs [spec_Sparing_l1_S, h_28, h_29, h_30, h_31]) (by simp -implicitDefEqProofs [spec_Sparing_l1_S, h_28, h_29, h_30, h_31]), hR⟩
                                · replace H := HS.cnd_f h_31 H
                                  try simp -implicitDefEqProofs +decide (maxSteps := 2000000) [-selQ_sel, hokQ_of, h_28, h_29, h_30, h_31]
                                  have hr := (HS.some H).symm; subst hr
                                  exact Hid.mk ⟨(spec_Sparing_l1_X a0 a1 v47 x46 x66 (.inr ())).2, Wk.ofk [] hk (by rfl) (by simp -implicitDefEqProofs [spec_Sparing_l1_X, h_28, h_29, h_30, h_31]) (by simp -implicitDefEqProofs [spec_Sparing_l1_X, h_28, h_29, h_30, h_31]), hR⟩
                            · rcases q with ⟨⟩ | ⟨⟩
                              · dsimp only at H
                                try simp -implicitDefEqProofs +decide (maxSteps := 2000000) [-selQ_sel, hokQ_of, h_23, h_24, h_25, h_26, spec_Sparing_l1_X]
                                have hr := (HS.some H).symm; subst hr
                                exact Hid.mk ⟨spec_Sparing_l2_S a0 a1 v47 x46 (IntKind.i64.wrap (x66 + 1)), Wk.ofk [0, 1, 2] hk (by rfl) (by simp -implicitDefEqProofs [spec_Sparing_l2_S, h_23, h_24, h_25, h_26]) (by simp -implicitDefEqProofs [spec_Sparing_l2_S, h_23, h_24, h_25, h_26]), hR⟩
                              · dsimp only at H
                                try simp -implicitDefEqProofs +decide (maxSteps := 2000000) [-selQ_sel, hokQ_of, h_23, h_24, h_25, h_26, spec_Sparing_l1_X]
                                have hr := (HS.some H).symm; subst hr
                                exact Hid.mk ⟨(spec_Sparing_l2_X a0 a1 v47 x46 (.inr ())).2, Wk.ofk [] hk (by rfl) (by simp -implicitDefEqProofs [spec_Sparing_l2_X, h_23, h_24, h_25, h_26]) (by simp -implicitDefEqProofs [spec_Sparing_l2_X, h_23, h_24, h_25, h_26]), hR⟩
                          · replace H := HS.cnd_f h_26 H
                            try simp -implicitDefEqProofs +decide (maxSteps := 2000000) [-selQ_sel, hokQ_of, h_23, h_24, h_25, h_26]
                            have hr := (HS.some H).symm; subst hr
                            exact Hid.mk ⟨(spec_Sparing_l2_X a0 a1 v47 x46 (.inl ())).2, Wk.ofk [0, 1] hk (by rfl) (by simp -implicitDefEqProofs [spec_Sparing_l2_X, h_23, h_24, h_25, h_26]) (by simp -implicitDefEqProofs [spec_Sparing_l2_X, h_23, h_24, h_25, h_26]), hR⟩
                      · rcases q with ⟨⟩ | ⟨⟩
                        · dsimp only at H
                          try simp -implicitDefEqProofs +decide (maxSteps := 2000000) [-selQ_sel, hokQ_of, h_11, h_12, h_19, h_20, h_21, spec_Sparing_l2_X]
                          have hr := (HS.some H).symm; subst hr
                          exact Hid.mk ⟨spec_Sparing_l5_S a0 a1 (IntKind.i64.wrap (x46 + 1)), Wk.ofk [0, 1] hk (by rfl) (by simp -implicitDefEqProofs [spec_Sparing_l5_S, h_11, h_12, h_19, h_20, h_21]) (by simp -implicitDefEqProofs [spec_Sparing_l5_S, h_11, h_12, h_19, h_20, h_21]), hR⟩
                        · dsimp only at H
                          try simp -implicitDefEqProofs +decide (maxSteps := 2000000) [-selQ_sel, hokQ_of, h_11, h_12, h_19, h_20, h_21, spec_Sparing_l2_X]
                          have hr := (HS.some H).symm; subst hr
                          exact Hid.mk ⟨(spec_Sparing_l5_X a0 a1 (.inr ())).2, Wk.ofk [] hk (by rfl) (by simp -implicitDefEqProofs [spec_Sparing_l5_X, h_11, h_12, h_19, h_20, h_21]) (by simp -implicitDefEqProofs [spec_Sparing_l5_X, h_11, h_12, h_19, h_20, h_21]), hR⟩
                    · replace H := HS.cnd_f h_21 H
                      try simp -implicitDefEqProofs +decide (maxSteps := 2000000) [-selQ_sel, hokQ_of, h_11, h_12, h_19, h_20, h_21]
                      refine Hid.brV (fun h_32 => ?_) (fun h_32 => ?_)
                      · replace H := HS.cnd_t h_32 H
                        try simp -implicitDefEqProofs +decide (maxSteps := 2000000) [-selQ_sel, hokQ_of, h_11, h_12, h_19, h_20, h_21, h_32]
                        obtain ⟨q, h_33, H⟩ := HS.bnd H
                        refine Hid.mk (Tr.weak (s' := (spec_Sparing_l4_S a0 a1 v47 x46) v47.y0) (Wk.ofk [0, 1, 2] hk (by rfl) (by simp -implicitDefEqProofs [spec_Sparing_l4_S, h_11, h_12, h_19, h_20, h_21, h_32]) (by simp -implicitDefEqProofs [spec_Sparing_l4_S, h_11, h_12, h_19, h_20, h_21, h_32])) ?_)
                        refine wp_loop_of (S := (spec_Sparing_l4_S a0 a1 v47 x46)) (f := (spec_Sparing_l4 a0 a1 v47 x46)) (xt := (spec_Sparing_l4_X a0 a1 v47 x46)) ?_ ?_ h_33 ?_
                        · intro q; rcases q with ⟨⟩ | ⟨⟩ <;> simp [spec_Sparing_l4_X]
                        · clear H h_33 q
                          rintro x81 o R hf hR
                          have H : HS (spec_Sparing_l4 a0 a1 v47 x46 x81) o := hf
                          clear hf; unfold spec_Sparing_l4 at H
                          try simp -implicitDefEqProofs at H
                          refine Tr.of_vc (cl := tabC [(81, spec_TileCount_x), (82, spec_SurfaceOk_x), (83, spec_TileBox_x), (85, spec_MeetBox_x), (84, spec_Empty_x)]) (E := E0) [] (tab_cons k_spec_TileCount (tab_cons k_spec_SurfaceOk (tab_cons k_spec_TileBox (tab_cons k_spec_MeetBox (tab_cons k_spec_Empty tab_nil))))) hm (by rw [hn]; decide +kernel) ?_
                          try simp -implicitDefEqProofs +decide (maxSteps := 2000000) [-selQ_sel, hokQ_of, spec_Sparing_l4_S]
                          refine Hid.selQ (fun h_34 => ?_) (fun h_34 => ?_)
                          · replace H := HS.cnd_t h_34 H
                            try simp -implicitDefEqProofs +decide (maxSteps := 2000000) [-selQ_sel, hokQ_of, h_34]
                            have hr := (HS.some H).symm; subst hr
                            exact Hid.mk ⟨(spec_Sparing_l4_X a0 a1 v47 x46 (.inl ())).2, Wk.ofk [0, 1] hk (by rfl) (by simp -implicitDefEqProofs [spec_Sparing_l4_X, h_34]) (by simp -implicitDefEqProofs [spec_Sparing_l4_X, h_34]), hR⟩
                          · replace H := HS.cnd_f h_34 H
                            try simp -implicitDefEqProofs +decide (maxSteps := 2000000) [-selQ_sel, hokQ_of, h_34]
                            obtain ⟨v82, h_35, H⟩ := HS.bnd H
                            try simp -implicitDefEqProofs +decide (maxSteps := 2000000) [-selQ_sel, hokQ_of, h_34, h_35]
                            obtain ⟨v83, h_36, H⟩ := HS.bnd H
                            try simp -implicitDefEqProofs +decide (maxSteps := 2000000) [-selQ_sel, hokQ_of, h_34, h_35, h_36]
                            refine Hid.brV (fun h_37 => ?_) (fun h_37 => ?_)
                            · replace H := HS.cnd_t h_37 H
                              try simp -implicitDefEqProofs +decide (maxSteps := 2000000) [-selQ_sel, hokQ_of, h_34, h_35, h_36, h_37]
                              obtain ⟨q, h_38, H⟩ := HS.bnd H
                              refine Hid.mk (Tr.weak (s' := (spec_Sparing_l3_S a0 a1 v47 x46 x81) v47.x0) (Wk.ofk [0, 1, 2] hk (by rfl) (by simp -implicitDefEqProofs [spec_Sparing_l3_S, h_34, h_35, h_36, h_37]) (by simp -implicitDefEqProofs [spec_Sparing_l3_S, h_34, h_35, h_36, h_37])) ?_)
                              refine wp_loop_of (S := (spec_Sparing_l3_S a0 a1 v47 x46 x81)) (f := (spec_Sparing_l3 a0 a1 v47 x46 x81)) (xt := (spec_Sparing_l3_X a0 a1 v47 x46 x81)) ?_ ?_ h_38 ?_
                              · intro q; rcases q with ⟨⟩ | ⟨⟩ <;> simp [spec_Sparing_l3_X]
                              · clear H h_38 q
                                rintro x86 o R hf hR
                                have H : HS (spec_Sparing_l3 a0 a1 v47 x46 x81 x86) o := hf
                                clear hf; unfold spec_Sparing_l3 at H
                                try simp -implicitDefEqProofs at H
                                refine Tr.of_vc (cl := tabC [(81, spec_TileCount_x), (82, spec_SurfaceOk_x), (83, spec_TileBox_x), (85, spec_MeetBox_x), (84, spec_Empty_x)]) (E := E0) [] (tab_cons k_spec_TileCount (tab_cons k_spec_SurfaceOk (tab_cons k_spec_TileBox (tab_cons k_spec_MeetBox (tab_cons k_spec_Empty tab_nil))))) hm (by rw [hn]; decide +kernel) ?_
                                try simp -implicitDefEqProofs +decide (maxSteps := 2000000) [-selQ_sel, hokQ_of, spec_Sparing_l3_S]
                                refine Hid.brV (fun h_39 => ?_) (fun h_39 => ?_)
                                · replace H := HS.cnd_t h_39 H
                                  try simp -implicitDefEqProofs +decide (maxSteps := 2000000) [-selQ_sel, hokQ_of, h_39]
                                  have hr := (HS.some H).symm; subst hr
                                  exact Hid.mk ⟨(spec_Sparing_l3_X a0 a1 v47 x46 x81 (.inl ())).2, Wk.ofk [0, 1, 2] hk (by rfl) (by simp -implicitDefEqProofs [spec_Sparing_l3_X, h_39]) (by simp -implicitDefEqProofs [spec_Sparing_l3_X, h_39]), hR⟩
                                · replace H := HS.cnd_f h_39 H
                                  try simp -implicitDefEqProofs +decide (maxSteps := 2000000) [-selQ_sel, hokQ_of, h_39]
                                  obtain ⟨v87, h_40, H⟩ := HS.bnd H
                                  try simp -implicitDefEqProofs +decide (maxSteps := 2000000) [-selQ_sel, hokQ_of, h_39, h_40]
                                  obtain ⟨v88, h_41, H⟩ := HS.bnd H
                                  try simp -implicitDefEqProofs +decide (maxSteps := 2000000) [-selQ_sel, hokQ_of, h_39, h_40, h_41]
                                  refine Hid.brV (fun h_42 => ?_) (fun h_42 => ?_)
                                  · replace H := HS.cnd_t h_42 H
                                    try simp -implicitDefEqProofs +decide (maxSteps := 2000000) [-selQ_sel, hokQ_of, h_39, h_40, h_41, h_42]
                                    have hr := (HS.some H).symm; subst hr
                                    exact Hid.mk ⟨spec_Sparing_l3_S a0 a1 v47 x46 x81 (IntKind.i64.wrap (x86 + 1)), Wk.ofk [0, 1, 2] hk (by rfl) (by simp -implicitDefEqProofs [spec_Sparing_l3_S, h_39, h_40, h_41, h_42]) (by simp -implicitDefEqProofs [spec_Sparing_l3_S, h_39, h_40, h_41, h_42]), hR⟩
                                  · replace H := HS.cnd_f h_42 H
                                    try simp -implicitDefEqProofs +decide (maxSteps := 2000000) [-selQ_sel, hokQ_of, h_39, h_40, h_41, h_42]
                                    have hr := (HS.some H).symm; subst hr
                                    exact Hid.mk ⟨(spec_Sparing_l3_X a0 a1 v47 x46 x81 (.inr ())).2, Wk.ofk [] hk (by rfl) (by simp -implicitDefEqProofs [spec_Sparing_l3_X, h_39, h_40, h_41, h_42]) (by simp -implicitDefEqProofs [spec_Sparing_l3_X, h_39, h_40, h_41, h_42]), hR⟩
                              · rcases q with ⟨⟩ | ⟨⟩
                                · dsimp only at H
                                  try simp -implicitDefEqProofs +decide (maxSteps := 2000000) [-selQ_sel, hokQ_of, h_34, h_35, h_36, h_37, spec_Sparing_l3_X]
                                  have hr := (HS.some H).symm; subst hr
                                  exact Hid.mk ⟨spec_Sparing_l4_S a0 a1 v47 x46 (IntKind.i64.wrap (x81 + 1)), Wk.ofk [0, 1, 2] hk (by rfl) (by simp -implicitDefEqProofs [spec_Sparing_l4_S, h_34, h_35, h_36, h_37]) (by simp -implicitDefEqProofs [spec_Sparing_l4_S, h_34, h_35, h_36, h_37]), hR⟩
                                · dsimp only at H
                                  try simp -implicitDefEqProofs +decide (maxSteps := 2000000) [-selQ_sel, hokQ_of, h_34, h_35, h_36, h_37, spec_Sparing_l3_X]
                                  have hr := (HS.some H).symm; subst hr
                                  exact Hid.mk ⟨(spec_Sparing_l4_X a0 a1 v47 x46 (.inr ())).2, Wk.ofk [] hk (by rfl) (by simp -implicitDefEqProofs [spec_Sparing_l4_X, h_34, h_35, h_36, h_37]) (by simp -implicitDefEqProofs [spec_Sparing_l4_X, h_34, h_35, h_36, h_37]), hR⟩
                            · replace H := HS.cnd_f h_37 H
                              try simp -implicitDefEqProofs +decide (maxSteps := 2000000) [-selQ_sel, hokQ_of, h_34, h_35, h_36, h_37]
                              have hr := (HS.some H).symm; subst hr
                              exact Hid.mk ⟨(spec_Sparing_l4_X a0 a1 v47 x46 (.inl ())).2, Wk.ofk [0, 1] hk (by rfl) (by simp -implicitDefEqProofs [spec_Sparing_l4_X, h_34, h_35, h_36, h_37]) (by simp -implicitDefEqProofs [spec_Sparing_l4_X, h_34, h_35, h_36, h_37]), hR⟩
                        · rcases q with ⟨⟩ | ⟨⟩
                          · dsimp only at H
                            try simp -implicitDefEqProofs +decide (maxSteps := 2000000) [-selQ_sel, hokQ_of, h_11, h_12, h_19, h_20, h_21, h_32, spec_Sparing_l4_X]
                            have hr := (HS.some H).symm; subst hr
                            exact Hid.mk ⟨spec_Sparing_l5_S a0 a1 (IntKind.i64.wrap (x46 + 1)), Wk.ofk [0, 1] hk (by rfl) (by simp -implicitDefEqProofs [spec_Sparing_l5_S, h_11, h_12, h_19, h_20, h_21, h_32]) (by simp -implicitDefEqProofs [spec_Sparing_l5_S, h_11, h_12, h_19, h_20, h_21, h_32]), hR⟩
                          · dsimp only at H
                            try simp -implicitDefEqProofs +decide (maxSteps := 2000000) [-selQ_sel, hokQ_of, h_11, h_12, h_19, h_20, h_21, h_32, spec_Sparing_l4_X]
                            have hr := (HS.some H).symm; subst hr
                            exact Hid.mk ⟨(spec_Sparing_l5_X a0 a1 (.inr ())).2, Wk.ofk [] hk (by rfl) (by simp -implicitDefEqProofs [spec_Sparing_l5_X, h_11, h_12, h_19, h_20, h_21, h_32]) (by simp -implicitDefEqProofs [spec_Sparing_l5_X, h_11, h_12, h_19, h_20, h_21, h_32]), hR⟩
                      · replace H := HS.cnd_f h_32 H
                        try simp -implicitDefEqProofs +decide (maxSteps := 2000000) [-selQ_sel, hokQ_of, h_11, h_12, h_19, h_20, h_21, h_32]
                        have hr := (HS.some H).symm; subst hr
                        exact Hid.mk ⟨(spec_Sparing_l5_X a0 a1 (.inr ())).2, Wk.ofk [] hk (by rfl) (by simp -implicitDefEqProofs [spec_Sparing_l5_X, h_11, h_12, h_19, h_20, h_21, h_32]) (by simp -implicitDefEqProofs [spec_Sparing_l5_X, h_11, h_12, h_19, h_20, h_21, h_32]), hR⟩
              · rcases q with ⟨⟩ | ⟨⟩
                · dsimp only at H
                  try simp -implicitDefEqProofs +decide (maxSteps := 2000000) [-selQ_sel, hokQ_of, h_1, h_2, h_3, h_4, h_5, h_6, h_7, h_8, h_9, spec_Sparing_l5_X]
                  have hr := (HS.some H).symm; subst hr
                  refine Hid.mk ⟨_, Wk.refl _, ?_⟩
                  try simp -implicitDefEqProofs +decide (maxSteps := 2000000) [-selQ_sel, hokQ_of, h_1, h_2, h_3, h_4, h_5, h_6, h_7, h_8, h_9]
                · dsimp only at H
                  try simp -implicitDefEqProofs +decide (maxSteps := 2000000) [-selQ_sel, hokQ_of, h_1, h_2, h_3, h_4, h_5, h_6, h_7, h_8, h_9, spec_Sparing_l5_X]
                  have hr := (HS.some H).symm; subst hr
                  refine Hid.mk ⟨_, Wk.refl _, ?_⟩
                  try simp -implicitDefEqProofs +decide (maxSteps := 2000000) [-selQ_sel, hokQ_of, h_1, h_2, h_3, h_4, h_5, h_6, h_7, h_8, h_9]
            · replace H := HS.cnd_f h_9 H
              try simp -implicitDefEqProofs +decide (maxSteps := 2000000) [-selQ_sel, hokQ_of, h_1, h_2, h_3, h_4, h_5, h_6, h_7, h_8, h_9]
              have hr := (HS.some H).symm; subst hr
              refine Hid.mk ⟨_, Wk.refl _, ?_⟩
              try simp -implicitDefEqProofs +decide (maxSteps := 2000000) [-selQ_sel, hokQ_of, h_1, h_2, h_3, h_4, h_5, h_6, h_7, h_8, h_9]
          · replace H := HS.cnd_f h_7 H
            try simp -implicitDefEqProofs +decide (maxSteps := 2000000) [-selQ_sel, hokQ_of, h_1, h_2, h_3, h_4, h_5, h_6, h_7]
            have hr := (HS.some H).symm; subst hr
            refine Hid.mk ⟨_, Wk.refl _, ?_⟩
            try simp -implicitDefEqProofs +decide (maxSteps := 2000000) [-selQ_sel, hokQ_of, h_1, h_2, h_3, h_4, h_5, h_6, h_7]
        · replace H := HS.cnd_f h_5 H
          try simp -implicitDefEqProofs +decide (maxSteps := 2000000) [-selQ_sel, hokQ_of, h_1, h_2, h_3, h_4, h_5]
          have hr := (HS.some H).symm; subst hr
          refine Hid.mk ⟨_, Wk.refl _, ?_⟩
          try simp -implicitDefEqProofs +decide (maxSteps := 2000000) [-selQ_sel, hokQ_of, h_1, h_2, h_3, h_4, h_5]
      · replace H := HS.cnd_f h_4 H
        try simp -implicitDefEqProofs +decide (maxSteps := 2000000) [-selQ_sel, hokQ_of, h_1, h_2, h_3, h_4]
        have hr := (HS.some H).symm; subst hr
        refine Hid.mk ⟨_, Wk.refl _, ?_⟩
        try simp -implicitDefEqProofs +decide (maxSteps := 2000000) [-selQ_sel, hokQ_of, h_1, h_2, h_3, h_4]
    · replace H := HS.cnd_f h_2 H
      try simp -implicitDefEqProofs +decide (maxSteps := 2000000) [-selQ_sel, hokQ_of, h_1, h_2]
      have hr := (HS.some H).symm; subst hr
      refine Hid.mk ⟨_, Wk.refl _, ?_⟩
      try simp -implicitDefEqProofs +decide (maxSteps := 2000000) [-selQ_sel, hokQ_of, h_1, h_2]
  · replace H := HS.cnd_f h_1 H
    try simp -implicitDefEqProofs +decide (maxSteps := 2000000) [-selQ_sel, hokQ_of, h_1]
    have hr := (HS.some H).symm; subst hr
    refine Hid.mk ⟨_, Wk.refl _, ?_⟩
    try simp -implicitDefEqProofs +decide (maxSteps := 2000000) [-selQ_sel, hokQ_of, h_1]
theorem laws_szEngine_ok0 (hm : Try.prog.follows .mixedOrders = true) (k_laws_szScene : Sound Try.prog 22 laws_szScene_x) (k_laws_szSurface : Sound Try.prog 61 laws_szSurface_x) (k_laws_szBoxS : Sound Try.prog 52 laws_szBoxS_x) (k_laws_szIntS : Sound Try.prog 80 laws_szIntS_x) (k_laws_szCache : Sound Try.prog 12 laws_szCache_x) : Sound Try.prog 17 laws_szEngine_x := by
  refine xOf_sound fun q r h => ?_
  obtain ⟨a0, a1⟩ := q
  refine fn_ok E0 hm Try.func17 rfl (by decide +kernel) (by rfl) fun Γ hn hk => ?_
  dsimp only [laws_szEngine_e, laws_szEngine_v]
  replace hn : Γ.n = 36 := hn
  replace hk : Γ.k = 0 := hk
  have H : HS (laws_szEngine a0 a1) r := h
  clear h; unfold laws_szEngine at H
  try simp -implicitDefEqProofs at H
  refine Tr.of_vc (cl := tabC [(22, laws_szScene_x), (61, laws_szSurface_x), (52, laws_szBoxS_x), (80, laws_szIntS_x), (12, laws_szCache_x)]) (E := E0) [] (tab_cons k_laws_szScene (tab_cons k_laws_szSurface (tab_cons k_laws_szBoxS (tab_cons k_laws_szIntS (tab_cons k_laws_szCache tab_nil))))) hm (by rw [hn]; decide +kernel) ?_
  try simp -implicitDefEqProofs (maxSteps := 2000000) [-selQ_sel]
  obtain ⟨v1, h_1, H⟩ := HS.bnd H
  try simp -implicitDefEqProofs (maxSteps := 2000000) [-selQ_sel, h_1]
  refine Hid.brV (fun h_2 => ?_) (fun h_2 => ?_)
  · replace H := HS.cnd_t h_2 H
    try simp -implicitDefEqProofs (maxSteps := 2000000) [-selQ_sel, h_1, h_2]
    obtain ⟨v2, h_3, H⟩ := HS.bnd H
    try simp -implicitDefEqProofs (maxSteps := 2000000) [-selQ_sel, h_1, h_2, h_3]
    refine Hid.brV (fun h_4 => ?_) (fun h_4 => ?_)
    · replace H := HS.cnd_t h_4 H
      try simp -implicitDefEqProofs (maxSteps := 2000000) [-selQ_sel, h_1, h_2, h_3, h_4]
      obtain ⟨v3, h_5, H⟩ := HS.bnd H
      try simp -implicitDefEqProofs (maxSteps := 2000000) [-selQ_sel, h_1, h_2, h_3, h_4, h_5]
      refine Hid.brV (fun h_6 => ?_) (fun h_6 => ?_)
      · replace H := HS.cnd_t h_6 H
        try simp -implicitDefEqProofs (maxSteps := 2000000) [-selQ_sel, h_1, h_2, h_3, h_4, h_5, h_6]
        obtain ⟨v4, h_7, H⟩ := HS.bnd H
        try simp -implicitDefEqProofs (maxSteps := 2000000) [-selQ_sel, h_1, h_2, h_3, h_4, h_5, h_6, h_7]
        refine Hid.brV (fun h_8 => ?_) (fun h_8 => ?_)
        · replace H := HS.cnd_t h_8 H
          try simp -implicitDefEqProofs (maxSteps := 2000000) [-selQ_sel, h_1, h_2, h_3, h_4, h_5, h_6, h_7, h_8]
          obtain ⟨v5, h_9, H⟩ := HS.bnd H
          try simp -implicitDefEqProofs (maxSteps := 2000000) [-selQ_sel, h_1, h_2, h_3, h_4, h_5, h_6, h_7, h_8, h_9]
          refine Hid.brV (fun h_10 => ?_) (fun h_10 => ?_)
          · replace H := HS.cnd_t h_10 H
            try simp -implicitDefEqProofs (maxSteps := 2000000) [-selQ_sel, h_1, h_2, h_3, h_4, h_5, h_6, h_7, h_8, h_9, h_10]
            have hr := (HS.some H).symm; subst hr
            refine Hid.mk ⟨_, Wk.refl _, ?_⟩
            try simp -implicitDefEqProofs (maxSteps := 2000000) [-selQ_sel, h_1, h_2, h_3, h_4, h_5, h_6, h_7, h_8, h_9, h_10]
          · replace H := HS.cnd_f h_10 H
            try simp -implicitDefEqProofs (maxSteps := 2000000) [-selQ_sel, h_1, h_2, h_3, h_4, h_5, h_6, h_7, h_8, h_9, h_10]
            have hr := (HS.some H).symm; subst hr
            refine Hid.mk ⟨_, Wk.refl _, ?_⟩
            try simp -implicitDefEqProofs (maxSteps := 2000000) [-selQ_sel, h_1, h_2, h_3, h_4, h_5, h_6, h_7, h_8, h_9, h_10]
        · replace H := HS.cnd_f h_8 H
          try simp -implicitDefEqProofs (maxSteps := 2000000) [-selQ_sel, h_1, h_2, h_3, h_4, h_5, h_6, h_7, h_8]
          have hr := (HS.some H).symm; subst hr
          refine Hid.mk ⟨_, Wk.refl _, ?_⟩
          try simp -implicitDefEqProofs (maxSteps := 2000000) [-selQ_sel, h_1, h_2, h_3, h_4, h_5, h_6, h_7, h_8]
      · replace H := HS.cnd_f h_6 H
        try simp -implicitDefEqProofs (maxSteps := 2000000) [-selQ_sel, h_1, h_2, h_3, h_4, h_5, h_6]
        have hr := (HS.some H).symm; subst hr
        refine Hid.mk ⟨_, Wk.refl _, ?_⟩
        try simp -implicitDefEqProofs (maxSteps := 2000000) [-selQ_sel, h_1, h_2, h_3, h_4, h_5, h_6]
    · replace H := HS.cnd_f h_4 H
      try simp -implicitDefEqProofs (maxSteps := 2000000) [-selQ_sel, h_1, h_2, h_3, h_4]
      have hr := (HS.some H).symm; subst hr
      refine Hid.mk ⟨_, Wk.refl _, ?_⟩
      try simp -implicitDefEqProofs (maxSteps := 2000000) [-selQ_sel, h_1, h_2, h_3, h_4]
  · replace H := HS.cnd_f h_2 H
    try simp -implicitDefEqProofs (maxSteps := 2000000) [-selQ_sel, h_1, h_2]
    have hr := (HS.some H).symm; subst hr
    refine Hid.mk ⟨_, Wk.refl _, ?_⟩
    try simp -implicitDefEqProofs (maxSteps := 2000000) [-selQ_sel, h_1, h_2]
theorem laws_szKeptS_ok0 (hm : Try.prog.follows .mixedOrders = true) (k_laws_szKept : Sound Try.prog 147 laws_szKept_x) : Sound Try.prog 72 laws_szKeptS_x := by
  refine xOf_sound fun q r h => ?_
  obtain ⟨a0, a1⟩ := q
  refine fn_ok E0 hm Try.func72 rfl (by decide +kernel) (by rfl) fun Γ hn hk => ?_
  dsimp only [laws_szKeptS_e, laws_szKeptS_v]
  replace hn : Γ.n = 27 := hn
  replace hk : Γ.k = 0 := hk
  have H : HS (laws_szKeptS a0 a1) r := h
  clear h; unfold laws_szKeptS at H
  try simp -implicitDefEqProofs at H
  refine Tr.of_vc (cl := tabC [(147, laws_szKept_x)]) (E := E0) [] (tab_cons k_laws_szKept tab_nil) hm (by rw [hn]; decide +kernel) ?_
  try simp -implicitDefEqProofs (maxSteps := 2000000) [-selQ_sel]
  refine Hid.brV (fun h_1 => ?_) (fun h_1 => ?_)
  · replace H := HS.cnd_t h_1 H
    try simp -implicitDefEqProofs (maxSteps := 2000000) [-selQ_sel, h_1]
    obtain ⟨q, h_2, H⟩ := HS.bnd H
    refine Hid.mk (Tr.weak (s' := (laws_szKeptS_l0_S a0) ((IntKind.i64.wrap (a1 - (List.length a0 : Int))), 0)) (Wk.ofk [] hk (by rfl) (by simp -implicitDefEqProofs [laws_szKeptS_l0_S, h_1]) (by simp -implicitDefEqProofs [laws_szKeptS_l0_S, h_1])) ?_)
    refine wp_loop_of (S := (laws_szKeptS_l0_S a0)) (f := (laws_szKeptS_l0 a0)) (xt := (laws_szKeptS_l0_X a0)) ?_ ?_ h_2 ?_
    · intro q; rcases q with y7 | ⟨⟩ <;> simp [laws_szKeptS_l0_X]
    · clear H h_2 q
      rintro ⟨x3, x4⟩ o R hf hR
      have H : HS (laws_szKeptS_l0 a0 (x3, x4)) o := hf
      clear hf; unfold laws_szKeptS_l0 at H
      try simp -implicitDefEqProofs at H
      refine Tr.of_vc (cl := tabC [(147, laws_szKept_x)]) (E := E0) [] (tab_cons k_laws_szKept tab_nil) hm (by rw [hn]; decide +kernel) ?_
      try simp -implicitDefEqProofs (maxSteps := 2000000) [-selQ_sel, laws_szKeptS_l0_S]
      refine Hid.brV (fun h_3 => ?_) (fun h_3 => ?_)
      · replace H := HS.cnd_t h_3 H
        try simp -implicitDefEqProofs (maxSteps := 2000000) [-selQ_sel, h_3]
        have hr := (HS.some H).symm; subst hr
        exact Hid.mk ⟨(laws_szKeptS_l0_X a0 (.inl x3)).2, Wk.ofk [] hk (by rfl) (by simp -implicitDefEqProofs [laws_szKeptS_l0_X, h_3]) (by simp -implicitDefEqProofs [laws_szKeptS_l0_X, h_3]), hR⟩
      · replace H := HS.cnd_f h_3 H
        try simp -implicitDefEqProofs (maxSteps := 2000000) [-selQ_sel, h_3]
        obtain ⟨v5, h_4, H⟩ := HS.bnd H
        try simp -implicitDefEqProofs (maxSteps := 2000000) [-selQ_sel, h_3, h_4]
        obtain ⟨v6, h_5, H⟩ := HS.bnd H
        try simp -implicitDefEqProofs (maxSteps := 2000000) [-selQ_sel, h_3, h_4, h_5]
        refine Hid.brV (fun h_6 => ?_) (fun h_6 => ?_)
        · replace H := HS.cnd_t h_6 H
          try simp -implicitDefEqProofs (maxSteps := 2000000) [-selQ_sel, h_3, h_4, h_5, h_6]
          have hr := (HS.some H).symm; subst hr
          exact Hid.mk ⟨laws_szKeptS_l0_S a0 (v6, (IntKind.i64.wrap (x4 + 1))), Wk.ofk [] hk (by rfl) (by simp -implicitDefEqProofs [laws_szKeptS_l0_S, h_3, h_4, h_5, h_6]) (by simp -implicitDefEqProofs [laws_szKeptS_l0_S, h_3, h_4, h_5, h_6]), hR⟩
        · replace H := HS.cnd_f h_6 H
          try simp -implicitDefEqProofs (maxSteps := 2000000) [-selQ_sel, h_3, h_4, h_5, h_6]
          have hr := (HS.some H).symm; subst hr
          exact Hid.mk ⟨(laws_szKeptS_l0_X a0 (.inr ())).2, Wk.ofk [] hk (by rfl) (by simp -implicitDefEqProofs [laws_szKeptS_l0_X, h_3, h_4, h_5, h_6]) (by simp -implicitDefEqProofs [laws_szKeptS_l0_X, h_3, h_4, h_5, h_6]), hR⟩
    · rcases q with y7 | ⟨⟩
      · dsimp only at H
        try simp -implicitDefEqProofs (maxSteps := 2000000) [-selQ_sel, h_1, laws_szKeptS_l0_X]
        have hr := (HS.some H).symm; subst hr
        refine Hid.mk ⟨_, Wk.refl _, ?_⟩
        try simp -implicitDefEqProofs (maxSteps := 2000000) [-selQ_sel, h_1]
      · dsimp only at H
        try simp -implicitDefEqProofs (maxSteps := 2000000) [-selQ_sel, h_1, laws_szKeptS_l0_X]
        have hr := (HS.some H).symm; subst hr
        refine Hid.mk ⟨_, Wk.refl _, ?_⟩
        try simp -implicitDefEqProofs (maxSteps := 2000000) [-selQ_sel, h_1]
  · replace H := HS.cnd_f h_1 H
    try simp -implicitDefEqProofs (maxSteps := 2000000) [-selQ_sel, h_1]
    have hr := (HS.some H).symm; subst hr
    refine Hid.mk ⟨_, Wk.refl _, ?_⟩
    try simp -implicitDefEqProofs (maxSteps := 2000000) [-selQ_sel, h_1]
theorem laws_toBoxS_ok0 (hm : Try.prog.follows .mixedOrders = true) (k_laws_toBox : Sound Try.prog 137 laws_toBox_x) : Sound Try.prog 54 laws_toBoxS_x := by
  refine xOf_sound fun q r h => ?_
  revert h; revert r; revert q; intro a0 r h
  refine fn_ok E0 hm Try.func54 rfl (by decide +kernel) (by rfl) fun Γ hn hk => ?_
  dsimp only [laws_toBoxS_e, laws_toBoxS_v]
  replace hn : Γ.n = 23 := hn
  replace hk : Γ.k = 0 := hk
  have H : HS (laws_toBoxS a0) r := h
  clear h; unfold laws_toBoxS at H
  try simp -implicitDefEqProofs at H
  refine Tr.of_vc (cl := tabC [(137, laws_toBox_x)]) (E := E0) [] (tab_cons k_laws_toBox tab_nil) hm (by rw [hn]; decide +kernel) ?_
  try simp -implicitDefEqProofs (maxSteps := 2000000) [-selQ_sel]
  obtain ⟨h_1, H⟩ := HS.chkP H
  try simp -implicitDefEqProofs (maxSteps := 2000000) [-selQ_sel, h_1]
  obtain ⟨l1, h_2, H⟩ := HS.nam H
  have m_3 := congrArg (List.map eBox) h_2
  have q_4 := congrArg List.length h_2
  simp -implicitDefEqProofs at m_3 q_4
  try simp only [q_4] at m_3
  try simp only [q_4] at h_1
  try simp -implicitDefEqProofs (maxSteps := 2000000) [-selQ_sel, h_1, m_3, q_4]
  obtain ⟨q, h_5, H⟩ := HS.bnd H
  refine Hid.mk (Tr.weak (s' := (laws_toBoxS_l0_S a0) (0, l1)) (Wk.ofk [0] hk (by rfl) (by simp -implicitDefEqProofs [laws_toBoxS_l0_S, h_1, m_3, q_4]) (by simp -implicitDefEqProofs [laws_toBoxS_l0_S, h_1, m_3, q_4])) ?_)
  refine wp_loop_of (S := (laws_toBoxS_l0_S a0)) (f := (laws_toBoxS_l0 a0)) (xt := (laws_toBoxS_l0_X a0)) ?_ ?_ h_5 ?_
  · intro q; simp [laws_toBoxS_l0_X]
  · clear H h_5 q
    rintro ⟨x6, x7⟩ o R hf hR
    have H : HS (laws_toBoxS_l0 a0 (x6, x7)) o := hf
    clear hf; unfold laws_toBoxS_l0 at H
    try simp -implicitDefEqProofs at H
    refine Tr.of_vc (cl := tabC [(137, laws_toBox_x)]) (E := E0) [] (tab_cons k_laws_toBox tab_nil) hm (by rw [hn]; decide +kernel) ?_
    try simp -implicitDefEqProofs (maxSteps := 2000000) [-selQ_sel, laws_toBoxS_l0_S]
    refine Hid.brV (fun h_6 => ?_) (fun h_6 => ?_)
    · replace H := HS.cnd_t h_6 H
      try simp -implicitDefEqProofs (maxSteps := 2000000) [-selQ_sel, h_6]
      have hr := (HS.some H).symm; subst hr
      exact Hid.mk ⟨(laws_toBoxS_l0_X a0 x7).2, Wk.ofk [0] hk (by rfl) (by simp -implicitDefEqProofs [laws_toBoxS_l0_X, h_6]) (by simp -implicitDefEqProofs [laws_toBoxS_l0_X, h_6]), hR⟩
    · replace H := HS.cnd_f h_6 H
      try simp -implicitDefEqProofs (maxSteps := 2000000) [-selQ_sel, h_6]
      obtain ⟨v8, h_7, H⟩ := HS.bnd H
      try simp -implicitDefEqProofs (maxSteps := 2000000) [-selQ_sel, h_6, h_7]
      obtain ⟨v9, h_8, H⟩ := HS.bnd H
      try simp -implicitDefEqProofs (maxSteps := 2000000) [-selQ_sel, h_6, h_7, h_8]
      obtain ⟨v10, h_9, H⟩ := HS.bnd H
      have g_10 := idx_get h_9
      try simp -implicitDefEqProofs (maxSteps := 2000000) [-selQ_sel, h_6, h_7, h_8, h_9, g_10]
      obtain ⟨l11, h_11, H⟩ := HS.nam H
      have m_12 := congrArg (List.map eBox) h_11
      have q_13 := congrArg List.length h_11
      simp -implicitDefEqProofs at m_12 q_13
      try simp only [q_13] at m_12
      try simp only [q_13] at g_10
      try simp -implicitDefEqProofs (maxSteps := 2000000) [-selQ_sel, h_6, h_7, h_8, h_9, g_10, m_12, q_13]
      have hr := (HS.some H).symm; subst hr
      exact Hid.mk ⟨laws_toBoxS_l0_S a0 ((IntKind.i64.wrap (x6 + 1)), l11), Wk.ofk [0] hk (by rfl) (by simp -implicitDefEqProofs [laws_toBoxS_l0_S, h_6, h_7, h_8, h_9, g_10, m_12, q_13]) (by simp -implicitDefEqProofs [laws_toBoxS_l0_S, h_6, h_7, h_8, h_9, g_10, m_12, q_13]), hR⟩
  · revert H h_5; revert q; intro y12 h_5 H
    try dsimp only at H
    try simp -implicitDefEqProofs (maxSteps := 2000000) [-selQ_sel, h_1, m_3, q_4, laws_toBoxS_l0_X]
    have hr := (HS.some H).symm; subst hr
    refine Hid.mk ⟨⟨[(2, AV.osl 0 0 (List.length y12) (List.length y12))], [(0, Ob.arr 4 (List.map eBox y12) false)], 1⟩, Wk.ofk [0] hk (by rfl) (by simp -implicitDefEqProofs [h_1, m_3, q_4]) (by simp -implicitDefEqProofs [h_1, m_3, q_4]), ?_⟩
    try simp -implicitDefEqProofs (maxSteps := 2000000) [-selQ_sel, h_1, m_3, q_4]
theorem laws_toNodeS_ok0 (hm : Try.prog.follows .mixedOrders = true) (k_laws_toNode : Sound Try.prog 163 laws_toNode_x) : Sound Try.prog 96 laws_toNodeS_x := by
  refine xOf_sound fun q r h => ?_
  revert h; revert r; revert q; intro a0 r h
  refine fn_ok E0 hm Try.func96 rfl (by decide +kernel) (by rfl) fun Γ hn hk => ?_
  dsimp only [laws_toNodeS_e, laws_toNodeS_v]
  replace hn : Γ.n = 23 := hn
  replace hk : Γ.k = 0 := hk
  have H : HS (laws_toNodeS a0) r := h
  clear h; unfold laws_toNodeS at H
  try simp -implicitDefEqProofs at H
  refine Tr.of_vc (cl := tabC [(163, laws_toNode_x)]) (E := E0) [] (tab_cons k_laws_toNode tab_nil) hm (by rw [hn]; decide +kernel) ?_
  try simp -implicitDefEqProofs (maxSteps := 2000000) [-selQ_sel]
  obtain ⟨h_1, H⟩ := HS.chkP H
  try simp -implicitDefEqProofs (maxSteps := 2000000) [-selQ_sel, h_1]
  obtain ⟨l1, h_2, H⟩ := HS.nam H
  have m_3 := congrArg (List.map eNode) h_2
  have q_4 := congrArg List.length h_2
  simp -implicitDefEqProofs at m_3 q_4
  try simp only [q_4] at m_3
  try simp only [q_4] at h_1
  try simp -implicitDefEqProofs (maxSteps := 2000000) [-selQ_sel, h_1, m_3, q_4]
  obtain ⟨q, h_5, H⟩ := HS.bnd H
  refine Hid.mk (Tr.weak (s' := (laws_toNodeS_l0_S a0) (0, l1)) (Wk.ofk [0] hk (by rfl) (by simp -implicitDefEqProofs [laws_toNodeS_l0_S, h_1, m_3, q_4]) (by simp -implicitDefEqProofs [laws_toNodeS_l0_S, h_1, m_3, q_4])) ?_)
  refine wp_loop_of (S := (laws_toNodeS_l0_S a0)) (f := (laws_toNodeS_l0 a0)) (xt := (laws_toNodeS_l0_X a0)) ?_ ?_ h_5 ?_
  · intro q; simp [laws_toNodeS_l0_X]
  · clear H h_5 q
    rintro ⟨x6, x7⟩ o R hf hR
    have H : HS (laws_toNodeS_l0 a0 (x6, x7)) o := hf
    clear hf; unfold laws_toNodeS_l0 at H
    try simp -implicitDefEqProofs at H
    refine Tr.of_vc (cl := tabC [(163, laws_toNode_x)]) (E := E0) [] (tab_cons k_laws_toNode tab_nil) hm (by rw [hn]; decide +kernel) ?_
    try simp -implicitDefEqProofs (maxSteps := 2000000) [-selQ_sel, laws_toNodeS_l0_S]
    refine Hid.brV (fun h_6 => ?_) (fun h_6 => ?_)
    · replace H := HS.cnd_t h_6 H
      try simp -implicitDefEqProofs (maxSteps := 2000000) [-selQ_sel, h_6]
      have hr := (HS.some H).symm; subst hr
      exact Hid.mk ⟨(laws_toNodeS_l0_X a0 x7).2, Wk.ofk [0] hk (by rfl) (by simp -implicitDefEqProofs [laws_toNodeS_l0_X, h_6]) (by simp -implicitDefEqProofs [laws_toNodeS_l0_X, h_6]), hR⟩
    · replace H := HS.cnd_f h_6 H
      try simp -implicitDefEqProofs (maxSteps := 2000000) [-selQ_sel, h_6]
      obtain ⟨v8, h_7, H⟩ := HS.bnd H
      try simp -implicitDefEqProofs (maxSteps := 2000000) [-selQ_sel, h_6, h_7]
      obtain ⟨v9, h_8, H⟩ := HS.bnd H
      try simp -implicitDefEqProofs (maxSteps := 2000000) [-selQ_sel, h_6, h_7, h_8]
      obtain ⟨v10, h_9, H⟩ := HS.bnd H
      have g_10 := idx_get h_9
      try simp -implicitDefEqProofs (maxSteps := 2000000) [-selQ_sel, h_6, h_7, h_8, h_9, g_10]
      obtain ⟨l11, h_11, H⟩ := HS.nam H
      have m_12 := congrArg (List.map eNode) h_11
      have q_13 := congrArg List.length h_11
      simp -implicitDefEqProofs at m_12 q_13
      try simp only [q_13] at m_12
      try simp only [q_13] at g_10
      try simp -implicitDefEqProofs (maxSteps := 2000000) [-selQ_sel, h_6, h_7, h_8, h_9, g_10, m_12, q_13]
      have hr := (HS.some H).symm; subst hr
      exact Hid.mk ⟨laws_toNodeS_l0_S a0 ((IntKind.i64.wrap (x6 + 1)), l11), Wk.ofk [0] hk (by rfl) (by simp -implicitDefEqProofs [laws_toNodeS_l0_S, h_6, h_7, h_8, h_9, g_10, m_12, q_13]) (by simp -implicitDefEqProofs [laws_toNodeS_l0_S, h_6, h_7, h_8, h_9, g_10, m_12, q_13]), hR⟩
  · revert H h_5; revert q; intro y12 h_5 H
    try dsimp only at H
    try simp -implicitDefEqProofs (maxSteps := 2000000) [-selQ_sel, h_1, m_3, q_4, laws_toNodeS_l0_X]
    have hr := (HS.some H).symm; subst hr
    refine Hid.mk ⟨_, Wk.refl _, ?_⟩
    try simp -implicitDefEqProofs (maxSteps := 2000000) [-selQ_sel, h_1, m_3, q_4]
theorem laws_eqMat_ok0 (hm : Try.prog.follows .mixedOrders = true) : Sound Try.prog 26 laws_eqMat_x := by
  refine xOf_sound fun q r h => ?_
  obtain ⟨a0, a1⟩ := q
  refine fn_ok E0 hm Try.func26 rfl (by decide +kernel) (by rfl) fun Γ hn hk => ?_
  dsimp only [laws_eqMat_e, laws_eqMat_v]
  replace hn : Γ.n = 35 := hn
  replace hk : Γ.k = 0 := hk
  have H : HS (laws_eqMat a0 a1) r := h
  clear h; unfold laws_eqMat at H
  try simp -implicitDefEqProofs at H
  refine Tr.of_vc (cl := tabC []) (E := E0) [] tab_nil hm (by rw [hn]; decide +kernel) ?_
  try simp -implicitDefEqProofs (maxSteps := 2000000) [-selQ_sel]
  refine Hid.brV (fun h_1 => ?_) (fun h_1 => ?_)
  · replace H := HS.cnd_t h_1 H
    try simp -implicitDefEqProofs (maxSteps := 2000000) [-selQ_sel, h_1]
    refine Hid.brV (fun h_2 => ?_) (fun h_2 => ?_)
    · replace H := HS.cnd_t h_2 H
      try simp -implicitDefEqProofs (maxSteps := 2000000) [-selQ_sel, h_1, h_2]
      refine Hid.brV (fun h_3 => ?_) (fun h_3 => ?_)
      · replace H := HS.cnd_t h_3 H
        try simp -implicitDefEqProofs (maxSteps := 2000000) [-selQ_sel, h_1, h_2, h_3]
        refine Hid.brV (fun h_4 => ?_) (fun h_4 => ?_)
        · replace H := HS.cnd_t h_4 H
          try simp -implicitDefEqProofs (maxSteps := 2000000) [-selQ_sel, h_1, h_2, h_3, h_4]
          refine Hid.brV (fun h_5 => ?_) (fun h_5 => ?_)
          · replace H := HS.cnd_t h_5 H
            try simp -implicitDefEqProofs (maxSteps := 2000000) [-selQ_sel, h_1, h_2, h_3, h_4, h_5]
            refine Hid.brV (fun h_6 => ?_) (fun h_6 => ?_)
            · replace H := HS.cnd_t h_6 H
              try simp -implicitDefEqProofs (maxSteps := 2000000) [-selQ_sel, h_1, h_2, h_3, h_4, h_5, h_6]
              have hr := (HS.some H).symm; subst hr
              refine Hid.mk ⟨_, Wk.refl _, ?_⟩
              try simp -implicitDefEqProofs (maxSteps := 2000000) [-selQ_sel, h_1, h_2, h_3, h_4, h_5, h_6]
            · replace H := HS.cnd_f h_6 H
              try simp -implicitDefEqProofs (maxSteps := 2000000) [-selQ_sel, h_1, h_2, h_3, h_4, h_5, h_6]
              have hr := (HS.some H).symm; subst hr
              refine Hid.mk ⟨_, Wk.refl _, ?_⟩
              try simp -implicitDefEqProofs (maxSteps := 2000000) [-selQ_sel, h_1, h_2, h_3, h_4, h_5, h_6]
          · replace H := HS.cnd_f h_5 H
            try simp -implicitDefEqProofs (maxSteps := 2000000) [-selQ_sel, h_1, h_2, h_3, h_4, h_5]
            have hr := (HS.some H).symm; subst hr
            refine Hid.mk ⟨_, Wk.refl _, ?_⟩
            try simp -implicitDefEqProofs (maxSteps := 2000000) [-selQ_sel, h_1, h_2, h_3, h_4, h_5]
        · replace H := HS.cnd_f h_4 H
          try simp -implicitDefEqProofs (maxSteps := 2000000) [-selQ_sel, h_1, h_2, h_3, h_4]
          have hr := (HS.some H).symm; subst hr
          refine Hid.mk ⟨_, Wk.refl _, ?_⟩
          try simp -implicitDefEqProofs (maxSteps := 2000000) [-selQ_sel, h_1, h_2, h_3, h_4]
      · replace H := HS.cnd_f h_3 H
        try simp -implicitDefEqProofs (maxSteps := 2000000) [-selQ_sel, h_1, h_2, h_3]
        have hr := (HS.some H).symm; subst hr
        refine Hid.mk ⟨_, Wk.refl _, ?_⟩
        try simp -implicitDefEqProofs (maxSteps := 2000000) [-selQ_sel, h_1, h_2, h_3]
    · replace H := HS.cnd_f h_2 H
      try simp -implicitDefEqProofs (maxSteps := 2000000) [-selQ_sel, h_1, h_2]
      have hr := (HS.some H).symm; subst hr
      refine Hid.mk ⟨_, Wk.refl _, ?_⟩
      try simp -implicitDefEqProofs (maxSteps := 2000000) [-selQ_sel, h_1, h_2]
  · replace H := HS.cnd_f h_1 H
    try simp -implicitDefEqProofs (maxSteps := 2000000) [-selQ_sel, h_1]
    have hr := (HS.some H).symm; subst hr
    refine Hid.mk ⟨_, Wk.refl _, ?_⟩
    try simp -implicitDefEqProofs (maxSteps := 2000000) [-selQ_sel, h_1]
theorem laws_szNode_ok0 (hm : Try.prog.follows .mixedOrders = true) (k_laws_szPath : Sound Try.prog 203 laws_szPath_x) (k_laws_szIntS : Sound Try.prog 80 laws_szIntS_x) : Sound Try.prog 159 laws_szNode_x := by
  refine xOf_sound fun q r h => ?_
  obtain ⟨a0, a1⟩ := q
  refine fn_ok E0 hm Try.func159 rfl (by decide +kernel) (by rfl) fun Γ hn hk => ?_
  dsimp only [laws_szNode_e, laws_szNode_v]
  replace hn : Γ.n = 24 := hn
  replace hk : Γ.k = 0 := hk
  have H : HS (laws_szNode a0 a1) r := h
  clear h; unfold laws_szNode at H
  try simp -implicitDefEqProofs at H
  refine Tr.of_vc (cl := tabC [(203, laws_szPath_x), (80, laws_szIntS_x)]) (E := E0) [] (tab_cons k_laws_szPath (tab_cons k_laws_szIntS tab_nil)) hm (by rw [hn]; decide +kernel) ?_
  try simp -implicitDefEqProofs (maxSteps := 2000000) [-selQ_sel]
  obtain ⟨v1, h_1, H⟩ := HS.bnd H
  try simp -implicitDefEqProofs (maxSteps := 2000000) [-selQ_sel, h_1]
  refine Hid.brV (fun h_2 => ?_) (fun h_2 => ?_)
  · replace H := HS.cnd_t h_2 H
    try simp -implicitDefEqProofs (maxSteps := 2000000) [-selQ_sel, h_1, h_2]
    obtain ⟨v2, h_3, H⟩ := HS.bnd H
    try simp -implicitDefEqProofs (maxSteps := 2000000) [-selQ_sel, h_1, h_2, h_3]
    refine Hid.brV (fun h_4 => ?_) (fun h_4 => ?_)
    · replace H := HS.cnd_t h_4 H
      try simp -implicitDefEqProofs (maxSteps := 2000000) [-selQ_sel, h_1, h_2, h_3, h_4]
      obtain ⟨v3, h_5, H⟩ := HS.bnd H
      try simp -implicitDefEqProofs (maxSteps := 2000000) [-selQ_sel, h_1, h_2, h_3, h_4, h_5]
      refine Hid.brV (fun h_6 => ?_) (fun h_6 => ?_)
      · replace H := HS.cnd_t h_6 H
        try simp -implicitDefEqProofs (maxSteps := 2000000) [-selQ_sel, h_1, h_2, h_3, h_4, h_5, h_6]
        have hr := (HS.some H).symm; subst hr
        refine Hid.mk ⟨_, Wk.refl _, ?_⟩
        try simp -implicitDefEqProofs (maxSteps := 2000000) [-selQ_sel, h_1, h_2, h_3, h_4, h_5, h_6]
      · replace H := HS.cnd_f h_6 H
        try simp -implicitDefEqProofs (maxSteps := 2000000) [-selQ_sel, h_1, h_2, h_3, h_4, h_5, h_6]
        have hr := (HS.some H).symm; subst hr
        refine Hid.mk ⟨_, Wk.refl _, ?_⟩
        try simp -implicitDefEqProofs (maxSteps := 2000000) [-selQ_sel, h_1, h_2, h_3, h_4, h_5, h_6]
    · replace H := HS.cnd_f h_4 H
      try simp -implicitDefEqProofs (maxSteps := 2000000) [-selQ_sel, h_1, h_2, h_3, h_4]
      have hr := (HS.some H).symm; subst hr
      refine Hid.mk ⟨_, Wk.refl _, ?_⟩
      try simp -implicitDefEqProofs (maxSteps := 2000000) [-selQ_sel, h_1, h_2, h_3, h_4]
  · replace H := HS.cnd_f h_2 H
    try simp -implicitDefEqProofs (maxSteps := 2000000) [-selQ_sel, h_1, h_2]
    have hr := (HS.some H).symm; subst hr
    refine Hid.mk ⟨_, Wk.refl _, ?_⟩
    try simp -implicitDefEqProofs (maxSteps := 2000000) [-selQ_sel, h_1, h_2]
theorem impl_TileBox_ok0 (hm : Try.prog.follows .mixedOrders = true) (k_impl_TileCount : Sound Try.prog 138 impl_TileCount_x) (k_impl_inRange : Sound Try.prog 76 impl_inRange_x) (k_impl_tilesAlong : Sound Try.prog 156 impl_tilesAlong_x) (k_impl_MeetBox : Sound Try.prog 157 impl_MeetBox_x) : Sound Try.prog 88 impl_TileBox_x := by
  refine xOf_sound fun q r h => ?_
  obtain ⟨a0, a1, a2⟩ := q
  refine fn_ok E0 hm Try.func88 rfl (by decide +kernel) (by rfl) fun Γ hn hk => ?_
  dsimp only [impl_TileBox_e, impl_TileBox_v]
  replace hn : Γ.n = 38 := hn
  replace hk : Γ.k = 0 := hk
  have H : HS (impl_TileBox a0 a1 a2) r := h
  clear h; unfold impl_TileBox at H
  try simp -implicitDefEqProofs at H
  refine Tr.of_vc (cl := tabC [(138, impl_TileCount_x), (76, impl_inRange_x), (156, impl_tilesAlong_x), (157, impl_MeetBox_x)]) (E := E0) [] (tab_cons k_impl_TileCount (tab_cons k_impl_inRange (tab_cons k_impl_tilesAlong (tab_cons k_impl_MeetBox tab_nil)))) hm (by rw [hn]; decide +kernel) ?_
  try simp -implicitDefEqProofs +decide (maxSteps := 2000000) [-selQ_sel, hokQ_of]
  obtain ⟨v1, h_1, H⟩ := HS.bnd H
  try simp -implicitDefEqProofs +decide (maxSteps := 2000000) [-selQ_sel, hokQ_of, h_1]
  obtain ⟨v2, h_2, H⟩ := HS.bnd H
  try simp -implicitDefEqProofs +decide (maxSteps := 2000000) [-selQ_sel, hokQ_of, h_1, h_2]
  refine Hid.brV (fun h_3 => ?_) (fun h_3 => ?_)
  · replace H := HS.cnd_t h_3 H
    try simp -implicitDefEqProofs +decide (maxSteps := 2000000) [-selQ_sel, hokQ_of, h_1, h_2, h_3]
    obtain ⟨v3, h_4, H⟩ := HS.bnd H
    try simp -implicitDefEqProofs +decide (maxSteps := 2000000) [-selQ_sel, hokQ_of, h_1, h_2, h_3, h_4]
    obtain ⟨h_5, H⟩ := HS.chkP H
    try simp -implicitDefEqProofs +decide (maxSteps := 2000000) [-selQ_sel, hokQ_of, h_1, h_2, h_3, h_4, h_5]
    obtain ⟨v4, h_6, H⟩ := HS.bnd H
    try simp -implicitDefEqProofs +decide (maxSteps := 2000000) [-selQ_sel, hokQ_of, h_1, h_2, h_3, h_4, h_5, h_6]
    have hr := (HS.some H).symm; subst hr
    refine Hid.mk ⟨_, Wk.refl _, ?_⟩
    try simp -implicitDefEqProofs +decide (maxSteps := 2000000) [-selQ_sel, hokQ_of, h_1, h_2, h_3, h_4, h_5, h_6]
  · replace H := HS.cnd_f h_3 H
    try simp -implicitDefEqProofs +decide (maxSteps := 2000000) [-selQ_sel, hokQ_of, h_1, h_2, h_3]
    have hr := (HS.some H).symm; subst hr
    refine Hid.mk ⟨_, Wk.refl _, ?_⟩
    try simp -implicitDefEqProofs +decide (maxSteps := 2000000) [-selQ_sel, hokQ_of, h_1, h_2, h_3]
theorem impl_LaidOk_ok0 (hm : Try.prog.follows .mixedOrders = true) (k_impl_ColorOk : Sound Try.prog 180 impl_ColorOk_x) : Sound Try.prog 112 impl_LaidOk_x := by
  refine xOf_sound fun q r h => ?_
  revert h; revert r; revert q; intro a0 r h
  refine fn_ok E0 hm Try.func112 rfl (by decide +kernel) (by rfl) fun Γ hn hk => ?_
  dsimp only [impl_LaidOk_e, impl_LaidOk_v]
  replace hn : Γ.n = 26 := hn
  replace hk : Γ.k = 0 := hk
  have H : HS (impl_LaidOk a0) r := h
  clear h; unfold impl_LaidOk at H
  try simp -implicitDefEqProofs at H
  refine Tr.of_vc (cl := tabC [(180, impl_ColorOk_x)]) (E := E0) [] (tab_cons k_impl_ColorOk tab_nil) hm (by rw [hn]; decide +kernel) ?_
  try simp -implicitDefEqProofs (maxSteps := 2000000) [-selQ_sel]
  obtain ⟨v1, h_1, H⟩ := HS.bnd H
  try simp -implicitDefEqProofs (maxSteps := 2000000) [-selQ_sel, h_1]
  refine Hid.selQ (fun h_2 => ?_) (fun h_2 => ?_)
  · replace H := HS.cnd_t h_2 H
    try simp -implicitDefEqProofs (maxSteps := 2000000) [-selQ_sel, h_1, h_2]
    refine Hid.selQ (fun h_3 => ?_) (fun h_3 => ?_)
    · replace H := HS.cnd_t h_3 H
      try simp -implicitDefEqProofs (maxSteps := 2000000) [-selQ_sel, h_1, h_2, h_3]
      refine Hid.selQ (fun h_4 => ?_) (fun h_4 => ?_)
      · replace H := HS.cnd_t h_4 H
        try simp -implicitDefEqProofs (maxSteps := 2000000) [-selQ_sel, h_1, h_2, h_3, h_4]
        have hr := (HS.some H).symm; subst hr
        refine Hid.mk ⟨_, Wk.refl _, ?_⟩
        try simp -implicitDefEqProofs (maxSteps := 2000000) [-selQ_sel, h_1, h_2, h_3, h_4]
      · replace H := HS.cnd_f h_4 H
        try simp -implicitDefEqProofs (maxSteps := 2000000) [-selQ_sel, h_1, h_2, h_3, h_4]
        have hr := (HS.some H).symm; subst hr
        refine Hid.mk ⟨_, Wk.refl _, ?_⟩
        try simp -implicitDefEqProofs (maxSteps := 2000000) [-selQ_sel, h_1, h_2, h_3, h_4]
    · replace H := HS.cnd_f h_3 H
      try simp -implicitDefEqProofs (maxSteps := 2000000) [-selQ_sel, h_1, h_2, h_3]
      have hr := (HS.some H).symm; subst hr
      refine Hid.mk ⟨_, Wk.refl _, ?_⟩
      try simp -implicitDefEqProofs (maxSteps := 2000000) [-selQ_sel, h_1, h_2, h_3]
  · replace H := HS.cnd_f h_2 H
    try simp -implicitDefEqProofs (maxSteps := 2000000) [-selQ_sel, h_1, h_2]
    have hr := (HS.some H).symm; subst hr
    refine Hid.mk ⟨_, Wk.refl _, ?_⟩
    try simp -implicitDefEqProofs (maxSteps := 2000000) [-selQ_sel, h_1, h_2]
theorem laws_szPath_ok0 (hm : Try.prog.follows .mixedOrders = true) (k_laws_szIntS : Sound Try.prog 80 laws_szIntS_x) (k_laws_szPointS : Sound Try.prog 235 laws_szPointS_x) : Sound Try.prog 203 laws_szPath_x := by
  refine xOf_sound fun q r h => ?_
  obtain ⟨a0, a1⟩ := q
  refine fn_ok E0 hm Try.func203 rfl (by decide +kernel) (by rfl) fun Γ hn hk => ?_
  dsimp only [laws_szPath_e, laws_szPath_v]
  replace hn : Γ.n = 18 := hn
  replace hk : Γ.k = 0 := hk
  have H : HS (laws_szPath a0 a1) r := h
  clear h; unfold laws_szPath at H
  try simp -implicitDefEqProofs at H
  refine Tr.of_vc (cl := tabC [(80, laws_szIntS_x), (235, laws_szPointS_x)]) (E := E0) [] (tab_cons k_laws_szIntS (tab_cons k_laws_szPointS tab_nil)) hm (by rw [hn]; decide +kernel) ?_
  try simp -implicitDefEqProofs (maxSteps := 2000000) [-selQ_sel]
  obtain ⟨v1, h_1, H⟩ := HS.bnd H
  try simp -implicitDefEqProofs (maxSteps := 2000000) [-selQ_sel, h_1]
  refine Hid.brV (fun h_2 => ?_) (fun h_2 => ?_)
  · replace H := HS.cnd_t h_2 H
    try simp -implicitDefEqProofs (maxSteps := 2000000) [-selQ_sel, h_1, h_2]
    obtain ⟨v2, h_3, H⟩ := HS.bnd H
    try simp -implicitDefEqProofs (maxSteps := 2000000) [-selQ_sel, h_1, h_2, h_3]
    refine Hid.brV (fun h_4 => ?_) (fun h_4 => ?_)
    · replace H := HS.cnd_t h_4 H
      try simp -implicitDefEqProofs (maxSteps := 2000000) [-selQ_sel, h_1, h_2, h_3, h_4]
      have hr := (HS.some H).symm; subst hr
      refine Hid.mk ⟨_, Wk.refl _, ?_⟩
      try simp -implicitDefEqProofs (maxSteps := 2000000) [-selQ_sel, h_1, h_2, h_3, h_4]
    · replace H := HS.cnd_f h_4 H
      try simp -implicitDefEqProofs (maxSteps := 2000000) [-selQ_sel, h_1, h_2, h_3, h_4]
      have hr := (HS.some H).symm; subst hr
      refine Hid.mk ⟨_, Wk.refl _, ?_⟩
      try simp -implicitDefEqProofs (maxSteps := 2000000) [-selQ_sel, h_1, h_2, h_3, h_4]
  · replace H := HS.cnd_f h_2 H
    try simp -implicitDefEqProofs (maxSteps := 2000000) [-selQ_sel, h_1, h_2]
    have hr := (HS.some H).symm; subst hr
    refine Hid.mk ⟨_, Wk.refl _, ?_⟩
    try simp -implicitDefEqProofs (maxSteps := 2000000) [-selQ_sel, h_1, h_2]
theorem spec_TileCount_ok0 (hm : Try.prog.follows .mixedOrders = true) (k_spec_l01In : Sound Try.prog 73 spec_l01In_x) : Sound Try.prog 81 spec_TileCount_x := by
  refine xOf_sound fun q r h => ?_
  obtain ⟨a0, a1⟩ := q
  refine fn_ok E0 hm Try.func81 rfl (by decide +kernel) (by rfl) fun Γ hn hk => ?_
  dsimp only [spec_TileCount_e, spec_TileCount_v]
  replace hn : Γ.n = 20 := hn
  replace hk : Γ.k = 0 := hk
  have H : HS (spec_TileCount a0 a1) r := h
  clear h; unfold spec_TileCount at H
  try simp -implicitDefEqProofs at H
  refine Tr.of_vc (cl := tabC [(73, spec_l01In_x)]) (E := E0) [] (tab_cons k_spec_l01In tab_nil) hm (by rw [hn]; decide +kernel) ?_
  try simp -implicitDefEqProofs (maxSteps := 2000000) [-selQ_sel]
  obtain ⟨v1, h_1, H⟩ := HS.bnd H
  try simp -implicitDefEqProofs (maxSteps := 2000000) [-selQ_sel, h_1]
  refine Hid.selQ (fun h_2 => ?_) (fun h_2 => ?_)
  · replace H := HS.cnd_t h_2 H
    try simp -implicitDefEqProofs (maxSteps := 2000000) [-selQ_sel, h_1, h_2]
    obtain ⟨v2, h_3, H⟩ := HS.bnd H
    try simp -implicitDefEqProofs (maxSteps := 2000000) [-selQ_sel, h_1, h_2, h_3]
    refine Hid.brV (fun h_4 => ?_) (fun h_4 => ?_)
    · replace H := HS.cnd_t h_4 H
      try simp -implicitDefEqProofs (maxSteps := 2000000) [-selQ_sel, h_1, h_2, h_3, h_4]
      have hr := (HS.some H).symm; subst hr
      refine Hid.mk ⟨_, Wk.refl _, ?_⟩
      try simp -implicitDefEqProofs (maxSteps := 2000000) [-selQ_sel, h_1, h_2, h_3, h_4]
    · replace H := HS.cnd_f h_4 H
      try simp -implicitDefEqProofs (maxSteps := 2000000) [-selQ_sel, h_1, h_2, h_3, h_4]
      have hr := (HS.some H).symm; subst hr
      refine Hid.mk ⟨_, Wk.refl _, ?_⟩
      try simp -implicitDefEqProofs (maxSteps := 2000000) [-selQ_sel, h_1, h_2, h_3, h_4]
  · replace H := HS.cnd_f h_2 H
    try simp -implicitDefEqProofs (maxSteps := 2000000) [-selQ_sel, h_1, h_2]
    have hr := (HS.some H).symm; subst hr
    refine Hid.mk ⟨_, Wk.refl _, ?_⟩
    try simp -implicitDefEqProofs (maxSteps := 2000000) [-selQ_sel, h_1, h_2]
theorem laws_eqCache_ok0 (hm : Try.prog.follows .mixedOrders = true) (k_laws_eqKeptS : Sound Try.prog 79 laws_eqKeptS_x) : Sound Try.prog 16 laws_eqCache_x := by
  refine xOf_sound fun q r h => ?_
  obtain ⟨a0, a1⟩ := q
  refine fn_ok E0 hm Try.func16 rfl (by decide +kernel) (by rfl) fun Γ hn hk => ?_
  dsimp only [laws_eqCache_e, laws_eqCache_v]
  replace hn : Γ.n = 16 := hn
  replace hk : Γ.k = 0 := hk
  have H : HS (laws_eqCache a0 a1) r := h
  clear h; unfold laws_eqCache at H
  try simp -implicitDefEqProofs at H
  refine Tr.of_vc (cl := tabC [(79, laws_eqKeptS_x)]) (E := E0) [] (tab_cons k_laws_eqKeptS tab_nil) hm (by rw [hn]; decide +kernel) ?_
  try simp -implicitDefEqProofs (maxSteps := 2000000) [-selQ_sel]
  refine Hid.brV (fun h_1 => ?_) (fun h_1 => ?_)
  · replace H := HS.cnd_t h_1 H
    try simp -implicitDefEqProofs (maxSteps := 2000000) [-selQ_sel, h_1]
    obtain ⟨v1, h_2, H⟩ := HS.bnd H
    try simp -implicitDefEqProofs (maxSteps := 2000000) [-selQ_sel, h_1, h_2]
    refine Hid.brV (fun h_3 => ?_) (fun h_3 => ?_)
    · replace H := HS.cnd_t h_3 H
      try simp -implicitDefEqProofs (maxSteps := 2000000) [-selQ_sel, h_1, h_2, h_3]
      have hr := (HS.some H).symm; subst hr
      refine Hid.mk ⟨_, Wk.refl _, ?_⟩
      try simp -implicitDefEqProofs (maxSteps := 2000000) [-selQ_sel, h_1, h_2, h_3]
    · replace H := HS.cnd_f h_3 H
      try simp -implicitDefEqProofs (maxSteps := 2000000) [-selQ_sel, h_1, h_2, h_3]
      have hr := (HS.some H).symm; subst hr
      refine Hid.mk ⟨_, Wk.refl _, ?_⟩
      try simp -implicitDefEqProofs (maxSteps := 2000000) [-selQ_sel, h_1, h_2, h_3]
  · replace H := HS.cnd_f h_1 H
    try simp -implicitDefEqProofs (maxSteps := 2000000) [-selQ_sel, h_1]
    have hr := (HS.some H).symm; subst hr
    refine Hid.mk ⟨_, Wk.refl _, ?_⟩
    try simp -implicitDefEqProofs (maxSteps := 2000000) [-selQ_sel, h_1]
theorem laws_toNode_ok0 (hm : Try.prog.follows .mixedOrders = true) (k_laws_toMat : Sound Try.prog 208 laws_toMat_x) (k_laws_toPath : Sound Try.prog 209 laws_toPath_x) (k_laws_toIntS : Sound Try.prog 86 laws_toIntS_x) (k_laws_toPaint : Sound Try.prog 69 laws_toPaint_x) : Sound Try.prog 163 laws_toNode_x := by
  refine xOf_sound fun q r h => ?_
  revert h; revert r; revert q; intro a0 r h
  refine fn_ok E0 hm Try.func163 rfl (by decide +kernel) (by rfl) fun Γ hn hk => ?_
  dsimp only [laws_toNode_e, laws_toNode_v]
  replace hn : Γ.n = 46 := hn
  replace hk : Γ.k = 0 := hk
  have H : HS (laws_toNode a0) r := h
  clear h; unfold laws_toNode at H
  try simp -implicitDefEqProofs at H
  refine Tr.of_vc (cl := tabC [(208, laws_toMat_x), (209, laws_toPath_x), (86, laws_toIntS_x), (69, laws_toPaint_x)]) (E := E0) [] (tab_cons k_laws_toMat (tab_cons k_laws_toPath (tab_cons k_laws_toIntS (tab_cons k_laws_toPaint tab_nil)))) hm (by rw [hn]; decide +kernel) ?_
  try simp -implicitDefEqProofs (maxSteps := 2000000) [-selQ_sel]
  obtain ⟨v1, h_1, H⟩ := HS.bnd H
  try simp -implicitDefEqProofs (maxSteps := 2000000) [-selQ_sel, h_1]
  obtain ⟨v2, h_2, H⟩ := HS.bnd H
  try simp -implicitDefEqProofs (maxSteps := 2000000) [-selQ_sel, h_1, h_2]
  obtain ⟨v3, h_3, H⟩ := HS.bnd H
  try simp -implicitDefEqProofs (maxSteps := 2000000) [-selQ_sel, h_1, h_2, h_3]
  obtain ⟨v4, h_4, H⟩ := HS.bnd H
  try simp -implicitDefEqProofs (maxSteps := 2000000) [-selQ_sel, h_1, h_2, h_3, h_4]
  obtain ⟨v5, h_5, H⟩ := HS.bnd H
  try simp -implicitDefEqProofs (maxSteps := 2000000) [-selQ_sel, h_1, h_2, h_3, h_4, h_5]
  have hr := (HS.some H).symm; subst hr
  refine Hid.mk ⟨_, Wk.refl _, ?_⟩
  try simp -implicitDefEqProofs (maxSteps := 2000000) [-selQ_sel, h_1, h_2, h_3, h_4, h_5]
theorem laws_toMask_ok0 (hm : Try.prog.follows .mixedOrders = true) (k_laws_toBox : Sound Try.prog 137 laws_toBox_x) (k_laws_toIntS : Sound Try.prog 86 laws_toIntS_x) : Sound Try.prog 68 laws_toMask_x := by
  refine xOf_sound fun q r h => ?_
  revert h; revert r; revert q; intro a0 r h
  refine fn_ok E0 hm Try.func68 rfl (by decide +kernel) (by rfl) fun Γ hn hk => ?_
  dsimp only [laws_toMask_e, laws_toMask_v]
  replace hn : Γ.n = 13 := hn
  replace hk : Γ.k = 0 := hk
  have H : HS (laws_toMask a0) r := h
  clear h; unfold laws_toMask at H
  try simp -implicitDefEqProofs at H
  refine Tr.of_vc (cl := tabC [(137, laws_toBox_x), (86, laws_toIntS_x)]) (E := E0) [] (tab_cons k_laws_toBox (tab_cons k_laws_toIntS tab_nil)) hm (by rw [hn]; decide +kernel) ?_
  try simp -implicitDefEqProofs (maxSteps := 2000000) [-selQ_sel]
  obtain ⟨v1, h_1, H⟩ := HS.bnd H
  try simp -implicitDefEqProofs (maxSteps := 2000000) [-selQ_sel, h_1]
  obtain ⟨v2, h_2, H⟩ := HS.bnd H
  try simp -implicitDefEqProofs (maxSteps := 2000000) [-selQ_sel, h_1, h_2]
  have hr := (HS.some H).symm; subst hr
  refine Hid.mk ⟨⟨[(2, AV.optr 0 0 5)], [(0, Ob.box [AV.int .i64 v1.x0, AV.int .i64 v1.y0, AV.int .i64 v1.x1, AV.int .i64 v1.y1, AV.osl 1 0 (List.length v2) (List.length v2)]), (1, Ob.arr 1 (List.map (AV.int .i64) v2) false)], 2⟩, Wk.ofk [1, 3] hk (by rfl) (by simp -implicitDefEqProofs [h_1, h_2]) (by simp -implicitDefEqProofs [h_1, h_2]), ?_⟩
  try simp -implicitDefEqProofs (maxSteps := 2000000) [-selQ_sel, h_1, h_2]
theorem laws_szScene_ok0 (hm : Try.prog.follows .mixedOrders = true) (k_laws_szNodeS : Sound Try.prog 91 laws_szNodeS_x) : Sound Try.prog 22 laws_szScene_x := by
  refine xOf_sound fun q r h => ?_
  obtain ⟨a0, a1⟩ := q
  refine fn_ok E0 hm Try.func22 rfl (by decide +kernel) (by rfl) fun Γ hn hk => ?_
  dsimp only [laws_szScene_e, laws_szScene_v]
  replace hn : Γ.n = 12 := hn
  replace hk : Γ.k = 0 := hk
  have H : HS (laws_szScene a0 a1) r := h
  clear h; unfold laws_szScene at H
  try simp -implicitDefEqProofs at H
  refine Tr.of_vc (cl := tabC [(91, laws_szNodeS_x)]) (E := E0) [] (tab_cons k_laws_szNodeS tab_nil) hm (by rw [hn]; decide +kernel) ?_
  try simp -implicitDefEqProofs (maxSteps := 2000000) [-selQ_sel]
  obtain ⟨v1, h_1, H⟩ := HS.bnd H
  try simp -implicitDefEqProofs (maxSteps := 2000000) [-selQ_sel, h_1]
  refine Hid.brV (fun h_2 => ?_) (fun h_2 => ?_)
  · replace H := HS.cnd_t h_2 H
    try simp -implicitDefEqProofs (maxSteps := 2000000) [-selQ_sel, h_1, h_2]
    have hr := (HS.some H).symm; subst hr
    refine Hid.mk ⟨_, Wk.refl _, ?_⟩
    try simp -implicitDefEqProofs (maxSteps := 2000000) [-selQ_sel, h_1, h_2]
  · replace H := HS.cnd_f h_2 H
    try simp -implicitDefEqProofs (maxSteps := 2000000) [-selQ_sel, h_1, h_2]
    have hr := (HS.some H).symm; subst hr
    refine Hid.mk ⟨_, Wk.refl _, ?_⟩
    try simp -implicitDefEqProofs (maxSteps := 2000000) [-selQ_sel, h_1, h_2]
theorem laws_eqScene_ok0 (hm : Try.prog.follows .mixedOrders = true) (k_laws_eqNodeS : Sound Try.prog 99 laws_eqNodeS_x) : Sound Try.prog 27 laws_eqScene_x := by
  refine xOf_sound fun q r h => ?_
  obtain ⟨a0, a1⟩ := q
  refine fn_ok E0 hm Try.func27 rfl (by decide +kernel) (by rfl) fun Γ hn hk => ?_
  dsimp only [laws_eqScene_e, laws_eqScene_v]
  replace hn : Γ.n = 11 := hn
  replace hk : Γ.k = 0 := hk
  have H : HS (laws_eqScene a0 a1) r := h
  clear h; unfold laws_eqScene at H
  try simp -implicitDefEqProofs at H
  refine Tr.of_vc (cl := tabC [(99, laws_eqNodeS_x)]) (E := E0) [] (tab_cons k_laws_eqNodeS tab_nil) hm (by rw [hn]; decide +kernel) ?_
  try simp -implicitDefEqProofs (maxSteps := 2000000) [-selQ_sel]
  obtain ⟨v1, h_1, H⟩ := HS.bnd H
  try simp -implicitDefEqProofs (maxSteps := 2000000) [-selQ_sel, h_1]
  refine Hid.brV (fun h_2 => ?_) (fun h_2 => ?_)
  · replace H := HS.cnd_t h_2 H
    try simp -implicitDefEqProofs (maxSteps := 2000000) [-selQ_sel, h_1, h_2]
    have hr := (HS.some H).symm; subst hr
    refine Hid.mk ⟨_, Wk.refl _, ?_⟩
    try simp -implicitDefEqProofs (maxSteps := 2000000) [-selQ_sel, h_1, h_2]
  · replace H := HS.cnd_f h_2 H
    try simp -implicitDefEqProofs (maxSteps := 2000000) [-selQ_sel, h_1, h_2]
    have hr := (HS.some H).symm; subst hr
    refine Hid.mk ⟨_, Wk.refl _, ?_⟩
    try simp -implicitDefEqProofs (maxSteps := 2000000) [-selQ_sel, h_1, h_2]
theorem laws_toSurface_ok0 (hm : Try.prog.follows .mixedOrders = true) (k_laws_toColorS : Sound Try.prog 141 laws_toColorS_x) : Sound Try.prog 62 laws_toSurface_x := by
  refine xOf_sound fun q r h => ?_
  revert h; revert r; revert q; intro a0 r h
  refine fn_ok E0 hm Try.func62 rfl (by decide +kernel) (by rfl) fun Γ hn hk => ?_
  dsimp only [laws_toSurface_e, laws_toSurface_v]
  replace hn : Γ.n = 15 := hn
  replace hk : Γ.k = 0 := hk
  have H : HS (laws_toSurface a0) r := h
  clear h; unfold laws_toSurface at H
  try simp -implicitDefEqProofs at H
  refine Tr.of_vc (cl := tabC [(141, laws_toColorS_x)]) (E := E0) [] (tab_cons k_laws_toColorS tab_nil) hm (by rw [hn]; decide +kernel) ?_
  try simp -implicitDefEqProofs (maxSteps := 2000000) [-selQ_sel]
  obtain ⟨v1, h_1, H⟩ := HS.bnd H
  try simp -implicitDefEqProofs (maxSteps := 2000000) [-selQ_sel, h_1]
  have hr := (HS.some H).symm; subst hr
  refine Hid.mk ⟨⟨[(2, AV.optr 0 0 3)], [(0, Ob.box [AV.int .i64 a0.w, AV.int .i64 a0.h, AV.osl 1 0 (List.length v1) (List.length v1)]), (1, Ob.arr 4 (List.map eColor v1) false)], 2⟩, Wk.ofk [1, 3] hk (by rfl) (by simp -implicitDefEqProofs [h_1]) (by simp -implicitDefEqProofs [h_1]), ?_⟩
  try simp -implicitDefEqProofs (maxSteps := 2000000) [-selQ_sel, h_1]
theorem impl_Empty_ok0 (hm : Try.prog.follows .mixedOrders = true) : Sound Try.prog 158 impl_Empty_x := by
  refine xOf_sound fun q r h => ?_
  revert h; revert r; revert q; intro a0 r h
  refine fn_ok E0 hm Try.func158 rfl (by decide +kernel) (by rfl) fun Γ hn hk => ?_
  dsimp only [impl_Empty_e, impl_Empty_v]
  replace hn : Γ.n = 15 := hn
  replace hk : Γ.k = 0 := hk
  have H : HS (impl_Empty a0) r := h
  clear h; unfold impl_Empty at H
  try simp -implicitDefEqProofs at H
  refine Tr.of_vc (cl := tabC []) (E := E0) [] tab_nil hm (by rw [hn]; decide +kernel) ?_
  try simp -implicitDefEqProofs (maxSteps := 2000000) [-selQ_sel]
  refine Hid.selQ (fun h_1 => ?_) (fun h_1 => ?_)
  · replace H := HS.cnd_t h_1 H
    try simp -implicitDefEqProofs (maxSteps := 2000000) [-selQ_sel, h_1]
    have hr := (HS.some H).symm; subst hr
    refine Hid.mk ⟨_, Wk.refl _, ?_⟩
    try simp -implicitDefEqProofs (maxSteps := 2000000) [-selQ_sel, h_1]
  · replace H := HS.cnd_f h_1 H
    try simp -implicitDefEqProofs (maxSteps := 2000000) [-selQ_sel, h_1]
    have hr := (HS.some H).symm; subst hr
    refine Hid.mk ⟨_, Wk.refl _, ?_⟩
    try simp -implicitDefEqProofs (maxSteps := 2000000) [-selQ_sel, h_1]
theorem spec_l05Least_ok0 (hm : Try.prog.follows .mixedOrders = true) : Sound Try.prog 155 spec_l05Least_x := by
  refine xOf_sound fun q r h => ?_
  obtain ⟨a0, a1⟩ := q
  refine fn_ok E0 hm Try.func155 rfl (by decide +kernel) (by rfl) fun Γ hn hk => ?_
  dsimp only [spec_l05Least_e, spec_l05Least_v]
  replace hn : Γ.n = 10 := hn
  replace hk : Γ.k = 0 := hk
  have H : HS (spec_l05Least a0 a1) r := h
  clear h; unfold spec_l05Least at H
  try simp -implicitDefEqProofs at H
  refine Tr.of_vc (cl := tabC []) (E := E0) [] tab_nil hm (by rw [hn]; decide +kernel) ?_
  try simp -implicitDefEqProofs (maxSteps := 2000000) [-selQ_sel]
  refine Hid.brV (fun h_1 => ?_) (fun h_1 => ?_)
  · replace H := HS.cnd_t h_1 H
    try simp -implicitDefEqProofs (maxSteps := 2000000) [-selQ_sel, h_1]
    have hr := (HS.some H).symm; subst hr
    refine Hid.mk ⟨_, Wk.refl _, ?_⟩
    try simp -implicitDefEqProofs (maxSteps := 2000000) [-selQ_sel, h_1]
  · replace H := HS.cnd_f h_1 H
    try simp -implicitDefEqProofs (maxSteps := 2000000) [-selQ_sel, h_1]
    have hr := (HS.some H).symm; subst hr
    refine Hid.mk ⟨_, Wk.refl _, ?_⟩
    try simp -implicitDefEqProofs (maxSteps := 2000000) [-selQ_sel, h_1]
theorem spec_l05Most_ok0 (hm : Try.prog.follows .mixedOrders = true) : Sound Try.prog 154 spec_l05Most_x := by
  refine xOf_sound fun q r h => ?_
  obtain ⟨a0, a1⟩ := q
  refine fn_ok E0 hm Try.func154 rfl (by decide +kernel) (by rfl) fun Γ hn hk => ?_
  dsimp only [spec_l05Most_e, spec_l05Most_v]
  replace hn : Γ.n = 10 := hn
  replace hk : Γ.k = 0 := hk
  have H : HS (spec_l05Most a0 a1) r := h
  clear h; unfold spec_l05Most at H
  try simp -implicitDefEqProofs at H
  refine Tr.of_vc (cl := tabC []) (E := E0) [] tab_nil hm (by rw [hn]; decide +kernel) ?_
  try simp -implicitDefEqProofs (maxSteps := 2000000) [-selQ_sel]
  refine Hid.brV (fun h_1 => ?_) (fun h_1 => ?_)
  · replace H := HS.cnd_t h_1 H
    try simp -implicitDefEqProofs (maxSteps := 2000000) [-selQ_sel, h_1]
    have hr := (HS.some H).symm; subst hr
    refine Hid.mk ⟨_, Wk.refl _, ?_⟩
    try simp -implicitDefEqProofs (maxSteps := 2000000) [-selQ_sel, h_1]
  · replace H := HS.cnd_f h_1 H
    try simp -implicitDefEqProofs (maxSteps := 2000000) [-selQ_sel, h_1]
    have hr := (HS.some H).symm; subst hr
    refine Hid.mk ⟨_, Wk.refl _, ?_⟩
    try simp -implicitDefEqProofs (maxSteps := 2000000) [-selQ_sel, h_1]
theorem laws_szBoxS_ok0 (hm : Try.prog.follows .mixedOrders = true) : Sound Try.prog 52 laws_szBoxS_x := by
  refine xOf_sound fun q r h => ?_
  obtain ⟨a0, a1⟩ := q
  refine fn_ok E0 hm Try.func52 rfl (by decide +kernel) (by rfl) fun Γ hn hk => ?_
  dsimp only [laws_szBoxS_e, laws_szBoxS_v]
  replace hn : Γ.n = 12 := hn
  replace hk : Γ.k = 0 := hk
  have H : HS (laws_szBoxS a0 a1) r := h
  clear h; unfold laws_szBoxS at H
  try simp -implicitDefEqProofs at H
  refine Tr.of_vc (cl := tabC []) (E := E0) [] tab_nil hm (by rw [hn]; decide +kernel) ?_
  try simp -implicitDefEqProofs (maxSteps := 2000000) [-selQ_sel]
  refine Hid.brV (fun h_1 => ?_) (fun h_1 => ?_)
  · replace H := HS.cnd_t h_1 H
    try simp -implicitDefEqProofs (maxSteps := 2000000) [-selQ_sel, h_1]
    have hr := (HS.some H).symm; subst hr
    refine Hid.mk ⟨_, Wk.refl _, ?_⟩
    try simp -implicitDefEqProofs (maxSteps := 2000000) [-selQ_sel, h_1]
  · replace H := HS.cnd_f h_1 H
    try simp -implicitDefEqProofs (maxSteps := 2000000) [-selQ_sel, h_1]
    have hr := (HS.some H).symm; subst hr
    refine Hid.mk ⟨_, Wk.refl _, ?_⟩
    try simp -implicitDefEqProofs (maxSteps := 2000000) [-selQ_sel, h_1]
theorem impl_isByte_ok0 (hm : Try.prog.follows .mixedOrders = true) (k_impl_inRange : Sound Try.prog 76 impl_inRange_x) : Sound Try.prog 178 impl_isByte_x := by
  refine xOf_sound fun q r h => ?_
  revert h; revert r; revert q; intro a0 r h
  refine fn_ok E0 hm Try.func178 rfl (by decide +kernel) (by rfl) fun Γ hn hk => ?_
  dsimp only [impl_isByte_e, impl_isByte_v]
  replace hn : Γ.n = 5 := hn
  replace hk : Γ.k = 0 := hk
  have H : HS (impl_isByte a0) r := h
  clear h; unfold impl_isByte at H
  try simp -implicitDefEqProofs at H
  refine Tr.of_vc (cl := tabC [(76, impl_inRange_x)]) (E := E0) [] (tab_cons k_impl_inRange tab_nil) hm (by rw [hn]; decide +kernel) ?_
  try simp -implicitDefEqProofs (maxSteps := 2000000) [-selQ_sel]
  obtain ⟨v1, h_1, H⟩ := HS.bnd H
  try simp -implicitDefEqProofs (maxSteps := 2000000) [-selQ_sel, h_1]
  have hr := (HS.some H).symm; subst hr
  refine Hid.mk ⟨_, Wk.refl _, ?_⟩
  try simp -implicitDefEqProofs (maxSteps := 2000000) [-selQ_sel, h_1]
theorem laws_toColor_ok0 (hm : Try.prog.follows .mixedOrders = true) : Sound Try.prog 145 laws_toColor_x := by
  refine xOf_sound fun q r h => ?_
  revert h; revert r; revert q; intro a0 r h
  refine fn_ok E0 hm Try.func145 rfl (by decide +kernel) (by rfl) fun Γ hn hk => ?_
  dsimp only [laws_toColor_e, laws_toColor_v]
  replace hn : Γ.n = 17 := hn
  replace hk : Γ.k = 0 := hk
  have H : HS (laws_toColor a0) r := h
  clear h; unfold laws_toColor at H
  try simp -implicitDefEqProofs at H
  refine Tr.of_vc (cl := tabC []) (E := E0) [] tab_nil hm (by rw [hn]; decide +kernel) ?_
  try simp -implicitDefEqProofs (maxSteps := 2000000) [-selQ_sel]
  have hr := (HS.some H).symm; subst hr
  refine Hid.mk ⟨_, Wk.refl _, ?_⟩
  try simp -implicitDefEqProofs (maxSteps := 2000000) [-selQ_sel]
end Go.Proofs.Ytoafihhhdnmliaa.Am
