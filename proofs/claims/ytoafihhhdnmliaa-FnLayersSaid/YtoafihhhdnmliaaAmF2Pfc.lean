import Derived.Test.YtoafihhhdnmliaaAmF2Mo
set_option linter.unusedVariables false
set_option linter.unusedSimpArgs false
set_option linter.unusedSectionVars false
namespace Go.Proofs.Ytoafihhhdnmliaa.Am
open Go Go.Proofs
set_option maxRecDepth 100000
set_option linter.unusedSimpArgs false
set_option linter.unusedVariables false
set_option maxHeartbeats 4000000
theorem spec_PaintMask_ok0 (hm : Try.prog.follows .mixedOrders = true) (k_spec_l14Copy : Sound Try.prog 113 spec_l14Copy_x) (k_spec_SurfaceOk : Sound Try.prog 82 spec_SurfaceOk_x) (k_spec_MaskOk : Sound Try.prog 74 spec_MaskOk_x) (k_spec_PaintOk : Sound Try.prog 125 spec_PaintOk_x) (k_spec_l11Bits : Sound Try.prog 120 spec_l11Bits_x) (k_spec_ColorAt : Sound Try.prog 45 spec_ColorAt_x) (k_spec_CountOf : Sound Try.prog 46 spec_CountOf_x) (k_spec_Thin : Sound Try.prog 44 spec_Thin_x) (k_spec_Fade : Sound Try.prog 43 spec_Fade_x) (k_spec_Blend : Sound Try.prog 42 spec_Blend_x) : Sound Try.prog 67 spec_PaintMask_x := by
  refine xOf_sound fun q r h => ?_
  obtain ⟨a0, a1, a2, a3, a4⟩ := q
  refine fn_ok E0 hm Try.func67 rfl (by decide +kernel) (by rfl) fun Γ hn hk => ?_
  dsimp only [spec_PaintMask_e, spec_PaintMask_v]
  replace hn : Γ.n = 82 := hn
  replace hk : Γ.k = 0 := hk
  have H : HS (spec_PaintMask a0 a1 a2 a3 a4) r := h
  clear h; unfold spec_PaintMask at H
  try simp -implicitDefEqProofs at H
  refine Tr.of_vc (cl := tabC [(113, spec_l14Copy_x), (82, spec_SurfaceOk_x), (74, spec_MaskOk_x), (125, spec_PaintOk_x), (120, spec_l11Bits_x), (45, spec_ColorAt_x), (46, spec_CountOf_x), (44, spec_Thin_x), (43, spec_Fade_x), (42, spec_Blend_x)]) (E := E0) [] (tab_cons k_spec_l14Copy (tab_cons k_spec_SurfaceOk (tab_cons k_spec_MaskOk (tab_cons k_spec_PaintOk (tab_cons k_spec_l11Bits (tab_cons k_spec_ColorAt (tab_cons k_spec_CountOf (tab_cons k_spec_Thin (tab_cons k_spec_Fade (tab_cons k_spec_Blend tab_nil)))))))))) hm (by rw [hn]; decide +kernel) ?_
  try simp -implicitDefEqProofs +decide (maxSteps := 2000000) [-selQ_sel, hokQ_of]
  obtain ⟨⟨w2, w3, w4⟩, h_1, H⟩ := HS.bnd H
  dsimp only at H
  try simp -implicitDefEqProofs +decide (maxSteps := 2000000) [-selQ_sel, hokQ_of, h_1]
  obtain ⟨v5, h_2, H⟩ := HS.bnd H
  try simp -implicitDefEqProofs +decide (maxSteps := 2000000) [-selQ_sel, hokQ_of, h_1, h_2]
  refine Hid.selQ (fun h_3 => ?_) (fun h_3 => ?_)
  · replace H := HS.cnd_t h_3 H
    try simp -implicitDefEqProofs +decide (maxSteps := 2000000) [-selQ_sel, hokQ_of, h_1, h_2, h_3]
    obtain ⟨v6, h_4, H⟩ := HS.bnd H
    try simp -implicitDefEqProofs +decide (maxSteps := 2000000) [-selQ_sel, hokQ_of, h_1, h_2, h_3, h_4]
    refine Hid.selQ (fun h_5 => ?_) (fun h_5 => ?_)
    · replace H := HS.cnd_t h_5 H
      try simp -implicitDefEqProofs +decide (maxSteps := 2000000) [-selQ_sel, hokQ_of, h_1, h_2, h_3, h_4, h_5]
      obtain ⟨v7, h_6, H⟩ := HS.bnd H
      try simp -implicitDefEqProofs +decide (maxSteps := 2000000) [-selQ_sel, hokQ_of, h_1, h_2, h_3, h_4, h_5, h_6]
      refine Hid.brV (fun h_7 => ?_) (fun h_7 => ?_)
      · replace H := HS.cnd_t h_7 H
        try simp -implicitDefEqProofs +decide (maxSteps := 2000000) [-selQ_sel, hokQ_of, h_1, h_2, h_3, h_4, h_5, h_6, h_7]
        obtain ⟨q, h_8, H⟩ := HS.bnd H
        refine Hid.mk (Tr.weak (s' := (spec_PaintMask_l1_S a0 a1 a2 a3 a4 w2 w3) (0, w4)) (Wk.ofk [0, 1, 2, 3, 5, 4] hk (by rfl) (by simp -implicitDefEqProofs [spec_PaintMask_l1_S, h_1, h_2, h_3, h_4, h_5, h_6, h_7]) (by simp -implicitDefEqProofs [spec_PaintMask_l1_S, h_1, h_2, h_3, h_4, h_5, h_6, h_7])) ?_)
        refine wp_loop_of (S := (spec_PaintMask_l1_S a0 a1 a2 a3 a4 w2 w3)) (f := (spec_PaintMask_l1 a0 a1 a2 a3 a4 w2 w3)) (xt := (spec_PaintMask_l1_X a0 a1 a2 a3 a4 w2 w3)) ?_ ?_ h_8 ?_
        · intro q; simp [spec_PaintMask_l1_X]
        · clear H h_8 q
          rintro ⟨x29, x30⟩ o R hf hR
          have H : HS (spec_PaintMask_l1 a0 a1 a2 a3 a4 w2 w3 (x29, x30)) o := hf
          clear hf; unfold spec_PaintMask_l1 at H
          try simp -implicitDefEqProofs at H
          refine Tr.of_vc (cl := tabC [(113, spec_l14Copy_x), (82, spec_SurfaceOk_x), (74, spec_MaskOk_x), (125, spec_PaintOk_x), (120, spec_l11Bits_x), (45, spec_ColorAt_x), (46, spec_CountOf_x), (44, spec_Thin_x), (43, spec_Fade_x), (42, spec_Blend_x)]) (E := E0) [] (tab_cons k_spec_l14Copy (tab_cons k_spec_SurfaceOk (tab_cons k_spec_MaskOk (tab_cons k_spec_PaintOk (tab_cons k_spec_l11Bits (tab_cons k_spec_ColorAt (tab_cons k_spec_CountOf (tab_cons k_spec_Thin (tab_cons k_spec_Fade (tab_cons k_spec_Blend tab_nil)))))))))) hm (by rw [hn]; decide +kernel) ?_
          try simp -implicitDefEqProofs +decide (maxSteps := 2000000) [-selQ_sel, hokQ_of, spec_PaintMask_l1_S]
          refine Hid.brV (fun h_9 => ?_) (fun h_9 => ?_)
          · replace H := HS.cnd_t h_9 H
            try simp -implicitDefEqProofs +decide (maxSteps := 2000000) [-selQ_sel, hokQ_of, h_9]
            have hr := (HS.some H).symm; subst hr
            exact Hid.mk ⟨(spec_PaintMask_l1_X a0 a1 a2 a3 a4 w2 w3 x30).2, Wk.ofk [3, 4, 5] hk (by rfl) (by simp -implicitDefEqProofs [spec_PaintMask_l1_X, h_9]) (by simp -implicitDefEqProofs [spec_PaintMask_l1_X, h_9]), hR⟩
          · replace H := HS.cnd_f h_9 H
            try simp -implicitDefEqProofs +decide (maxSteps := 2000000) [-selQ_sel, hokQ_of, h_9]
            obtain ⟨q, h_10, H⟩ := HS.bnd H
            refine Hid.mk (Tr.weak (s' := (spec_PaintMask_l0_S a0 a1 a2 a3 a4 w2 w3 x29) (0, x30)) (Wk.ofk [0, 1, 2, 3, 4, 5] hk (by rfl) (by simp -implicitDefEqProofs [spec_PaintMask_l0_S, h_9]) (by simp -implicitDefEqProofs [spec_PaintMask_l0_S, h_9])) ?_)
            refine wp_loop_of (S := (spec_PaintMask_l0_S a0 a1 a2 a3 a4 w2 w3 x29)) (f := (spec_PaintMask_l0 a0 a1 a2 a3 a4 w2 w3 x29)) (xt := (spec_PaintMask_l0_X a0 a1 a2 a3 a4 w2 w3 x29)) ?_ ?_ h_10 ?_
            · intro q; simp [spec_PaintMask_l0_X]
            · clear H h_10 q
              rintro ⟨x40, x41⟩ o R hf hR
              have H : HS (spec_PaintMask_l0 a0 a1 a2 a3 a4 w2 w3 x29 (x40, x41)) o := hf
              clear hf; unfold spec_PaintMask_l0 at H
              try simp -implicitDefEqProofs at H
              refine Tr.of_vc (cl := tabC [(113, spec_l14Copy_x), (82, spec_SurfaceOk_x), (74, spec_MaskOk_x), (125, spec_PaintOk_x), (120, spec_l11Bits_x), (45, spec_ColorAt_x), (46, spec_CountOf_x), (44, spec_Thin_x), (43, spec_Fade_x), (42, spec_Blend_x)]) (E := E0) [] (tab_cons k_spec_l14Copy (tab_cons k_spec_SurfaceOk (tab_cons k_spec_MaskOk (tab_cons k_spec_PaintOk (tab_cons k_spec_l11Bits (tab_cons k_spec_ColorAt (tab_cons k_spec_CountOf (tab_cons k_spec_Thin (tab_cons k_spec_Fade (tab_cons k_spec_Blend tab_nil)))))))))) hm (by rw [hn]; decide +kernel) ?_
              try simp -implicitDefEqProofs +decide (maxSteps := 2000000) [-selQ_sel, hokQ_of, spec_PaintMask_l0_S]
              refine Hid.brV (fun h_11 => ?_) (fun h_11 => ?_)
              · replace H := HS.cnd_t h_11 H
                try simp -implicitDefEqProofs +decide (maxSteps := 2000000) [-selQ_sel, hokQ_of, h_11]
                have hr := (HS.some H).symm; subst hr
                exact Hid.mk ⟨(spec_PaintMask_l0_X a0 a1 a2 a3 a4 w2 w3 x29 x41).2, Wk.ofk [0, 1, 2, 3, 4, 5] hk (by rfl) (by simp -implicitDefEqProofs [spec_PaintMask_l0_X, h_11]) (by simp -implicitDefEqProofs [spec_PaintMask_l0_X, h_11]), hR⟩
              · replace H := HS.cnd_f h_11 H
                try simp -implicitDefEqProofs +decide (maxSteps := 2000000) [-selQ_sel, hokQ_of, h_11]
                obtain ⟨v42, h_12, H⟩ := HS.bnd H
                try simp -implicitDefEqProofs +decide (maxSteps := 2000000) [-selQ_sel, hokQ_of, h_11, h_12]
                refine Hid.brV (fun h_13 => ?_) (fun h_13 => ?_)
                · replace H := HS.cnd_t h_13 H
                  try simp -implicitDefEqProofs +decide (maxSteps := 2000000) [-selQ_sel, hokQ_of, h_11, h_12, h_13]
                  have hr := (HS.some H).symm; subst hr
                  exact Hid.mk ⟨spec_PaintMask_l0_S a0 a1 a2 a3 a4 w2 w3 x29 ((IntKind.i64.wrap (x40 + 1)), x41), Wk.ofk [0, 1, 2, 3, 4, 5] hk (by rfl) (by simp -implicitDefEqProofs [spec_PaintMask_l0_S, h_11, h_12, h_13]) (by simp -implicitDefEqProofs [spec_PaintMask_l0_S, h_11, h_12, h_13]), hR⟩
                · replace H := HS.cnd_f h_13 H
                  try simp -implicitDefEqProofs +decide (maxSteps := 2000000) [-selQ_sel, hokQ_of, h_11, h_12, h_13]
                  obtain ⟨v43, h_14, H⟩ := HS.bnd H
                  try simp -implicitDefEqProofs +decide (maxSteps := 2000000) [-selQ_sel, hokQ_of, h_11, h_12, h_13, h_14]
                  obtain ⟨v44, h_15, H⟩ := HS.bnd H
                  try simp -implicitDefEqProofs +decide (maxSteps := 2000000) [-selQ_sel, hokQ_of, h_11, h_12, h_13, h_14, h_15]
                  obtain ⟨v45, h_16, H⟩ := HS.bnd H
                  try simp -implicitDefEqProofs +decide (maxSteps := 2000000) [-selQ_sel, hokQ_of, h_11, h_12, h_13, h_14, h_15, h_16]
                  obtain ⟨v46, h_17, H⟩ := HS.bnd H
                  try simp -implicitDefEqProofs +decide (maxSteps := 2000000) [-selQ_sel, hokQ_of, h_11, h_12, h_13, h_14, h_15, h_16, h_17]
                  obtain ⟨v47, h_18, H⟩ := HS.bnd H
                  try simp -implicitDefEqProofs +decide (maxSteps := 2000000) [-selQ_sel, hokQ_of, h_11, h_12, h_13, h_14, h_15, h_16, h_17, h_18]
                  obtain ⟨v48, h_19, H⟩ := HS.bnd H
                  try simp -implicitDefEqProofs +decide (maxSteps := 2000000) [-selQ_sel, hokQ_of, h_11, h_12, h_13, h_14, h_15, h_16, h_17, h_18, h_19]
                  obtain ⟨v49, h_20, H⟩ := HS.bnd H
                  have g_21 := idx_get h_20
                  try simp -implicitDefEqProofs +decide (maxSteps := 2000000) [-selQ_sel, hokQ_of, h_11, h_12, h_13, h_14, h_15, h_16, h_17, h_18, h_19, h_20, g_21]
                  obtain ⟨l50, h_22, H⟩ := HS.nam H
                  have m_23 := congrArg (List.map eColor) h_22
                  have q_24 := congrArg List.length h_22
                  simp -implicitDefEqProofs at m_23 q_24
                  try simp only [q_24] at m_23
                  try simp only [q_24] at g_21
                  try simp -implicitDefEqProofs +decide (maxSteps := 2000000) [-selQ_sel, hokQ_of, h_11, h_12, h_13, h_14, h_15, h_16, h_17, h_18, h_19, h_20, g_21, m_23, q_24]
                  have hr := (HS.some H).symm; subst hr
                  exact Hid.mk ⟨spec_PaintMask_l0_S a0 a1 a2 a3 a4 w2 w3 x29 ((IntKind.i64.wrap (x40 + 1)), l50), Wk.ofk [0, 1, 2, 3, 4, 5] hk (by rfl) (by simp -implicitDefEqProofs [spec_PaintMask_l0_S, h_11, h_12, h_13, h_14, h_15, h_16, h_17, h_18, h_19, h_20, g_21, m_23, q_24]) (by simp -implicitDefEqProofs [spec_PaintMask_l0_S, h_11, h_12, h_13, h_14, h_15, h_16, h_17, h_18, h_19, h_20, g_21, m_23, q_24]), hR⟩
            · revert H h_10; revert q; intro y51 h_10 H
              try dsimp only at H
              try simp -implicitDefEqProofs +decide (maxSteps := 2000000) [-selQ_sel, hokQ_of, h_9, spec_PaintMask_l0_X]
              have hr := (HS.some H).symm; subst hr
              exact Hid.mk ⟨spec_PaintMask_l1_S a0 a1 a2 a3 a4 w2 w3 ((IntKind.i64.wrap (x29 + 1)), y51), Wk.ofk [0, 1, 2, 3, 4, 5] hk (by rfl) (by simp -implicitDefEqProofs [spec_PaintMask_l1_S, h_9]) (by simp -implicitDefEqProofs [spec_PaintMask_l1_S, h_9]), hR⟩
        · revert H h_8; revert q; intro y52 h_8 H
          try dsimp only at H
          try simp -implicitDefEqProofs +decide (maxSteps := 2000000) [-selQ_sel, hokQ_of, h_1, h_2, h_3, h_4, h_5, h_6, h_7, spec_PaintMask_l1_X]
          have hr := (HS.some H).symm; subst hr
          refine Hid.mk ⟨_, Wk.refl _, ?_⟩
          try simp -implicitDefEqProofs +decide (maxSteps := 2000000) [-selQ_sel, hokQ_of, h_1, h_2, h_3, h_4, h_5, h_6, h_7]
      · replace H := HS.cnd_f h_7 H
        try simp -implicitDefEqProofs +decide (maxSteps := 2000000) [-selQ_sel, hokQ_of, h_1, h_2, h_3, h_4, h_5, h_6, h_7]
        have hr := (HS.some H).symm; subst hr
        refine Hid.mk ⟨_, Wk.refl _, ?_⟩
        try simp -implicitDefEqProofs +decide (maxSteps := 2000000) [-selQ_sel, hokQ_of, h_1, h_2, h_3, h_4, h_5, h_6, h_7]
    · replace H := HS.cnd_f h_5 H
      try simp -implicitDefEqProofs +decide (maxSteps := 2000000) [-selQ_sel, hokQ_of, h_1, h_2, h_3, h_4, h_5]
      have hr := (HS.some H).symm; subst hr
      refine Hid.mk ⟨_, Wk.refl _, ?_⟩
      try simp -implicitDefEqProofs +decide (maxSteps := 2000000) [-selQ_sel, hokQ_of, h_1, h_2, h_3, h_4, h_5]
  · replace H := HS.cnd_f h_3 H
    try simp -implicitDefEqProofs +decide (maxSteps := 2000000) [-selQ_sel, hokQ_of, h_1, h_2, h_3]
    have hr := (HS.some H).symm; subst hr
    refine Hid.mk ⟨_, Wk.refl _, ?_⟩
    try simp -implicitDefEqProofs +decide (maxSteps := 2000000) [-selQ_sel, hokQ_of, h_1, h_2, h_3]
theorem spec_PathOk_ok0 (hm : Try.prog.follows .mixedOrders = true) (k_spec_NeedOf : Sound Try.prog 224 spec_NeedOf_x) (k_spec_PointOk : Sound Try.prog 196 spec_PointOk_x) : Sound Try.prog 204 spec_PathOk_x := by
  refine xOf_sound fun q r h => ?_
  revert h; revert r; revert q; intro a0 r h
  refine fn_ok E0 hm Try.func204 rfl (by decide +kernel) (by rfl) fun Γ hn hk => ?_
  dsimp only [spec_PathOk_e, spec_PathOk_v]
  replace hn : Γ.n = 75 := hn
  replace hk : Γ.k = 0 := hk
  have H : HS (spec_PathOk a0) r := h
  clear h; unfold spec_PathOk at H
  try simp -implicitDefEqProofs at H
  refine Tr.of_vc (cl := tabC [(224, spec_NeedOf_x), (196, spec_PointOk_x)]) (E := E0) [] (tab_cons k_spec_NeedOf (tab_cons k_spec_PointOk tab_nil)) hm (by rw [hn]; decide +kernel) ?_
  try simp -implicitDefEqProofs (maxSteps := 2000000) [-selQ_sel]
  refine Hid.selQ (fun h_1 => ?_) (fun h_1 => ?_)
  · replace H := HS.cnd_t h_1 H
    try simp -implicitDefEqProofs (maxSteps := 2000000) [-selQ_sel, h_1]
    refine Hid.brV (fun h_2 => ?_) (fun h_2 => ?_)
    · replace H := HS.cnd_t h_2 H
      try simp -implicitDefEqProofs (maxSteps := 2000000) [-selQ_sel, h_1, h_2]
      obtain ⟨q, h_3, H⟩ := HS.bnd H
      refine Hid.mk (Tr.weak (s' := (spec_PathOk_l0_S a0) (0, 0)) (Wk.ofk [0] hk (by rfl) (by simp -implicitDefEqProofs [spec_PathOk_l0_S, h_1, h_2]) (by simp -implicitDefEqProofs [spec_PathOk_l0_S, h_1, h_2])) ?_)
      refine wp_loop_of (S := (spec_PathOk_l0_S a0)) (f := (spec_PathOk_l0 a0)) (xt := (spec_PathOk_l0_X a0)) ?_ ?_ h_3 ?_
      · intro q; rcases q with y9 | ⟨⟩ <;> simp [spec_PathOk_l0_X]
      · clear H h_3 q
        rintro ⟨x4, x5⟩ o R hf hR
        have H : HS (spec_PathOk_l0 a0 (x4, x5)) o := hf
        clear hf; unfold spec_PathOk_l0 at H
        try simp -implicitDefEqProofs at H
        refine Tr.of_vc (cl := tabC [(224, spec_NeedOf_x), (196, spec_PointOk_x)]) (E := E0) [] (tab_cons k_spec_NeedOf (tab_cons k_spec_PointOk tab_nil)) hm (by rw [hn]; decide +kernel) ?_
        try simp -implicitDefEqProofs (maxSteps := 2000000) [-selQ_sel, spec_PathOk_l0_S]
        refine Hid.brV (fun h_4 => ?_) (fun h_4 => ?_)
        · replace H := HS.cnd_t h_4 H
          try simp -implicitDefEqProofs (maxSteps := 2000000) [-selQ_sel, h_4]
          have hr := (HS.some H).symm; subst hr
          exact Hid.mk ⟨(spec_PathOk_l0_X a0 (.inl x4)).2, Wk.ofk [0] hk (by rfl) (by simp -implicitDefEqProofs [spec_PathOk_l0_X, h_4]) (by simp -implicitDefEqProofs [spec_PathOk_l0_X, h_4]), hR⟩
        · replace H := HS.cnd_f h_4 H
          try simp -implicitDefEqProofs (maxSteps := 2000000) [-selQ_sel, h_4]
          obtain ⟨v6, h_5, H⟩ := HS.bnd H
          try simp -implicitDefEqProofs (maxSteps := 2000000) [-selQ_sel, h_4, h_5]
          obtain ⟨v7, h_6, H⟩ := HS.bnd H
          try simp -implicitDefEqProofs (maxSteps := 2000000) [-selQ_sel, h_4, h_5, h_6]
          refine Hid.selQ (fun h_7 => ?_) (fun h_7 => ?_)
          · replace H := HS.cnd_t h_7 H
            try simp -implicitDefEqProofs (maxSteps := 2000000) [-selQ_sel, h_4, h_5, h_6, h_7]
            refine Hid.selQ (fun h_8 => ?_) (fun h_8 => ?_)
            · replace H := HS.cnd_t h_8 H
              try simp -implicitDefEqProofs (maxSteps := 2000000) [-selQ_sel, h_4, h_5, h_6, h_7, h_8]
              refine Hid.brV (fun h_9 => ?_) (fun h_9 => ?_)
              · replace H := HS.cnd_t h_9 H
                try simp -implicitDefEqProofs (maxSteps := 2000000) [-selQ_sel, h_4, h_5, h_6, h_7, h_8, h_9]
                have hr := (HS.some H).symm; subst hr
                exact Hid.mk ⟨spec_PathOk_l0_S a0 ((IntKind.i64.wrap (x4 + v7)), (IntKind.i64.wrap (x5 + 1))), Wk.ofk [0] hk (by rfl) (by simp -implicitDefEqProofs [spec_PathOk_l0_S, h_4, h_5, h_6, h_7, h_8, h_9]) (by simp -implicitDefEqProofs [spec_PathOk_l0_S, h_4, h_5, h_6, h_7, h_8, h_9]), hR⟩
              · replace H := HS.cnd_f h_9 H
                try simp -implicitDefEqProofs (maxSteps := 2000000) [-selQ_sel, h_4, h_5, h_6, h_7, h_8, h_9]
                have hr := (HS.some H).symm; subst hr
                exact Hid.mk ⟨(spec_PathOk_l0_X a0 (.inr ())).2, Wk.ofk [] hk (by rfl) (by simp -implicitDefEqProofs [spec_PathOk_l0_X, h_4, h_5, h_6, h_7, h_8, h_9]) (by simp -implicitDefEqProofs [spec_PathOk_l0_X, h_4, h_5, h_6, h_7, h_8, h_9]), hR⟩
            · replace H := HS.cnd_f h_8 H
              try simp -implicitDefEqProofs (maxSteps := 2000000) [-selQ_sel, h_4, h_5, h_6, h_7, h_8]
              obtain ⟨v8, h_10, H⟩ := HS.bnd H
              try simp -implicitDefEqProofs (maxSteps := 2000000) [-selQ_sel, h_4, h_5, h_6, h_7, h_8, h_10]
              refine Hid.selQ (fun h_11 => ?_) (fun h_11 => ?_)
              · replace H := HS.cnd_t h_11 H
                try simp -implicitDefEqProofs (maxSteps := 2000000) [-selQ_sel, h_4, h_5, h_6, h_7, h_8, h_10, h_11]
                refine Hid.brV (fun h_12 => ?_) (fun h_12 => ?_)
                · replace H := HS.cnd_t h_12 H
                  try simp -implicitDefEqProofs (maxSteps := 2000000) [-selQ_sel, h_4, h_5, h_6, h_7, h_8, h_10, h_11, h_12]
                  have hr := (HS.some H).symm; subst hr
                  exact Hid.mk ⟨spec_PathOk_l0_S a0 ((IntKind.i64.wrap (x4 + v7)), (IntKind.i64.wrap (x5 + 1))), Wk.ofk [0] hk (by rfl) (by simp -implicitDefEqProofs [spec_PathOk_l0_S, h_4, h_5, h_6, h_7, h_8, h_10, h_11, h_12]) (by simp -implicitDefEqProofs [spec_PathOk_l0_S, h_4, h_5, h_6, h_7, h_8, h_10, h_11, h_12]), hR⟩
                · replace H := HS.cnd_f h_12 H
                  try simp -implicitDefEqProofs (maxSteps := 2000000) [-selQ_sel, h_4, h_5, h_6, h_7, h_8, h_10, h_11, h_12]
                  have hr := (HS.some H).symm; subst hr
                  exact Hid.mk ⟨(spec_PathOk_l0_X a0 (.inr ())).2, Wk.ofk [] hk (by rfl) (by simp -implicitDefEqProofs [spec_PathOk_l0_X, h_4, h_5, h_6, h_7, h_8, h_10, h_11, h_12]) (by simp -implicitDefEqProofs [spec_PathOk_l0_X, h_4, h_5, h_6, h_7, h_8, h_10, h_11, h_12]), hR⟩
              · replace H := HS.cnd_f h_11 H
                try simp -implicitDefEqProofs (maxSteps := 2000000) [-selQ_sel, h_4, h_5, h_6, h_7, h_8, h_10, h_11]
                have hr := (HS.some H).symm; subst hr
                exact Hid.mk ⟨spec_PathOk_l0_S a0 ((IntKind.i64.wrap (x4 + v7)), (IntKind.i64.wrap (x5 + 1))), Wk.ofk [0] hk (by rfl) (by simp -implicitDefEqProofs [spec_PathOk_l0_S, h_4, h_5, h_6, h_7, h_8, h_10, h_11]) (by simp -implicitDefEqProofs [spec_PathOk_l0_S, h_4, h_5, h_6, h_7, h_8, h_10, h_11]), hR⟩
          · replace H := HS.cnd_f h_7 H
            try simp -implicitDefEqProofs (maxSteps := 2000000) [-selQ_sel, h_4, h_5, h_6, h_7]
            have hr := (HS.some H).symm; subst hr
            exact Hid.mk ⟨(spec_PathOk_l0_X a0 (.inr ())).2, Wk.ofk [] hk (by rfl) (by simp -implicitDefEqProofs [spec_PathOk_l0_X, h_4, h_5, h_6, h_7]) (by simp -implicitDefEqProofs [spec_PathOk_l0_X, h_4, h_5, h_6, h_7]), hR⟩
      · rcases q with y9 | ⟨⟩
        · dsimp only at H
          try simp -implicitDefEqProofs (maxSteps := 2000000) [-selQ_sel, h_1, h_2, spec_PathOk_l0_X]
          obtain ⟨q, h_13, H⟩ := HS.bnd H
          refine Hid.mk (Tr.weak (s' := (spec_PathOk_l1_S a0 y9) 0) (Wk.ofk [0] hk (by rfl) (by simp -implicitDefEqProofs [spec_PathOk_l1_S, h_1, h_2]) (by simp -implicitDefEqProofs [spec_PathOk_l1_S, h_1, h_2])) ?_)
          refine wp_loop_of (S := (spec_PathOk_l1_S a0 y9)) (f := (spec_PathOk_l1 a0 y9)) (xt := (spec_PathOk_l1_X a0 y9)) ?_ ?_ h_13 ?_
          · intro q; rcases q with ⟨⟩ | ⟨⟩ <;> simp [spec_PathOk_l1_X]
          · clear H h_13 q
            rintro x12 o R hf hR
            have H : HS (spec_PathOk_l1 a0 y9 x12) o := hf
            clear hf; unfold spec_PathOk_l1 at H
            try simp -implicitDefEqProofs at H
            refine Tr.of_vc (cl := tabC [(224, spec_NeedOf_x), (196, spec_PointOk_x)]) (E := E0) [] (tab_cons k_spec_NeedOf (tab_cons k_spec_PointOk tab_nil)) hm (by rw [hn]; decide +kernel) ?_
            try simp -implicitDefEqProofs (maxSteps := 2000000) [-selQ_sel, spec_PathOk_l1_S]
            refine Hid.brV (fun h_14 => ?_) (fun h_14 => ?_)
            · replace H := HS.cnd_t h_14 H
              try simp -implicitDefEqProofs (maxSteps := 2000000) [-selQ_sel, h_14]
              have hr := (HS.some H).symm; subst hr
              exact Hid.mk ⟨(spec_PathOk_l1_X a0 y9 (.inl ())).2, Wk.ofk [0] hk (by rfl) (by simp -implicitDefEqProofs [spec_PathOk_l1_X, h_14]) (by simp -implicitDefEqProofs [spec_PathOk_l1_X, h_14]), hR⟩
            · replace H := HS.cnd_f h_14 H
              try simp -implicitDefEqProofs (maxSteps := 2000000) [-selQ_sel, h_14]
              obtain ⟨v13, h_15, H⟩ := HS.bnd H
              try simp -implicitDefEqProofs (maxSteps := 2000000) [-selQ_sel, h_14, h_15]
              obtain ⟨v14, h_16, H⟩ := HS.bnd H
              try simp -implicitDefEqProofs (maxSteps := 2000000) [-selQ_sel, h_14, h_15, h_16]
              refine Hid.brV (fun h_17 => ?_) (fun h_17 => ?_)
              · replace H := HS.cnd_t h_17 H
                try simp -implicitDefEqProofs (maxSteps := 2000000) [-selQ_sel, h_14, h_15, h_16, h_17]
                have hr := (HS.some H).symm; subst hr
                exact Hid.mk ⟨spec_PathOk_l1_S a0 y9 (IntKind.i64.wrap (x12 + 1)), Wk.ofk [0] hk (by rfl) (by simp -implicitDefEqProofs [spec_PathOk_l1_S, h_14, h_15, h_16, h_17]) (by simp -implicitDefEqProofs [spec_PathOk_l1_S, h_14, h_15, h_16, h_17]), hR⟩
              · replace H := HS.cnd_f h_17 H
                try simp -implicitDefEqProofs (maxSteps := 2000000) [-selQ_sel, h_14, h_15, h_16, h_17]
                have hr := (HS.some H).symm; subst hr
                exact Hid.mk ⟨(spec_PathOk_l1_X a0 y9 (.inr ())).2, Wk.ofk [] hk (by rfl) (by simp -implicitDefEqProofs [spec_PathOk_l1_X, h_14, h_15, h_16, h_17]) (by simp -implicitDefEqProofs [spec_PathOk_l1_X, h_14, h_15, h_16, h_17]), hR⟩
          · rcases q with ⟨⟩ | ⟨⟩
            · dsimp only at H
              try simp -implicitDefEqProofs (maxSteps := 2000000) [-selQ_sel, h_1, h_2, spec_PathOk_l1_X]
              have hr := (HS.some H).symm; subst hr
              refine Hid.mk ⟨_, Wk.refl _, ?_⟩
              try simp -implicitDefEqProofs (maxSteps := 2000000) [-selQ_sel, h_1, h_2]
            · dsimp only at H
              try simp -implicitDefEqProofs (maxSteps := 2000000) [-selQ_sel, h_1, h_2, spec_PathOk_l1_X]
              have hr := (HS.some H).symm; subst hr
              refine Hid.mk ⟨_, Wk.refl _, ?_⟩
              try simp -implicitDefEqProofs (maxSteps := 2000000) [-selQ_sel, h_1, h_2]
        · dsimp only at H
          try simp -implicitDefEqProofs (maxSteps := 2000000) [-selQ_sel, h_1, h_2, spec_PathOk_l0_X]
          have hr := (HS.some H).symm; subst hr
          refine Hid.mk ⟨_, Wk.refl _, ?_⟩
          try simp -implicitDefEqProofs (maxSteps := 2000000) [-selQ_sel, h_1, h_2]
    · replace H := HS.cnd_f h_2 H
      try simp -implicitDefEqProofs (maxSteps := 2000000) [-selQ_sel, h_1, h_2]
      have hr := (HS.some H).symm; subst hr
      refine Hid.mk ⟨_, Wk.refl _, ?_⟩
      try simp -implicitDefEqProofs (maxSteps := 2000000) [-selQ_sel, h_1, h_2]
  · replace H := HS.cnd_f h_1 H
    try simp -implicitDefEqProofs (maxSteps := 2000000) [-selQ_sel, h_1]
    have hr := (HS.some H).symm; subst hr
    refine Hid.mk ⟨_, Wk.refl _, ?_⟩
    try simp -implicitDefEqProofs (maxSteps := 2000000) [-selQ_sel, h_1]
theorem laws_FnLayers_ok0 (hm : Try.prog.follows .mixedOrders = true) (k_laws_big : Sound Try.prog 28 laws_big_x) (k_spec_DrawRightSurface : Sound Try.prog 29 spec_DrawRightSurface_x) (k_impl_SurfaceNew : Sound Try.prog 30 impl_SurfaceNew_x) (k_impl_LayOver : Sound Try.prog 31 impl_LayOver_x) (k_spec_DrawPlaces : Sound Try.prog 32 spec_DrawPlaces_x) (k_impl_SameSurface : Sound Try.prog 33 impl_SameSurface_x) (k_impl_SurfaceOk : Sound Try.prog 34 impl_SurfaceOk_x) (k_spec_LayOver : Sound Try.prog 36 spec_LayOver_x) (k_spec_SameSurface : Sound Try.prog 35 spec_SameSurface_x) : Sound Try.prog 6 laws_FnLayers_x := by
  refine xOf_sound fun q r h => ?_
  revert h; revert r; revert q; intro a0 r h
  refine fn_ok E0 hm Try.func6 rfl (by decide +kernel) (by rfl) fun Γ hn hk => ?_
  dsimp only [laws_FnLayers_e, laws_FnLayers_v]
  replace hn : Γ.n = 76 := hn
  replace hk : Γ.k = 0 := hk
  have H : HS (laws_FnLayers a0) r := h
  clear h; unfold laws_FnLayers at H
  try simp -implicitDefEqProofs at H
  refine Tr.of_vc (cl := tabC [(28, laws_big_x), (29, spec_DrawRightSurface_x), (30, impl_SurfaceNew_x), (31, impl_LayOver_x), (32, spec_DrawPlaces_x), (33, impl_SameSurface_x), (34, impl_SurfaceOk_x), (36, spec_LayOver_x), (35, spec_SameSurface_x)]) (E := E0) [] (tab_cons k_laws_big (tab_cons k_spec_DrawRightSurface (tab_cons k_impl_SurfaceNew (tab_cons k_impl_LayOver (tab_cons k_spec_DrawPlaces (tab_cons k_impl_SameSurface (tab_cons k_impl_SurfaceOk (tab_cons k_spec_LayOver (tab_cons k_spec_SameSurface tab_nil))))))))) hm (by rw [hn]; decide +kernel) ?_
  try simp -implicitDefEqProofs +decide (maxSteps := 2000000) [-selQ_sel, hokQ_of]
  obtain ⟨v1, h_1, H⟩ := HS.bnd H
  try simp -implicitDefEqProofs +decide (maxSteps := 2000000) [-selQ_sel, hokQ_of, h_1]
  refine Hid.brV (fun h_2 => ?_) (fun h_2 => ?_)
  · replace H := HS.cnd_t h_2 H
    try simp -implicitDefEqProofs +decide (maxSteps := 2000000) [-selQ_sel, hokQ_of, h_1, h_2]
    have hr := (HS.some H).symm; subst hr
    refine Hid.mk ⟨_, Wk.refl _, ?_⟩
    try simp -implicitDefEqProofs +decide (maxSteps := 2000000) [-selQ_sel, hokQ_of, h_1, h_2]
  · replace H := HS.cnd_f h_2 H
    try simp -implicitDefEqProofs +decide (maxSteps := 2000000) [-selQ_sel, hokQ_of, h_1, h_2]
    obtain ⟨v2, h_3, H⟩ := HS.bnd H
    try simp -implicitDefEqProofs +decide (maxSteps := 2000000) [-selQ_sel, hokQ_of, h_1, h_2, h_3]
    obtain ⟨⟨w4, w5⟩, h_4, H⟩ := HS.bnd H
    dsimp only at H
    try simp -implicitDefEqProofs +decide (maxSteps := 2000000) [-selQ_sel, hokQ_of, h_1, h_2, h_3, h_4]
    obtain ⟨⟨w7, w8, w9⟩, h_5, H⟩ := HS.bnd H
    dsimp only at H
    try simp -implicitDefEqProofs +decide (maxSteps := 2000000) [-selQ_sel, hokQ_of, h_1, h_2, h_3, h_4, h_5]
    obtain ⟨v10, h_6, H⟩ := HS.bnd H
    try simp -implicitDefEqProofs +decide (maxSteps := 2000000) [-selQ_sel, hokQ_of, h_1, h_2, h_3, h_4, h_5, h_6]
    obtain ⟨v11, h_7, H⟩ := HS.bnd H
    try simp -implicitDefEqProofs +decide (maxSteps := 2000000) [-selQ_sel, hokQ_of, h_1, h_2, h_3, h_4, h_5, h_6, h_7]
    obtain ⟨⟨w13, w14, w15⟩, h_8, H⟩ := HS.bnd H
    dsimp only at H
    try simp -implicitDefEqProofs +decide (maxSteps := 2000000) [-selQ_sel, hokQ_of, h_1, h_2, h_3, h_4, h_5, h_6, h_7, h_8]
    obtain ⟨⟨w17, w18, w19⟩, h_9, H⟩ := HS.bnd H
    dsimp only at H
    try simp -implicitDefEqProofs +decide (maxSteps := 2000000) [-selQ_sel, hokQ_of, h_1, h_2, h_3, h_4, h_5, h_6, h_7, h_8, h_9]
    obtain ⟨⟨w21, w22⟩, h_10, H⟩ := HS.bnd H
    dsimp only at H
    try simp -implicitDefEqProofs +decide (maxSteps := 2000000) [-selQ_sel, hokQ_of, h_1, h_2, h_3, h_4, h_5, h_6, h_7, h_8, h_9, h_10]
    refine Hid.selQ (fun h_11 => ?_) (fun h_11 => ?_)
    · replace H := HS.cnd_t h_11 H
      try simp -implicitDefEqProofs +decide (maxSteps := 2000000) [-selQ_sel, hokQ_of, h_1, h_2, h_3, h_4, h_5, h_6, h_7, h_8, h_9, h_10, h_11]
      refine Hid.selQ (fun h_12 => ?_) (fun h_12 => ?_)
      · replace H := HS.cnd_t h_12 H
        try simp -implicitDefEqProofs +decide (maxSteps := 2000000) [-selQ_sel, hokQ_of, h_1, h_2, h_3, h_4, h_5, h_6, h_7, h_8, h_9, h_10, h_11, h_12]
        have hr := (HS.some H).symm; subst hr
        refine Hid.mk ⟨_, Wk.refl _, ?_⟩
        try simp -implicitDefEqProofs +decide (maxSteps := 2000000) [-selQ_sel, hokQ_of, h_1, h_2, h_3, h_4, h_5, h_6, h_7, h_8, h_9, h_10, h_11, h_12]
      · replace H := HS.cnd_f h_12 H
        try simp -implicitDefEqProofs +decide (maxSteps := 2000000) [-selQ_sel, hokQ_of, h_1, h_2, h_3, h_4, h_5, h_6, h_7, h_8, h_9, h_10, h_11, h_12]
        obtain ⟨v23, h_13, H⟩ := HS.bnd H
        have k_14 := impl_SameSurface_k ((TSurface.mk w7 w8 w9).w) ((TSurface.mk w7 w8 w9).h) ((TSurface.mk w7 w8 w9).pix) v2.w v2.h v2.pix
        simp -implicitDefEqProofs [-impl_SameSurface_k] at k_14
        try simp -implicitDefEqProofs +decide (maxSteps := 2000000) [-selQ_sel, hokQ_of, h_1, h_2, h_3, h_4, h_5, h_6, h_7, h_8, h_9, h_10, h_11, h_12, h_13, k_14]
        refine Hid.selQ (fun h_15 => ?_) (fun h_15 => ?_)
        · replace H := HS.cnd_t h_15 H
          try simp -implicitDefEqProofs +decide (maxSteps := 2000000) [-selQ_sel, hokQ_of, h_1, h_2, h_3, h_4, h_5, h_6, h_7, h_8, h_9, h_10, h_11, h_12, h_13, k_14, h_15]
          obtain ⟨v24, h_16, H⟩ := HS.bnd H
          have k_17 := impl_SameSurface_k ((TSurface.mk w13 w14 w15).w) ((TSurface.mk w13 w14 w15).h) ((TSurface.mk w13 w14 w15).pix) v2.w v2.h v2.pix
          simp -implicitDefEqProofs [-impl_SameSurface_k] at k_17
          try simp -implicitDefEqProofs +decide (maxSteps := 2000000) [-selQ_sel, hokQ_of, h_1, h_2, h_3, h_4, h_5, h_6, h_7, h_8, h_9, h_10, h_11, h_12, h_13, k_14, h_15, h_16, k_17]
          refine Hid.selQ (fun h_18 => ?_) (fun h_18 => ?_)
          · replace H := HS.cnd_t h_18 H
            try simp -implicitDefEqProofs +decide (maxSteps := 2000000) [-selQ_sel, hokQ_of, h_1, h_2, h_3, h_4, h_5, h_6, h_7, h_8, h_9, h_10, h_11, h_12, h_13, k_14, h_15, h_16, k_17, h_18]
            obtain ⟨v25, h_19, H⟩ := HS.bnd H
            have k_20 := impl_SurfaceOk_k ((TSurface.mk w17 w18 w19).w) ((TSurface.mk w17 w18 w19).h) ((TSurface.mk w17 w18 w19).pix)
            simp -implicitDefEqProofs [-impl_SurfaceOk_k] at k_20
            try simp -implicitDefEqProofs +decide (maxSteps := 2000000) [-selQ_sel, hokQ_of, h_1, h_2, h_3, h_4, h_5, h_6, h_7, h_8, h_9, h_10, h_11, h_12, h_13, k_14, h_15, h_16, k_17, h_18, h_19, k_20]
            refine Hid.selQ (fun h_21 => ?_) (fun h_21 => ?_)
            · replace H := HS.cnd_t h_21 H
              try simp -implicitDefEqProofs +decide (maxSteps := 2000000) [-selQ_sel, hokQ_of, h_1, h_2, h_3, h_4, h_5, h_6, h_7, h_8, h_9, h_10, h_11, h_12, h_13, k_14, h_15, h_16, k_17, h_18, h_19, k_20, h_21]
              obtain ⟨v26, h_22, H⟩ := HS.bnd H
              try simp -implicitDefEqProofs +decide (maxSteps := 2000000) [-selQ_sel, hokQ_of, h_1, h_2, h_3, h_4, h_5, h_6, h_7, h_8, h_9, h_10, h_11, h_12, h_13, k_14, h_15, h_16, k_17, h_18, h_19, k_20, h_21, h_22]
              obtain ⟨v27, h_23, H⟩ := HS.bnd H
              have k_24 := spec_SameSurface_k ((TSurface.mk w17 w18 w19).w) ((TSurface.mk w17 w18 w19).h) ((TSurface.mk w17 w18 w19).pix) v26.w v26.h v26.pix
              simp -implicitDefEqProofs [-spec_SameSurface_k] at k_24
              try simp -implicitDefEqProofs +decide (maxSteps := 2000000) [-selQ_sel, hokQ_of, h_1, h_2, h_3, h_4, h_5, h_6, h_7, h_8, h_9, h_10, h_11, h_12, h_13, k_14, h_15, h_16, k_17, h_18, h_19, k_20, h_21, h_22, h_23, k_24]
              refine Hid.selQ (fun h_25 => ?_) (fun h_25 => ?_)
              · replace H := HS.cnd_t h_25 H
                try simp -implicitDefEqProofs +decide (maxSteps := 2000000) [-selQ_sel, hokQ_of, h_1, h_2, h_3, h_4, h_5, h_6, h_7, h_8, h_9, h_10, h_11, h_12, h_13, k_14, h_15, h_16, k_17, h_18, h_19, k_20, h_21, h_22, h_23, k_24, h_25]
                obtain ⟨v28, h_26, H⟩ := HS.bnd H
                try simp -implicitDefEqProofs +decide (maxSteps := 2000000) [-selQ_sel, hokQ_of, h_1, h_2, h_3, h_4, h_5, h_6, h_7, h_8, h_9, h_10, h_11, h_12, h_13, k_14, h_15, h_16, k_17, h_18, h_19, k_20, h_21, h_22, h_23, k_24, h_25, h_26]
                have hr := (HS.some H).symm; subst hr
                refine Hid.mk ⟨_, Wk.refl _, ?_⟩
                try simp -implicitDefEqProofs +decide (maxSteps := 2000000) [-selQ_sel, hokQ_of, h_1, h_2, h_3, h_4, h_5, h_6, h_7, h_8, h_9, h_10, h_11, h_12, h_13, k_14, h_15, h_16, k_17, h_18, h_19, k_20, h_21, h_22, h_23, k_24, h_25, h_26]
              · replace H := HS.cnd_f h_25 H
                try simp -implicitDefEqProofs +decide (maxSteps := 2000000) [-selQ_sel, hokQ_of, h_1, h_2, h_3, h_4, h_5, h_6, h_7, h_8, h_9, h_10, h_11, h_12, h_13, k_14, h_15, h_16, k_17, h_18, h_19, k_20, h_21, h_22, h_23, k_24, h_25]
                have hr := (HS.some H).symm; subst hr
                refine Hid.mk ⟨_, Wk.refl _, ?_⟩
                try simp -implicitDefEqProofs +decide (maxSteps := 2000000) [-selQ_sel, hokQ_of, h_1, h_2, h_3, h_4, h_5, h_6, h_7, h_8, h_9, h_10, h_11, h_12, h_13, k_14, h_15, h_16, k_17, h_18, h_19, k_20, h_21, h_22, h_23, k_24, h_25]
            · replace H := HS.cnd_f h_21 H
              try simp -implicitDefEqProofs +decide (maxSteps := 2000000) [-selQ_sel, hokQ_of, h_1, h_2, h_3, h_4, h_5, h_6, h_7, h_8, h_9, h_10, h_11, h_12, h_13, k_14, h_15, h_16, k_17, h_18, h_19, k_20, h_21]
              have hr := (HS.some H).symm; subst hr
              refine Hid.mk ⟨_, Wk.refl _, ?_⟩
              try simp -implicitDefEqProofs +decide (maxSteps := 2000000) [-selQ_sel, hokQ_of, h_1, h_2, h_3, h_4, h_5, h_6, h_7, h_8, h_9, h_10, h_11, h_12, h_13, k_14, h_15, h_16, k_17, h_18, h_19, k_20, h_21]
          · replace H := HS.cnd_f h_18 H
            try simp -implicitDefEqProofs +decide (maxSteps := 2000000) [-selQ_sel, hokQ_of, h_1, h_2, h_3, h_4, h_5, h_6, h_7, h_8, h_9, h_10, h_11, h_12, h_13, k_14, h_15, h_16, k_17, h_18]
            have hr := (HS.some H).symm; subst hr
            refine Hid.mk ⟨_, Wk.refl _, ?_⟩
            try simp -implicitDefEqProofs +decide (maxSteps := 2000000) [-selQ_sel, hokQ_of, h_1, h_2, h_3, h_4, h_5, h_6, h_7, h_8, h_9, h_10, h_11, h_12, h_13, k_14, h_15, h_16, k_17, h_18]
        · replace H := HS.cnd_f h_15 H
          try simp -implicitDefEqProofs +decide (maxSteps := 2000000) [-selQ_sel, hokQ_of, h_1, h_2, h_3, h_4, h_5, h_6, h_7, h_8, h_9, h_10, h_11, h_12, h_13, k_14, h_15]
          have hr := (HS.some H).symm; subst hr
          refine Hid.mk ⟨_, Wk.refl _, ?_⟩
          try simp -implicitDefEqProofs +decide (maxSteps := 2000000) [-selQ_sel, hokQ_of, h_1, h_2, h_3, h_4, h_5, h_6, h_7, h_8, h_9, h_10, h_11, h_12, h_13, k_14, h_15]
    · replace H := HS.cnd_f h_11 H
      try simp -implicitDefEqProofs +decide (maxSteps := 2000000) [-selQ_sel, hokQ_of, h_1, h_2, h_3, h_4, h_5, h_6, h_7, h_8, h_9, h_10, h_11]
      have hr := (HS.some H).symm; subst hr
      refine Hid.mk ⟨_, Wk.refl _, ?_⟩
      try simp -implicitDefEqProofs +decide (maxSteps := 2000000) [-selQ_sel, hokQ_of, h_1, h_2, h_3, h_4, h_5, h_6, h_7, h_8, h_9, h_10, h_11]
theorem spec_l13Part_ok0 (hm : Try.prog.follows .mixedOrders = true) (k_spec_Times255 : Sound Try.prog 123 spec_Times255_x) (k_spec_RoundDiv : Sound Try.prog 124 spec_RoundDiv_x) : Sound Try.prog 122 spec_l13Part_x := by
  refine xOf_sound fun q r h => ?_
  obtain ⟨a0, a1, a2, a3, a4⟩ := q
  refine fn_ok E0 hm Try.func122 rfl (by decide +kernel) (by rfl) fun Γ hn hk => ?_
  dsimp only [spec_l13Part_e, spec_l13Part_v]
  replace hn : Γ.n = 62 := hn
  replace hk : Γ.k = 0 := hk
  have H : HS (spec_l13Part a0 a1 a2 a3 a4) r := h
  clear h; unfold spec_l13Part at H
  try simp -implicitDefEqProofs at H
  refine Tr.of_vc (cl := tabC [(123, spec_Times255_x), (124, spec_RoundDiv_x)]) (E := E0) [] (tab_cons k_spec_Times255 (tab_cons k_spec_RoundDiv tab_nil)) hm (by rw [hn]; decide +kernel) ?_
  try simp -implicitDefEqProofs (maxSteps := 2000000) [-selQ_sel]
  refine Hid.brV (fun h_1 => ?_) (fun h_1 => ?_)
  · replace H := HS.cnd_t h_1 H
    try simp -implicitDefEqProofs (maxSteps := 2000000) [-selQ_sel, h_1]
    obtain ⟨v1, h_2, H⟩ := HS.bnd H
    try simp -implicitDefEqProofs (maxSteps := 2000000) [-selQ_sel, h_1, h_2]
    refine Hid.brV (fun h_3 => ?_) (fun h_3 => ?_)
    · replace H := HS.cnd_t h_3 H
      try simp -implicitDefEqProofs (maxSteps := 2000000) [-selQ_sel, h_1, h_2, h_3]
      have hr := (HS.some H).symm; subst hr
      refine Hid.mk ⟨_, Wk.refl _, ?_⟩
      try simp -implicitDefEqProofs (maxSteps := 2000000) [-selQ_sel, h_1, h_2, h_3]
    · replace H := HS.cnd_f h_3 H
      try simp -implicitDefEqProofs (maxSteps := 2000000) [-selQ_sel, h_1, h_2, h_3]
      have hr := (HS.some H).symm; subst hr
      refine Hid.mk ⟨_, Wk.refl _, ?_⟩
      try simp -implicitDefEqProofs (maxSteps := 2000000) [-selQ_sel, h_1, h_2, h_3]
  · replace H := HS.cnd_f h_1 H
    try simp -implicitDefEqProofs (maxSteps := 2000000) [-selQ_sel, h_1]
    refine Hid.brV (fun h_4 => ?_) (fun h_4 => ?_)
    · replace H := HS.cnd_t h_4 H
      try simp -implicitDefEqProofs (maxSteps := 2000000) [-selQ_sel, h_1, h_4]
      obtain ⟨v2, h_5, H⟩ := HS.bnd H
      try simp -implicitDefEqProofs (maxSteps := 2000000) [-selQ_sel, h_1, h_4, h_5]
      refine Hid.brV (fun h_6 => ?_) (fun h_6 => ?_)
      · replace H := HS.cnd_t h_6 H
        try simp -implicitDefEqProofs (maxSteps := 2000000) [-selQ_sel, h_1, h_4, h_5, h_6]
        have hr := (HS.some H).symm; subst hr
        refine Hid.mk ⟨_, Wk.refl _, ?_⟩
        try simp -implicitDefEqProofs (maxSteps := 2000000) [-selQ_sel, h_1, h_4, h_5, h_6]
      · replace H := HS.cnd_f h_6 H
        try simp -implicitDefEqProofs (maxSteps := 2000000) [-selQ_sel, h_1, h_4, h_5, h_6]
        have hr := (HS.some H).symm; subst hr
        refine Hid.mk ⟨_, Wk.refl _, ?_⟩
        try simp -implicitDefEqProofs (maxSteps := 2000000) [-selQ_sel, h_1, h_4, h_5, h_6]
    · replace H := HS.cnd_f h_4 H
      try simp -implicitDefEqProofs (maxSteps := 2000000) [-selQ_sel, h_1, h_4]
      refine Hid.brV (fun h_7 => ?_) (fun h_7 => ?_)
      · replace H := HS.cnd_t h_7 H
        try simp -implicitDefEqProofs (maxSteps := 2000000) [-selQ_sel, h_1, h_4, h_7]
        obtain ⟨v3, h_8, H⟩ := HS.bnd H
        try simp -implicitDefEqProofs (maxSteps := 2000000) [-selQ_sel, h_1, h_4, h_7, h_8]
        refine Hid.brV (fun h_9 => ?_) (fun h_9 => ?_)
        · replace H := HS.cnd_t h_9 H
          try simp -implicitDefEqProofs (maxSteps := 2000000) [-selQ_sel, h_1, h_4, h_7, h_8, h_9]
          have hr := (HS.some H).symm; subst hr
          refine Hid.mk ⟨_, Wk.refl _, ?_⟩
          try simp -implicitDefEqProofs (maxSteps := 2000000) [-selQ_sel, h_1, h_4, h_7, h_8, h_9]
        · replace H := HS.cnd_f h_9 H
          try simp -implicitDefEqProofs (maxSteps := 2000000) [-selQ_sel, h_1, h_4, h_7, h_8, h_9]
          have hr := (HS.some H).symm; subst hr
          refine Hid.mk ⟨_, Wk.refl _, ?_⟩
          try simp -implicitDefEqProofs (maxSteps := 2000000) [-selQ_sel, h_1, h_4, h_7, h_8, h_9]
      · replace H := HS.cnd_f h_7 H
        try simp -implicitDefEqProofs (maxSteps := 2000000) [-selQ_sel, h_1, h_4, h_7]
        refine Hid.brV (fun h_10 => ?_) (fun h_10 => ?_)
        · replace H := HS.cnd_t h_10 H
          try simp -implicitDefEqProofs (maxSteps := 2000000) [-selQ_sel, h_1, h_4, h_7, h_10]
          refine Hid.brV (fun h_11 => ?_) (fun h_11 => ?_)
          · replace H := HS.cnd_t h_11 H
            try simp -implicitDefEqProofs (maxSteps := 2000000) [-selQ_sel, h_1, h_4, h_7, h_10, h_11]
            have hr := (HS.some H).symm; subst hr
            refine Hid.mk ⟨_, Wk.refl _, ?_⟩
            try simp -implicitDefEqProofs (maxSteps := 2000000) [-selQ_sel, h_1, h_4, h_7, h_10, h_11]
          · replace H := HS.cnd_f h_11 H
            try simp -implicitDefEqProofs (maxSteps := 2000000) [-selQ_sel, h_1, h_4, h_7, h_10, h_11]
            have hr := (HS.some H).symm; subst hr
            refine Hid.mk ⟨_, Wk.refl _, ?_⟩
            try simp -implicitDefEqProofs (maxSteps := 2000000) [-selQ_sel, h_1, h_4, h_7, h_10, h_11]
        · replace H := HS.cnd_f h_10 H
          try simp -implicitDefEqProofs (maxSteps := 2000000) [-selQ_sel, h_1, h_4, h_7, h_10]
          refine Hid.brV (fun h_12 => ?_) (fun h_12 => ?_)
          · replace H := HS.cnd_t h_12 H
            try simp -implicitDefEqProofs (maxSteps := 2000000) [-selQ_sel, h_1, h_4, h_7, h_10, h_12]
            obtain ⟨v4, h_13, H⟩ := HS.bnd H
            try simp -implicitDefEqProofs (maxSteps := 2000000) [-selQ_sel, h_1, h_4, h_7, h_10, h_12, h_13]
            refine Hid.brV (fun h_14 => ?_) (fun h_14 => ?_)
            · replace H := HS.cnd_t h_14 H
              try simp -implicitDefEqProofs (maxSteps := 2000000) [-selQ_sel, h_1, h_4, h_7, h_10, h_12, h_13, h_14]
              have hr := (HS.some H).symm; subst hr
              refine Hid.mk ⟨_, Wk.refl _, ?_⟩
              try simp -implicitDefEqProofs (maxSteps := 2000000) [-selQ_sel, h_1, h_4, h_7, h_10, h_12, h_13, h_14]
            · replace H := HS.cnd_f h_14 H
              try simp -implicitDefEqProofs (maxSteps := 2000000) [-selQ_sel, h_1, h_4, h_7, h_10, h_12, h_13, h_14]
              have hr := (HS.some H).symm; subst hr
              refine Hid.mk ⟨_, Wk.refl _, ?_⟩
              try simp -implicitDefEqProofs (maxSteps := 2000000) [-selQ_sel, h_1, h_4, h_7, h_10, h_12, h_13, h_14]
          · replace H := HS.cnd_f h_12 H
            try simp -implicitDefEqProofs (maxSteps := 2000000) [-selQ_sel, h_1, h_4, h_7, h_10, h_12]
            refine Hid.brV (fun h_15 => ?_) (fun h_15 => ?_)
            · replace H := HS.cnd_t h_15 H
              try simp -implicitDefEqProofs (maxSteps := 2000000) [-selQ_sel, h_1, h_4, h_7, h_10, h_12, h_15]
              have hr := (HS.some H).symm; subst hr
              refine Hid.mk ⟨_, Wk.refl _, ?_⟩
              try simp -implicitDefEqProofs (maxSteps := 2000000) [-selQ_sel, h_1, h_4, h_7, h_10, h_12, h_15]
            · replace H := HS.cnd_f h_15 H
              try simp -implicitDefEqProofs (maxSteps := 2000000) [-selQ_sel, h_1, h_4, h_7, h_10, h_12, h_15]
              have hr := (HS.some H).symm; subst hr
              refine Hid.mk ⟨_, Wk.refl _, ?_⟩
              try simp -implicitDefEqProofs (maxSteps := 2000000) [-selQ_sel, h_1, h_4, h_7, h_10, h_12, h_15]
theorem spec_l14Surface_ok0 (hm : Try.prog.follows .mixedOrders = true) (k_spec_l01Below : Sound Try.prog 110 spec_l01Below_x) (k_spec_SurfaceNew : Sound Try.prog 170 spec_SurfaceNew_x) (k_spec_l11Mask : Sound Try.prog 114 spec_l11Mask_x) (k_spec_l12Paint : Sound Try.prog 115 spec_l12Paint_x) (k_spec_l01PickInt : Sound Try.prog 171 spec_l01PickInt_x) (k_spec_PaintMask : Sound Try.prog 67 spec_PaintMask_x) : Sound Try.prog 100 spec_l14Surface_x := by
  refine xOf_sound fun q r h => ?_
  revert h; revert r; revert q; intro a0 r h
  refine fn_ok E0 hm Try.func100 rfl (by decide +kernel) (by rfl) fun Γ hn hk => ?_
  dsimp only [spec_l14Surface_e, spec_l14Surface_v]
  replace hn : Γ.n = 35 := hn
  replace hk : Γ.k = 1 := hk
  have H : HS (spec_l14Surface a0) r := h
  clear h; unfold spec_l14Surface at H
  try simp -implicitDefEqProofs at H
  refine Tr.of_vc (cl := tabC [(110, spec_l01Below_x), (170, spec_SurfaceNew_x), (114, spec_l11Mask_x), (115, spec_l12Paint_x), (171, spec_l01PickInt_x), (67, spec_PaintMask_x)]) (E := E0) [] (tab_cons k_spec_l01Below (tab_cons k_spec_SurfaceNew (tab_cons k_spec_l11Mask (tab_cons k_spec_l12Paint (tab_cons k_spec_l01PickInt (tab_cons k_spec_PaintMask tab_nil)))))) hm (by rw [hn]; decide +kernel) ?_
  try simp -implicitDefEqProofs +decide (maxSteps := 2000000) [-selQ_sel, hokQ_of]
  obtain ⟨⟨w2, w3⟩, h_1, H⟩ := HS.bnd H
  dsimp only at H
  try simp -implicitDefEqProofs +decide (maxSteps := 2000000) [-selQ_sel, hokQ_of, h_1]
  obtain ⟨⟨w5, w6⟩, h_2, H⟩ := HS.bnd H
  dsimp only at H
  try simp -implicitDefEqProofs +decide (maxSteps := 2000000) [-selQ_sel, hokQ_of, h_1, h_2]
  obtain ⟨⟨w8, w9⟩, h_3, H⟩ := HS.bnd H
  dsimp only at H
  try simp -implicitDefEqProofs +decide (maxSteps := 2000000) [-selQ_sel, hokQ_of, h_1, h_2, h_3]
  obtain ⟨q, h_4, H⟩ := HS.bnd H
  refine Hid.mk (Tr.weak (s' := spec_l14Surface_l0_S (0, w6.b, w6.i, w6.h, w8.w, w8.h, w8.pix)) (Wk.ofk [0, 1, 2] hk (by rfl) (by simp -implicitDefEqProofs [spec_l14Surface_l0_S, h_1, h_2, h_3]) (by simp -implicitDefEqProofs [spec_l14Surface_l0_S, h_1, h_2, h_3])) ?_)
  refine wp_loop_of (S := spec_l14Surface_l0_S) (f := spec_l14Surface_l0) (xt := spec_l14Surface_l0_X) ?_ ?_ h_4 ?_
  · intro q; rcases q with ⟨y49, y50, y51, y52, y53, y54⟩ <;> simp [spec_l14Surface_l0_X]
  · clear H h_4 q
    rintro ⟨x26, x27, x28, x29, x30, x31, x32⟩ o R hf hR
    have H : HS (spec_l14Surface_l0 (x26, x27, x28, x29, x30, x31, x32)) o := hf
    clear hf; unfold spec_l14Surface_l0 at H
    try simp -implicitDefEqProofs at H
    refine Tr.of_vc (cl := tabC [(110, spec_l01Below_x), (170, spec_SurfaceNew_x), (114, spec_l11Mask_x), (115, spec_l12Paint_x), (171, spec_l01PickInt_x), (67, spec_PaintMask_x)]) (E := E0) [] (tab_cons k_spec_l01Below (tab_cons k_spec_SurfaceNew (tab_cons k_spec_l11Mask (tab_cons k_spec_l12Paint (tab_cons k_spec_l01PickInt (tab_cons k_spec_PaintMask tab_nil)))))) hm (by rw [hn]; decide +kernel) ?_
    try simp -implicitDefEqProofs +decide (maxSteps := 2000000) [-selQ_sel, hokQ_of, spec_l14Surface_l0_S]
    obtain ⟨⟨w34, w35⟩, h_5, H⟩ := HS.bnd H
    dsimp only at H
    have k_6 := spec_l01Below_k 3 ((TL01Cur.mk x27 x28 x29).b) ((TL01Cur.mk x27 x28 x29).i) ((TL01Cur.mk x27 x28 x29).h)
    simp -implicitDefEqProofs [-spec_l01Below_k] at k_6
    try simp -implicitDefEqProofs +decide (maxSteps := 2000000) [-selQ_sel, hokQ_of, h_5, k_6]
    refine Hid.brV (fun h_7 => ?_) (fun h_7 => ?_)
    · replace H := HS.cnd_t h_7 H
      try simp -implicitDefEqProofs +decide (maxSteps := 2000000) [-selQ_sel, hokQ_of, h_5, k_6, h_7]
      have hr := (HS.some H).symm; subst hr
      exact Hid.mk ⟨(spec_l14Surface_l0_X (w35.b, w35.i, w35.h, x30, x31, x32)).2, Wk.ofk [0, 1, 2] hk (by rfl) (by simp -implicitDefEqProofs [spec_l14Surface_l0_X, h_5, k_6, h_7]) (by simp -implicitDefEqProofs [spec_l14Surface_l0_X, h_5, k_6, h_7]), hR⟩
    · replace H := HS.cnd_f h_7 H
      try simp -implicitDefEqProofs +decide (maxSteps := 2000000) [-selQ_sel, hokQ_of, h_5, k_6, h_7]
      obtain ⟨⟨w37, w38⟩, h_8, H⟩ := HS.bnd H
      dsimp only at H
      try simp -implicitDefEqProofs +decide (maxSteps := 2000000) [-selQ_sel, hokQ_of, h_5, k_6, h_7, h_8]
      obtain ⟨⟨w40, w41⟩, h_9, H⟩ := HS.bnd H
      dsimp only at H
      try simp -implicitDefEqProofs +decide (maxSteps := 2000000) [-selQ_sel, hokQ_of, h_5, k_6, h_7, h_8, h_9]
      obtain ⟨⟨w43, w44⟩, h_10, H⟩ := HS.bnd H
      dsimp only at H
      try simp -implicitDefEqProofs +decide (maxSteps := 2000000) [-selQ_sel, hokQ_of, h_5, k_6, h_7, h_8, h_9, h_10]
      obtain ⟨⟨w46, w47⟩, h_11, H⟩ := HS.bnd H
      dsimp only at H
      have k_12 := spec_l01PickInt_k w44.b w44.i w44.h [255, 255, 100, 0]
      simp -implicitDefEqProofs [-spec_l01PickInt_k] at k_12
      try simp -implicitDefEqProofs +decide (maxSteps := 2000000) [-selQ_sel, hokQ_of, h_5, k_6, h_7, h_8, h_9, h_10, h_11, k_12]
      obtain ⟨v48, h_13, H⟩ := HS.bnd H
      have k_14 := spec_PaintMask_k ((TSurface.mk x30 x31 x32).w) ((TSurface.mk x30 x31 x32).h) ((TSurface.mk x30 x31 x32).pix) w37.box.x0 w37.box.y0 w37.box.x1 w37.box.y1 w37.bits w40.kind w40.first.r w40.first.g w40.first.b w40.first.a w40.last.r w40.last.g w40.last.b w40.last.a w40.from_.x w40.from_.y w40.to.x w40.to.y (IntKind.i64.wrap (1 + w43)) w46
      simp -implicitDefEqProofs [-spec_PaintMask_k] at k_14
      try simp -implicitDefEqProofs +decide (maxSteps := 2000000) [-selQ_sel, hokQ_of, h_5, k_6, h_7, h_8, h_9, h_10, h_11, k_12, h_13, k_14]
      have hr := (HS.some H).symm; subst hr
      exact Hid.mk ⟨spec_l14Surface_l0_S ((IntKind.i64.wrap (x26 + 1)), w47.b, w47.i, w47.h, v48.w, v48.h, v48.pix), Wk.ofk [0, 1, 2] hk (by rfl) (by simp -implicitDefEqProofs [spec_l14Surface_l0_S, h_5, k_6, h_7, h_8, h_9, h_10, h_11, k_12, h_13, k_14]) (by simp -implicitDefEqProofs [spec_l14Surface_l0_S, h_5, k_6, h_7, h_8, h_9, h_10, h_11, k_12, h_13, k_14]), hR⟩
  · obtain ⟨y49, y50, y51, y52, y53, y54⟩ := q
    try dsimp only at H
    try simp -implicitDefEqProofs +decide (maxSteps := 2000000) [-selQ_sel, hokQ_of, h_1, h_2, h_3, spec_l14Surface_l0_X]
    have hr := (HS.some H).symm; subst hr
    refine Hid.mk ⟨_, Wk.refl _, ?_⟩
    try simp -implicitDefEqProofs +decide (maxSteps := 2000000) [-selQ_sel, hokQ_of, h_1, h_2, h_3]
theorem spec_PaintOk_ok0 (hm : Try.prog.follows .mixedOrders = true) (k_spec_ColorOk : Sound Try.prog 193 spec_ColorOk_x) (k_spec_PointOk : Sound Try.prog 196 spec_PointOk_x) : Sound Try.prog 125 spec_PaintOk_x := by
  refine xOf_sound fun q r h => ?_
  revert h; revert r; revert q; intro a0 r h
  refine fn_ok E0 hm Try.func125 rfl (by decide +kernel) (by rfl) fun Γ hn hk => ?_
  dsimp only [spec_PaintOk_e, spec_PaintOk_v]
  replace hn : Γ.n = 55 := hn
  replace hk : Γ.k = 0 := hk
  have H : HS (spec_PaintOk a0) r := h
  clear h; unfold spec_PaintOk at H
  try simp -implicitDefEqProofs at H
  refine Tr.of_vc (cl := tabC [(193, spec_ColorOk_x), (196, spec_PointOk_x)]) (E := E0) [] (tab_cons k_spec_ColorOk (tab_cons k_spec_PointOk tab_nil)) hm (by rw [hn]; decide +kernel) ?_
  try simp -implicitDefEqProofs (maxSteps := 2000000) [-selQ_sel]
  obtain ⟨v1, h_1, H⟩ := HS.bnd H
  try simp -implicitDefEqProofs (maxSteps := 2000000) [-selQ_sel, h_1]
  refine Hid.brV (fun h_2 => ?_) (fun h_2 => ?_)
  · replace H := HS.cnd_t h_2 H
    try simp -implicitDefEqProofs (maxSteps := 2000000) [-selQ_sel, h_1, h_2]
    refine Hid.brV (fun h_3 => ?_) (fun h_3 => ?_)
    · replace H := HS.cnd_t h_3 H
      try simp -implicitDefEqProofs (maxSteps := 2000000) [-selQ_sel, h_1, h_2, h_3]
      refine Hid.selQ (fun h_4 => ?_) (fun h_4 => ?_)
      · replace H := HS.cnd_t h_4 H
        try simp -implicitDefEqProofs (maxSteps := 2000000) [-selQ_sel, h_1, h_2, h_3, h_4]
        refine Hid.selQ (fun h_5 => ?_) (fun h_5 => ?_)
        · replace H := HS.cnd_t h_5 H
          try simp -implicitDefEqProofs (maxSteps := 2000000) [-selQ_sel, h_1, h_2, h_3, h_4, h_5]
          have hr := (HS.some H).symm; subst hr
          refine Hid.mk ⟨_, Wk.refl _, ?_⟩
          try simp -implicitDefEqProofs (maxSteps := 2000000) [-selQ_sel, h_1, h_2, h_3, h_4, h_5]
        · replace H := HS.cnd_f h_5 H
          try simp -implicitDefEqProofs (maxSteps := 2000000) [-selQ_sel, h_1, h_2, h_3, h_4, h_5]
          have hr := (HS.some H).symm; subst hr
          refine Hid.mk ⟨_, Wk.refl _, ?_⟩
          try simp -implicitDefEqProofs (maxSteps := 2000000) [-selQ_sel, h_1, h_2, h_3, h_4, h_5]
      · replace H := HS.cnd_f h_4 H
        try simp -implicitDefEqProofs (maxSteps := 2000000) [-selQ_sel, h_1, h_2, h_3, h_4]
        have hr := (HS.some H).symm; subst hr
        refine Hid.mk ⟨_, Wk.refl _, ?_⟩
        try simp -implicitDefEqProofs (maxSteps := 2000000) [-selQ_sel, h_1, h_2, h_3, h_4]
    · replace H := HS.cnd_f h_3 H
      try simp -implicitDefEqProofs (maxSteps := 2000000) [-selQ_sel, h_1, h_2, h_3]
      refine Hid.selQ (fun h_6 => ?_) (fun h_6 => ?_)
      · replace H := HS.cnd_t h_6 H
        try simp -implicitDefEqProofs (maxSteps := 2000000) [-selQ_sel, h_1, h_2, h_3, h_6]
        obtain ⟨v2, h_7, H⟩ := HS.bnd H
        try simp -implicitDefEqProofs (maxSteps := 2000000) [-selQ_sel, h_1, h_2, h_3, h_6, h_7]
        refine Hid.selQ (fun h_8 => ?_) (fun h_8 => ?_)
        · replace H := HS.cnd_t h_8 H
          try simp -implicitDefEqProofs (maxSteps := 2000000) [-selQ_sel, h_1, h_2, h_3, h_6, h_7, h_8]
          obtain ⟨v3, h_9, H⟩ := HS.bnd H
          try simp -implicitDefEqProofs (maxSteps := 2000000) [-selQ_sel, h_1, h_2, h_3, h_6, h_7, h_8, h_9]
          refine Hid.selQ (fun h_10 => ?_) (fun h_10 => ?_)
          · replace H := HS.cnd_t h_10 H
            try simp -implicitDefEqProofs (maxSteps := 2000000) [-selQ_sel, h_1, h_2, h_3, h_6, h_7, h_8, h_9, h_10]
            obtain ⟨v4, h_11, H⟩ := HS.bnd H
            try simp -implicitDefEqProofs (maxSteps := 2000000) [-selQ_sel, h_1, h_2, h_3, h_6, h_7, h_8, h_9, h_10, h_11]
            refine Hid.selQ (fun h_12 => ?_) (fun h_12 => ?_)
            · replace H := HS.cnd_t h_12 H
              try simp -implicitDefEqProofs (maxSteps := 2000000) [-selQ_sel, h_1, h_2, h_3, h_6, h_7, h_8, h_9, h_10, h_11, h_12]
              have hr := (HS.some H).symm; subst hr
              refine Hid.mk ⟨_, Wk.refl _, ?_⟩
              try simp -implicitDefEqProofs (maxSteps := 2000000) [-selQ_sel, h_1, h_2, h_3, h_6, h_7, h_8, h_9, h_10, h_11, h_12]
            · replace H := HS.cnd_f h_12 H
              try simp -implicitDefEqProofs (maxSteps := 2000000) [-selQ_sel, h_1, h_2, h_3, h_6, h_7, h_8, h_9, h_10, h_11, h_12]
              have hr := (HS.some H).symm; subst hr
              refine Hid.mk ⟨_, Wk.refl _, ?_⟩
              try simp -implicitDefEqProofs (maxSteps := 2000000) [-selQ_sel, h_1, h_2, h_3, h_6, h_7, h_8, h_9, h_10, h_11, h_12]
          · replace H := HS.cnd_f h_10 H
            try simp -implicitDefEqProofs (maxSteps := 2000000) [-selQ_sel, h_1, h_2, h_3, h_6, h_7, h_8, h_9, h_10]
            have hr := (HS.some H).symm; subst hr
            refine Hid.mk ⟨_, Wk.refl _, ?_⟩
            try simp -implicitDefEqProofs (maxSteps := 2000000) [-selQ_sel, h_1, h_2, h_3, h_6, h_7, h_8, h_9, h_10]
        · replace H := HS.cnd_f h_8 H
          try simp -implicitDefEqProofs (maxSteps := 2000000) [-selQ_sel, h_1, h_2, h_3, h_6, h_7, h_8]
          have hr := (HS.some H).symm; subst hr
          refine Hid.mk ⟨_, Wk.refl _, ?_⟩
          try simp -implicitDefEqProofs (maxSteps := 2000000) [-selQ_sel, h_1, h_2, h_3, h_6, h_7, h_8]
      · replace H := HS.cnd_f h_6 H
        try simp -implicitDefEqProofs (maxSteps := 2000000) [-selQ_sel, h_1, h_2, h_3, h_6]
        have hr := (HS.some H).symm; subst hr
        refine Hid.mk ⟨_, Wk.refl _, ?_⟩
        try simp -implicitDefEqProofs (maxSteps := 2000000) [-selQ_sel, h_1, h_2, h_3, h_6]
  · replace H := HS.cnd_f h_2 H
    try simp -implicitDefEqProofs (maxSteps := 2000000) [-selQ_sel, h_1, h_2]
    have hr := (HS.some H).symm; subst hr
    refine Hid.mk ⟨_, Wk.refl _, ?_⟩
    try simp -implicitDefEqProofs (maxSteps := 2000000) [-selQ_sel, h_1, h_2]
theorem impl_MaskOk_ok0 (hm : Try.prog.follows .mixedOrders = true) (k_impl_isMaskBox : Sound Try.prog 152 impl_isMaskBox_x) (k_impl_inRange : Sound Try.prog 76 impl_inRange_x) : Sound Try.prog 78 impl_MaskOk_x := by
  refine xOf_sound fun q r h => ?_
  revert h; revert r; revert q; intro a0 r h
  refine fn_ok E0 hm Try.func78 rfl (by decide +kernel) (by rfl) fun Γ hn hk => ?_
  dsimp only [impl_MaskOk_e, impl_MaskOk_v]
  replace hn : Γ.n = 49 := hn
  replace hk : Γ.k = 0 := hk
  have H : HS (impl_MaskOk a0) r := h
  clear h; unfold impl_MaskOk at H
  try simp -implicitDefEqProofs at H
  refine Tr.of_vc (cl := tabC [(152, impl_isMaskBox_x), (76, impl_inRange_x)]) (E := E0) [] (tab_cons k_impl_isMaskBox (tab_cons k_impl_inRange tab_nil)) hm (by rw [hn]; decide +kernel) ?_
  try simp -implicitDefEqProofs (maxSteps := 2000000) [-selQ_sel]
  refine Hid.brV (fun h_1 => ?_) (fun h_1 => ?_)
  · replace H := HS.cnd_t h_1 H
    try simp -implicitDefEqProofs (maxSteps := 2000000) [-selQ_sel, h_1]
    have hr := (HS.some H).symm; subst hr
    refine Hid.mk ⟨_, Wk.refl _, ?_⟩
    try simp -implicitDefEqProofs (maxSteps := 2000000) [-selQ_sel, h_1]
  · replace H := HS.cnd_f h_1 H
    try simp -implicitDefEqProofs (maxSteps := 2000000) [-selQ_sel, h_1]
    obtain ⟨v1, h_2, H⟩ := HS.bnd H
    try simp -implicitDefEqProofs (maxSteps := 2000000) [-selQ_sel, h_1, h_2]
    refine Hid.selQ (fun h_3 => ?_) (fun h_3 => ?_)
    · replace H := HS.cnd_t h_3 H
      try simp -implicitDefEqProofs (maxSteps := 2000000) [-selQ_sel, h_1, h_2, h_3]
      refine Hid.brV (fun h_4 => ?_) (fun h_4 => ?_)
      · replace H := HS.cnd_t h_4 H
        try simp -implicitDefEqProofs (maxSteps := 2000000) [-selQ_sel, h_1, h_2, h_3, h_4]
        obtain ⟨q, h_5, H⟩ := HS.bnd H
        refine Hid.mk (Tr.weak (s' := (impl_MaskOk_l0_S a0) 0) (Wk.ofk [] hk (by rfl) (by simp -implicitDefEqProofs [impl_MaskOk_l0_S, h_1, h_2, h_3, h_4]) (by simp -implicitDefEqProofs [impl_MaskOk_l0_S, h_1, h_2, h_3, h_4])) ?_)
        refine wp_loop_of (S := (impl_MaskOk_l0_S a0)) (f := (impl_MaskOk_l0 a0)) (xt := (impl_MaskOk_l0_X a0)) ?_ ?_ h_5 ?_
        · intro q; rcases q with ⟨⟩ | ⟨⟩ <;> simp [impl_MaskOk_l0_X]
        · clear H h_5 q
          rintro x4 o R hf hR
          have H : HS (impl_MaskOk_l0 a0 x4) o := hf
          clear hf; unfold impl_MaskOk_l0 at H
          try simp -implicitDefEqProofs at H
          refine Tr.of_vc (cl := tabC [(152, impl_isMaskBox_x), (76, impl_inRange_x)]) (E := E0) [] (tab_cons k_impl_isMaskBox (tab_cons k_impl_inRange tab_nil)) hm (by rw [hn]; decide +kernel) ?_
          try simp -implicitDefEqProofs (maxSteps := 2000000) [-selQ_sel, impl_MaskOk_l0_S]
          refine Hid.brV (fun h_6 => ?_) (fun h_6 => ?_)
          · replace H := HS.cnd_t h_6 H
            try simp -implicitDefEqProofs (maxSteps := 2000000) [-selQ_sel, h_6]
            have hr := (HS.some H).symm; subst hr
            exact Hid.mk ⟨(impl_MaskOk_l0_X a0 (.inl ())).2, Wk.ofk [] hk (by rfl) (by simp -implicitDefEqProofs [impl_MaskOk_l0_X, h_6]) (by simp -implicitDefEqProofs [impl_MaskOk_l0_X, h_6]), hR⟩
          · replace H := HS.cnd_f h_6 H
            try simp -implicitDefEqProofs (maxSteps := 2000000) [-selQ_sel, h_6]
            obtain ⟨v5, h_7, H⟩ := HS.bnd H
            try simp -implicitDefEqProofs (maxSteps := 2000000) [-selQ_sel, h_6, h_7]
            obtain ⟨v6, h_8, H⟩ := HS.bnd H
            try simp -implicitDefEqProofs (maxSteps := 2000000) [-selQ_sel, h_6, h_7, h_8]
            refine Hid.brV (fun h_9 => ?_) (fun h_9 => ?_)
            · replace H := HS.cnd_t h_9 H
              try simp -implicitDefEqProofs (maxSteps := 2000000) [-selQ_sel, h_6, h_7, h_8, h_9]
              have hr := (HS.some H).symm; subst hr
              exact Hid.mk ⟨impl_MaskOk_l0_S a0 (IntKind.i64.wrap (x4 + 1)), Wk.ofk [] hk (by rfl) (by simp -implicitDefEqProofs [impl_MaskOk_l0_S, h_6, h_7, h_8, h_9]) (by simp -implicitDefEqProofs [impl_MaskOk_l0_S, h_6, h_7, h_8, h_9]), hR⟩
            · replace H := HS.cnd_f h_9 H
              try simp -implicitDefEqProofs (maxSteps := 2000000) [-selQ_sel, h_6, h_7, h_8, h_9]
              have hr := (HS.some H).symm; subst hr
              exact Hid.mk ⟨(impl_MaskOk_l0_X a0 (.inr ())).2, Wk.ofk [] hk (by rfl) (by simp -implicitDefEqProofs [impl_MaskOk_l0_X, h_6, h_7, h_8, h_9]) (by simp -implicitDefEqProofs [impl_MaskOk_l0_X, h_6, h_7, h_8, h_9]), hR⟩
        · rcases q with ⟨⟩ | ⟨⟩
          · dsimp only at H
            try simp -implicitDefEqProofs (maxSteps := 2000000) [-selQ_sel, h_1, h_2, h_3, h_4, impl_MaskOk_l0_X]
            have hr := (HS.some H).symm; subst hr
            refine Hid.mk ⟨_, Wk.refl _, ?_⟩
            try simp -implicitDefEqProofs (maxSteps := 2000000) [-selQ_sel, h_1, h_2, h_3, h_4]
          · dsimp only at H
            try simp -implicitDefEqProofs (maxSteps := 2000000) [-selQ_sel, h_1, h_2, h_3, h_4, impl_MaskOk_l0_X]
            have hr := (HS.some H).symm; subst hr
            refine Hid.mk ⟨_, Wk.refl _, ?_⟩
            try simp -implicitDefEqProofs (maxSteps := 2000000) [-selQ_sel, h_1, h_2, h_3, h_4]
      · replace H := HS.cnd_f h_4 H
        try simp -implicitDefEqProofs (maxSteps := 2000000) [-selQ_sel, h_1, h_2, h_3, h_4]
        have hr := (HS.some H).symm; subst hr
        refine Hid.mk ⟨_, Wk.refl _, ?_⟩
        try simp -implicitDefEqProofs (maxSteps := 2000000) [-selQ_sel, h_1, h_2, h_3, h_4]
    · replace H := HS.cnd_f h_3 H
      try simp -implicitDefEqProofs (maxSteps := 2000000) [-selQ_sel, h_1, h_2, h_3]
      have hr := (HS.some H).symm; subst hr
      refine Hid.mk ⟨_, Wk.refl _, ?_⟩
      try simp -implicitDefEqProofs (maxSteps := 2000000) [-selQ_sel, h_1, h_2, h_3]
theorem spec_MaskAt_ok0 (hm : Try.prog.follows .mixedOrders = true) (k_spec_l01In : Sound Try.prog 73 spec_l01In_x) (k_spec_Covers : Sound Try.prog 241 spec_Covers_x) : Sound Try.prog 221 spec_MaskAt_x := by
  refine xOf_sound fun q r h => ?_
  obtain ⟨a0, a1, a2, a3⟩ := q
  refine fn_ok E0 hm Try.func221 rfl (by decide +kernel) (by rfl) fun Γ hn hk => ?_
  dsimp only [spec_MaskAt_e, spec_MaskAt_v]
  replace hn : Γ.n = 50 := hn
  replace hk : Γ.k = 0 := hk
  have H : HS (spec_MaskAt a0 a1 a2 a3) r := h
  clear h; unfold spec_MaskAt at H
  try simp -implicitDefEqProofs at H
  refine Tr.of_vc (cl := tabC [(73, spec_l01In_x), (241, spec_Covers_x)]) (E := E0) [] (tab_cons k_spec_l01In (tab_cons k_spec_Covers tab_nil)) hm (by rw [hn]; decide +kernel) ?_
  try simp -implicitDefEqProofs (maxSteps := 2000000) [-selQ_sel]
  obtain ⟨v1, h_1, H⟩ := HS.bnd H
  try simp -implicitDefEqProofs (maxSteps := 2000000) [-selQ_sel, h_1]
  refine Hid.selQ (fun h_2 => ?_) (fun h_2 => ?_)
  · replace H := HS.cnd_t h_2 H
    try simp -implicitDefEqProofs (maxSteps := 2000000) [-selQ_sel, h_1, h_2]
    obtain ⟨v2, h_3, H⟩ := HS.bnd H
    try simp -implicitDefEqProofs (maxSteps := 2000000) [-selQ_sel, h_1, h_2, h_3]
    refine Hid.brV (fun h_4 => ?_) (fun h_4 => ?_)
    · replace H := HS.cnd_t h_4 H
      try simp -implicitDefEqProofs (maxSteps := 2000000) [-selQ_sel, h_1, h_2, h_3, h_4]
      obtain ⟨q, h_5, H⟩ := HS.bnd H
      refine Hid.mk (Tr.weak (s' := (spec_MaskAt_l0_S a0 a1 a2 a3) (0, 0)) (Wk.ofk [] hk (by rfl) (by simp -implicitDefEqProofs [spec_MaskAt_l0_S, h_1, h_2, h_3, h_4]) (by simp -implicitDefEqProofs [spec_MaskAt_l0_S, h_1, h_2, h_3, h_4])) ?_)
      refine wp_loop_of (S := (spec_MaskAt_l0_S a0 a1 a2 a3)) (f := (spec_MaskAt_l0 a0 a1 a2 a3)) (xt := (spec_MaskAt_l0_X a0 a1 a2 a3)) ?_ ?_ h_5 ?_
      · intro q; simp [spec_MaskAt_l0_X]
      · clear H h_5 q
        rintro ⟨x4, x5⟩ o R hf hR
        have H : HS (spec_MaskAt_l0 a0 a1 a2 a3 (x4, x5)) o := hf
        clear hf; unfold spec_MaskAt_l0 at H
        try simp -implicitDefEqProofs at H
        refine Tr.of_vc (cl := tabC [(73, spec_l01In_x), (241, spec_Covers_x)]) (E := E0) [] (tab_cons k_spec_l01In (tab_cons k_spec_Covers tab_nil)) hm (by rw [hn]; decide +kernel) ?_
        try simp -implicitDefEqProofs (maxSteps := 2000000) [-selQ_sel, spec_MaskAt_l0_S]
        refine Hid.brV (fun h_6 => ?_) (fun h_6 => ?_)
        · replace H := HS.cnd_t h_6 H
          try simp -implicitDefEqProofs (maxSteps := 2000000) [-selQ_sel, h_6]
          have hr := (HS.some H).symm; subst hr
          exact Hid.mk ⟨(spec_MaskAt_l0_X a0 a1 a2 a3 x4).2, Wk.ofk [] hk (by rfl) (by simp -implicitDefEqProofs [spec_MaskAt_l0_X, h_6]) (by simp -implicitDefEqProofs [spec_MaskAt_l0_X, h_6]), hR⟩
        · replace H := HS.cnd_f h_6 H
          try simp -implicitDefEqProofs (maxSteps := 2000000) [-selQ_sel, h_6]
          obtain ⟨v6, h_7, H⟩ := HS.bnd H
          try simp -implicitDefEqProofs (maxSteps := 2000000) [-selQ_sel, h_6, h_7]
          refine Hid.brV (fun h_8 => ?_) (fun h_8 => ?_)
          · replace H := HS.cnd_t h_8 H
            try simp -implicitDefEqProofs (maxSteps := 2000000) [-selQ_sel, h_6, h_7, h_8]
            obtain ⟨v7, h_9, H⟩ := HS.bnd H
            have g_10 := idx_get h_9
            have g_11 := idx_map (e := (AV.int .i64)) h_9
            have g_12 := idx_get g_11
            simp -implicitDefEqProofs at g_11 g_12
            try simp -implicitDefEqProofs (maxSteps := 2000000) [-selQ_sel, h_6, h_7, h_8, h_9, g_10, g_11, g_12]
            have hr := (HS.some H).symm; subst hr
            exact Hid.mk ⟨spec_MaskAt_l0_S a0 a1 a2 a3 ((IntKind.i64.wrap (x4 + v7)), (IntKind.i64.wrap (x5 + 1))), Wk.ofk [] hk (by rfl) (by simp -implicitDefEqProofs [spec_MaskAt_l0_S, h_6, h_7, h_8, h_9, g_10, g_11, g_12]) (by simp -implicitDefEqProofs [spec_MaskAt_l0_S, h_6, h_7, h_8, h_9, g_10, g_11, g_12]), hR⟩
          · replace H := HS.cnd_f h_8 H
            try simp -implicitDefEqProofs (maxSteps := 2000000) [-selQ_sel, h_6, h_7, h_8]
            have hr := (HS.some H).symm; subst hr
            exact Hid.mk ⟨spec_MaskAt_l0_S a0 a1 a2 a3 (x4, (IntKind.i64.wrap (x5 + 1))), Wk.ofk [] hk (by rfl) (by simp -implicitDefEqProofs [spec_MaskAt_l0_S, h_6, h_7, h_8]) (by simp -implicitDefEqProofs [spec_MaskAt_l0_S, h_6, h_7, h_8]), hR⟩
      · revert H h_5; revert q; intro y8 h_5 H
        try dsimp only at H
        try simp -implicitDefEqProofs (maxSteps := 2000000) [-selQ_sel, h_1, h_2, h_3, h_4, spec_MaskAt_l0_X]
        have hr := (HS.some H).symm; subst hr
        refine Hid.mk ⟨_, Wk.refl _, ?_⟩
        try simp -implicitDefEqProofs (maxSteps := 2000000) [-selQ_sel, h_1, h_2, h_3, h_4]
    · replace H := HS.cnd_f h_4 H
      try simp -implicitDefEqProofs (maxSteps := 2000000) [-selQ_sel, h_1, h_2, h_3, h_4]
      have hr := (HS.some H).symm; subst hr
      refine Hid.mk ⟨_, Wk.refl _, ?_⟩
      try simp -implicitDefEqProofs (maxSteps := 2000000) [-selQ_sel, h_1, h_2, h_3, h_4]
  · replace H := HS.cnd_f h_2 H
    try simp -implicitDefEqProofs (maxSteps := 2000000) [-selQ_sel, h_1, h_2]
    have hr := (HS.some H).symm; subst hr
    refine Hid.mk ⟨_, Wk.refl _, ?_⟩
    try simp -implicitDefEqProofs (maxSteps := 2000000) [-selQ_sel, h_1, h_2]
theorem impl_PaintMask_ok0 (hm : Try.prog.follows .mixedOrders = true) (k_impl_copySurface : Sound Try.prog 103 impl_copySurface_x) (k_impl_SurfaceOk : Sound Try.prog 34 impl_SurfaceOk_x) (k_impl_MaskOk : Sound Try.prog 78 impl_MaskOk_x) (k_impl_PaintOk : Sound Try.prog 116 impl_PaintOk_x) (k_impl_Surface_paint_PaintMask_1 : Sound Try.prog 104 impl_Surface_paint_PaintMask_1_x) : Sound Try.prog 39 impl_PaintMask_x := by
  refine xOf_sound fun q r h => ?_
  obtain ⟨a0, a1, a2, a3, a4⟩ := q
  refine fn_ok E0 hm Try.func39 rfl (by decide +kernel) (by rfl) fun Γ hn hk => ?_
  dsimp only [impl_PaintMask_e, impl_PaintMask_v]
  replace hn : Γ.n = 33 := hn
  replace hk : Γ.k = 0 := hk
  have H : HS (impl_PaintMask a0 a1 a2 a3 a4) r := h
  clear h; unfold impl_PaintMask at H
  try simp -implicitDefEqProofs at H
  refine Tr.of_vc (cl := tabC [(103, impl_copySurface_x), (34, impl_SurfaceOk_x), (78, impl_MaskOk_x), (116, impl_PaintOk_x), (104, impl_Surface_paint_PaintMask_1_x)]) (E := E0) [] (tab_cons k_impl_copySurface (tab_cons k_impl_SurfaceOk (tab_cons k_impl_MaskOk (tab_cons k_impl_PaintOk (tab_cons k_impl_Surface_paint_PaintMask_1 tab_nil))))) hm (by rw [hn]; decide +kernel) ?_
  try simp -implicitDefEqProofs (maxSteps := 2000000) [-selQ_sel]
  obtain ⟨⟨w2, w3, w4⟩, h_1, H⟩ := HS.bnd H
  dsimp only at H
  try simp -implicitDefEqProofs (maxSteps := 2000000) [-selQ_sel, h_1]
  obtain ⟨v5, h_2, H⟩ := HS.bnd H
  try simp -implicitDefEqProofs (maxSteps := 2000000) [-selQ_sel, h_1, h_2]
  refine Hid.selQ (fun h_3 => ?_) (fun h_3 => ?_)
  · replace H := HS.cnd_t h_3 H
    try simp -implicitDefEqProofs (maxSteps := 2000000) [-selQ_sel, h_1, h_2, h_3]
    obtain ⟨v6, h_4, H⟩ := HS.bnd H
    try simp -implicitDefEqProofs (maxSteps := 2000000) [-selQ_sel, h_1, h_2, h_3, h_4]
    refine Hid.selQ (fun h_5 => ?_) (fun h_5 => ?_)
    · replace H := HS.cnd_t h_5 H
      try simp -implicitDefEqProofs (maxSteps := 2000000) [-selQ_sel, h_1, h_2, h_3, h_4, h_5]
      obtain ⟨v7, h_6, H⟩ := HS.bnd H
      try simp -implicitDefEqProofs (maxSteps := 2000000) [-selQ_sel, h_1, h_2, h_3, h_4, h_5, h_6]
      refine Hid.brV (fun h_7 => ?_) (fun h_7 => ?_)
      · replace H := HS.cnd_t h_7 H
        try simp -implicitDefEqProofs (maxSteps := 2000000) [-selQ_sel, h_1, h_2, h_3, h_4, h_5, h_6, h_7]
        obtain ⟨v8, h_8, H⟩ := HS.bnd H
        try simp -implicitDefEqProofs (maxSteps := 2000000) [-selQ_sel, h_1, h_2, h_3, h_4, h_5, h_6, h_7, h_8]
        have hr := (HS.some H).symm; subst hr
        refine Hid.mk ⟨⟨[(10, AV.optr 0 0 3)], [(0, Ob.box [AV.int .i64 w2, AV.int .i64 w3, AV.osl 1 0 (List.length v8) (List.length v8)]), (1, Ob.arr 4 (List.map eColor v8) false)], 2⟩, Wk.ofk [5, 6] hk (by rfl) (by simp -implicitDefEqProofs [h_1, h_2, h_3, h_4, h_5, h_6, h_7, h_8]) (by simp -implicitDefEqProofs [h_1, h_2, h_3, h_4, h_5, h_6, h_7, h_8]), ?_⟩
        try simp -implicitDefEqProofs (maxSteps := 2000000) [-selQ_sel, h_1, h_2, h_3, h_4, h_5, h_6, h_7, h_8]
      · replace H := HS.cnd_f h_7 H
        try simp -implicitDefEqProofs (maxSteps := 2000000) [-selQ_sel, h_1, h_2, h_3, h_4, h_5, h_6, h_7]
        have hr := (HS.some H).symm; subst hr
        refine Hid.mk ⟨⟨[(10, AV.optr 0 0 3)], [(0, Ob.box [AV.int .i64 w2, AV.int .i64 w3, AV.osl 1 0 (List.length w4) (List.length w4)]), (1, Ob.arr 4 (List.map eColor w4) false)], 2⟩, Wk.ofk [5, 6] hk (by rfl) (by simp -implicitDefEqProofs [h_1, h_2, h_3, h_4, h_5, h_6, h_7]) (by simp -implicitDefEqProofs [h_1, h_2, h_3, h_4, h_5, h_6, h_7]), ?_⟩
        try simp -implicitDefEqProofs (maxSteps := 2000000) [-selQ_sel, h_1, h_2, h_3, h_4, h_5, h_6, h_7]
    · replace H := HS.cnd_f h_5 H
      try simp -implicitDefEqProofs (maxSteps := 2000000) [-selQ_sel, h_1, h_2, h_3, h_4, h_5]
      have hr := (HS.some H).symm; subst hr
      refine Hid.mk ⟨⟨[(10, AV.optr 0 0 3)], [(0, Ob.box [AV.int .i64 w2, AV.int .i64 w3, AV.osl 1 0 (List.length w4) (List.length w4)]), (1, Ob.arr 4 (List.map eColor w4) false)], 2⟩, Wk.ofk [5, 6] hk (by rfl) (by simp -implicitDefEqProofs [h_1, h_2, h_3, h_4, h_5]) (by simp -implicitDefEqProofs [h_1, h_2, h_3, h_4, h_5]), ?_⟩
      try simp -implicitDefEqProofs (maxSteps := 2000000) [-selQ_sel, h_1, h_2, h_3, h_4, h_5]
  · replace H := HS.cnd_f h_3 H
    try simp -implicitDefEqProofs (maxSteps := 2000000) [-selQ_sel, h_1, h_2, h_3]
    have hr := (HS.some H).symm; subst hr
    refine Hid.mk ⟨⟨[(10, AV.optr 0 0 3)], [(0, Ob.box [AV.int .i64 w2, AV.int .i64 w3, AV.osl 1 0 (List.length w4) (List.length w4)]), (1, Ob.arr 4 (List.map eColor w4) false)], 2⟩, Wk.ofk [5, 6] hk (by rfl) (by simp -implicitDefEqProofs [h_1, h_2, h_3]) (by simp -implicitDefEqProofs [h_1, h_2, h_3]), ?_⟩
    try simp -implicitDefEqProofs (maxSteps := 2000000) [-selQ_sel, h_1, h_2, h_3]
theorem spec_CubicAt_ok0 (hm : Try.prog.follows .mixedOrders = true) (k_spec_PointOk : Sound Try.prog 196 spec_PointOk_x) (k_spec_Clamp : Sound Try.prog 194 spec_Clamp_x) (k_spec_RoundDiv : Sound Try.prog 124 spec_RoundDiv_x) : Sound Try.prog 223 spec_CubicAt_x := by
  refine xOf_sound fun q r h => ?_
  obtain ⟨a0, a1, a2, a3, a4⟩ := q
  refine fn_ok E0 hm Try.func223 rfl (by decide +kernel) (by rfl) fun Γ hn hk => ?_
  dsimp only [spec_CubicAt_e, spec_CubicAt_v]
  replace hn : Γ.n = 116 := hn
  replace hk : Γ.k = 0 := hk
  have H : HS (spec_CubicAt a0 a1 a2 a3 a4) r := h
  clear h; unfold spec_CubicAt at H
  try simp -implicitDefEqProofs at H
  refine Tr.of_vc (cl := tabC [(196, spec_PointOk_x), (194, spec_Clamp_x), (124, spec_RoundDiv_x)]) (E := E0) [] (tab_cons k_spec_PointOk (tab_cons k_spec_Clamp (tab_cons k_spec_RoundDiv tab_nil))) hm (by rw [hn]; decide +kernel) ?_
  try simp -implicitDefEqProofs (maxSteps := 2000000) [-selQ_sel]
  obtain ⟨v1, h_1, H⟩ := HS.bnd H
  try simp -implicitDefEqProofs (maxSteps := 2000000) [-selQ_sel, h_1]
  refine Hid.selQ (fun h_2 => ?_) (fun h_2 => ?_)
  · replace H := HS.cnd_t h_2 H
    try simp -implicitDefEqProofs (maxSteps := 2000000) [-selQ_sel, h_1, h_2]
    obtain ⟨v2, h_3, H⟩ := HS.bnd H
    try simp -implicitDefEqProofs (maxSteps := 2000000) [-selQ_sel, h_1, h_2, h_3]
    refine Hid.selQ (fun h_4 => ?_) (fun h_4 => ?_)
    · replace H := HS.cnd_t h_4 H
      try simp -implicitDefEqProofs (maxSteps := 2000000) [-selQ_sel, h_1, h_2, h_3, h_4]
      obtain ⟨v3, h_5, H⟩ := HS.bnd H
      try simp -implicitDefEqProofs (maxSteps := 2000000) [-selQ_sel, h_1, h_2, h_3, h_4, h_5]
      refine Hid.selQ (fun h_6 => ?_) (fun h_6 => ?_)
      · replace H := HS.cnd_t h_6 H
        try simp -implicitDefEqProofs (maxSteps := 2000000) [-selQ_sel, h_1, h_2, h_3, h_4, h_5, h_6]
        obtain ⟨v4, h_7, H⟩ := HS.bnd H
        try simp -implicitDefEqProofs (maxSteps := 2000000) [-selQ_sel, h_1, h_2, h_3, h_4, h_5, h_6, h_7]
        refine Hid.brV (fun h_8 => ?_) (fun h_8 => ?_)
        · replace H := HS.cnd_t h_8 H
          try simp -implicitDefEqProofs (maxSteps := 2000000) [-selQ_sel, h_1, h_2, h_3, h_4, h_5, h_6, h_7, h_8]
          obtain ⟨v5, h_9, H⟩ := HS.bnd H
          try simp -implicitDefEqProofs (maxSteps := 2000000) [-selQ_sel, h_1, h_2, h_3, h_4, h_5, h_6, h_7, h_8, h_9]
          obtain ⟨v6, h_10, H⟩ := HS.bnd H
          try simp -implicitDefEqProofs (maxSteps := 2000000) [-selQ_sel, h_1, h_2, h_3, h_4, h_5, h_6, h_7, h_8, h_9, h_10]
          obtain ⟨v7, h_11, H⟩ := HS.bnd H
          try simp -implicitDefEqProofs (maxSteps := 2000000) [-selQ_sel, h_1, h_2, h_3, h_4, h_5, h_6, h_7, h_8, h_9, h_10, h_11]
          have hr := (HS.some H).symm; subst hr
          refine Hid.mk ⟨_, Wk.refl _, ?_⟩
          try simp -implicitDefEqProofs (maxSteps := 2000000) [-selQ_sel, h_1, h_2, h_3, h_4, h_5, h_6, h_7, h_8, h_9, h_10, h_11]
        · replace H := HS.cnd_f h_8 H
          try simp -implicitDefEqProofs (maxSteps := 2000000) [-selQ_sel, h_1, h_2, h_3, h_4, h_5, h_6, h_7, h_8]
          have hr := (HS.some H).symm; subst hr
          refine Hid.mk ⟨_, Wk.refl _, ?_⟩
          try simp -implicitDefEqProofs (maxSteps := 2000000) [-selQ_sel, h_1, h_2, h_3, h_4, h_5, h_6, h_7, h_8]
      · replace H := HS.cnd_f h_6 H
        try simp -implicitDefEqProofs (maxSteps := 2000000) [-selQ_sel, h_1, h_2, h_3, h_4, h_5, h_6]
        have hr := (HS.some H).symm; subst hr
        refine Hid.mk ⟨_, Wk.refl _, ?_⟩
        try simp -implicitDefEqProofs (maxSteps := 2000000) [-selQ_sel, h_1, h_2, h_3, h_4, h_5, h_6]
    · replace H := HS.cnd_f h_4 H
      try simp -implicitDefEqProofs (maxSteps := 2000000) [-selQ_sel, h_1, h_2, h_3, h_4]
      have hr := (HS.some H).symm; subst hr
      refine Hid.mk ⟨_, Wk.refl _, ?_⟩
      try simp -implicitDefEqProofs (maxSteps := 2000000) [-selQ_sel, h_1, h_2, h_3, h_4]
  · replace H := HS.cnd_f h_2 H
    try simp -implicitDefEqProofs (maxSteps := 2000000) [-selQ_sel, h_1, h_2]
    have hr := (HS.some H).symm; subst hr
    refine Hid.mk ⟨_, Wk.refl _, ?_⟩
    try simp -implicitDefEqProofs (maxSteps := 2000000) [-selQ_sel, h_1, h_2]
theorem spec_l01New_ok0 (hm : Try.prog.follows .mixedOrders = true) : Sound Try.prog 101 spec_l01New_x := by
  refine xOf_sound fun q r h => ?_
  revert h; revert r; revert q; intro a0 r h
  refine fn_ok E0 hm Try.func101 rfl (by decide +kernel) (by rfl) fun Γ hn hk => ?_
  dsimp only [spec_l01New_e, spec_l01New_v]
  replace hn : Γ.n = 32 := hn
  replace hk : Γ.k = 0 := hk
  have H : HS (spec_l01New a0) r := h
  clear h; unfold spec_l01New at H
  try simp -implicitDefEqProofs at H
  refine Tr.of_vc (cl := tabC []) (E := E0) [] tab_nil hm (by rw [hn]; decide +kernel) ?_
  try simp -implicitDefEqProofs (maxSteps := 2000000) [-selQ_sel]
  obtain ⟨q, h_1, H⟩ := HS.bnd H
  refine Hid.mk (Tr.weak (s' := (spec_l01New_l0_S a0) ((IntKind.i64.wrap (28001 + (List.length a0 : Int))), 0)) (Wk.ofk [] hk (by rfl) (by simp -implicitDefEqProofs [spec_l01New_l0_S]) (by simp -implicitDefEqProofs [spec_l01New_l0_S])) ?_)
  refine wp_loop_of (S := (spec_l01New_l0_S a0)) (f := (spec_l01New_l0 a0)) (xt := (spec_l01New_l0_X a0)) ?_ ?_ h_1 ?_
  · intro q; simp [spec_l01New_l0_X]
  · clear H h_1 q
    rintro ⟨x2, x3⟩ o R hf hR
    have H : HS (spec_l01New_l0 a0 (x2, x3)) o := hf
    clear hf; unfold spec_l01New_l0 at H
    try simp -implicitDefEqProofs at H
    refine Tr.of_vc (cl := tabC []) (E := E0) [] tab_nil hm (by rw [hn]; decide +kernel) ?_
    try simp -implicitDefEqProofs (maxSteps := 2000000) [-selQ_sel, spec_l01New_l0_S]
    refine Hid.selQ (fun h_2 => ?_) (fun h_2 => ?_)
    · replace H := HS.cnd_t h_2 H
      try simp -implicitDefEqProofs (maxSteps := 2000000) [-selQ_sel, h_2]
      have hr := (HS.some H).symm; subst hr
      exact Hid.mk ⟨(spec_l01New_l0_X a0 x2).2, Wk.ofk [] hk (by rfl) (by simp -implicitDefEqProofs [spec_l01New_l0_X, h_2]) (by simp -implicitDefEqProofs [spec_l01New_l0_X, h_2]), hR⟩
    · replace H := HS.cnd_f h_2 H
      try simp -implicitDefEqProofs (maxSteps := 2000000) [-selQ_sel, h_2]
      refine Hid.brV (fun h_3 => ?_) (fun h_3 => ?_)
      · replace H := HS.cnd_t h_3 H
        try simp -implicitDefEqProofs (maxSteps := 2000000) [-selQ_sel, h_2, h_3]
        have hr := (HS.some H).symm; subst hr
        exact Hid.mk ⟨(spec_l01New_l0_X a0 x2).2, Wk.ofk [] hk (by rfl) (by simp -implicitDefEqProofs [spec_l01New_l0_X, h_2, h_3]) (by simp -implicitDefEqProofs [spec_l01New_l0_X, h_2, h_3]), hR⟩
      · replace H := HS.cnd_f h_3 H
        try simp -implicitDefEqProofs (maxSteps := 2000000) [-selQ_sel, h_2, h_3]
        obtain ⟨v4, h_4, H⟩ := HS.bnd H
        try simp -implicitDefEqProofs (maxSteps := 2000000) [-selQ_sel, h_2, h_3, h_4]
        have hr := (HS.some H).symm; subst hr
        exact Hid.mk ⟨spec_l01New_l0_S a0 ((andI .i64 (IntKind.i64.wrap ((IntKind.i64.wrap ((IntKind.i64.wrap (x2 * 131)) + (IntKind.i64.wrap v4))) + 7)) 1073741823), (IntKind.i64.wrap (x3 + 1))), Wk.ofk [] hk (by rfl) (by simp -implicitDefEqProofs [spec_l01New_l0_S, h_2, h_3, h_4]) (by simp -implicitDefEqProofs [spec_l01New_l0_S, h_2, h_3, h_4]), hR⟩
  · revert H h_1; revert q; intro y5 h_1 H
    try dsimp only at H
    try simp -implicitDefEqProofs (maxSteps := 2000000) [-selQ_sel, spec_l01New_l0_X]
    have hr := (HS.some H).symm; subst hr
    refine Hid.mk ⟨⟨[(2, AV.optr 0 0 3)], [(0, Ob.box [AV.fsl (List.map (AV.int .u8) a0), AV.int .i64 0, AV.int .i64 y5])], 1⟩, Wk.ofk [0] hk (by rfl) (by simp -implicitDefEqProofs []) (by simp -implicitDefEqProofs []), ?_⟩
    try simp -implicitDefEqProofs (maxSteps := 2000000) [-selQ_sel]
theorem spec_ColorAt_ok0 (hm : Try.prog.follows .mixedOrders = true) (k_spec_PaintOk : Sound Try.prog 125 spec_PaintOk_x) (k_spec_Laid : Sound Try.prog 126 spec_Laid_x) (k_spec_PartOf : Sound Try.prog 127 spec_PartOf_x) (k_spec_l12Mix : Sound Try.prog 128 spec_l12Mix_x) : Sound Try.prog 45 spec_ColorAt_x := by
  refine xOf_sound fun q r h => ?_
  obtain ⟨a0, a1, a2⟩ := q
  refine fn_ok E0 hm Try.func45 rfl (by decide +kernel) (by rfl) fun Γ hn hk => ?_
  dsimp only [spec_ColorAt_e, spec_ColorAt_v]
  replace hn : Γ.n = 56 := hn
  replace hk : Γ.k = 0 := hk
  have H : HS (spec_ColorAt a0 a1 a2) r := h
  clear h; unfold spec_ColorAt at H
  try simp -implicitDefEqProofs at H
  refine Tr.of_vc (cl := tabC [(125, spec_PaintOk_x), (126, spec_Laid_x), (127, spec_PartOf_x), (128, spec_l12Mix_x)]) (E := E0) [] (tab_cons k_spec_PaintOk (tab_cons k_spec_Laid (tab_cons k_spec_PartOf (tab_cons k_spec_l12Mix tab_nil)))) hm (by rw [hn]; decide +kernel) ?_
  try simp -implicitDefEqProofs +decide (maxSteps := 2000000) [-selQ_sel, hokQ_of]
  obtain ⟨v1, h_1, H⟩ := HS.bnd H
  try simp -implicitDefEqProofs +decide (maxSteps := 2000000) [-selQ_sel, hokQ_of, h_1]
  refine Hid.brV (fun h_2 => ?_) (fun h_2 => ?_)
  · replace H := HS.cnd_t h_2 H
    try simp -implicitDefEqProofs +decide (maxSteps := 2000000) [-selQ_sel, hokQ_of, h_1, h_2]
    refine Hid.brV (fun h_3 => ?_) (fun h_3 => ?_)
    · replace H := HS.cnd_t h_3 H
      try simp -implicitDefEqProofs +decide (maxSteps := 2000000) [-selQ_sel, hokQ_of, h_1, h_2, h_3]
      obtain ⟨v2, h_4, H⟩ := HS.bnd H
      try simp -implicitDefEqProofs +decide (maxSteps := 2000000) [-selQ_sel, hokQ_of, h_1, h_2, h_3, h_4]
      have hr := (HS.some H).symm; subst hr
      refine Hid.mk ⟨_, Wk.refl _, ?_⟩
      try simp -implicitDefEqProofs +decide (maxSteps := 2000000) [-selQ_sel, hokQ_of, h_1, h_2, h_3, h_4]
    · replace H := HS.cnd_f h_3 H
      try simp -implicitDefEqProofs +decide (maxSteps := 2000000) [-selQ_sel, hokQ_of, h_1, h_2, h_3]
      obtain ⟨v3, h_5, H⟩ := HS.bnd H
      try simp -implicitDefEqProofs +decide (maxSteps := 2000000) [-selQ_sel, hokQ_of, h_1, h_2, h_3, h_5]
      obtain ⟨v4, h_6, H⟩ := HS.bnd H
      try simp -implicitDefEqProofs +decide (maxSteps := 2000000) [-selQ_sel, hokQ_of, h_1, h_2, h_3, h_5, h_6]
      obtain ⟨v5, h_7, H⟩ := HS.bnd H
      try simp -implicitDefEqProofs +decide (maxSteps := 2000000) [-selQ_sel, hokQ_of, h_1, h_2, h_3, h_5, h_6, h_7]
      obtain ⟨v6, h_8, H⟩ := HS.bnd H
      try simp -implicitDefEqProofs +decide (maxSteps := 2000000) [-selQ_sel, hokQ_of, h_1, h_2, h_3, h_5, h_6, h_7, h_8]
      obtain ⟨v7, h_9, H⟩ := HS.bnd H
      try simp -implicitDefEqProofs +decide (maxSteps := 2000000) [-selQ_sel, hokQ_of, h_1, h_2, h_3, h_5, h_6, h_7, h_8, h_9]
      obtain ⟨v8, h_10, H⟩ := HS.bnd H
      try simp -implicitDefEqProofs +decide (maxSteps := 2000000) [-selQ_sel, hokQ_of, h_1, h_2, h_3, h_5, h_6, h_7, h_8, h_9, h_10]
      have hr := (HS.some H).symm; subst hr
      refine Hid.mk ⟨_, Wk.refl _, ?_⟩
      try simp -implicitDefEqProofs +decide (maxSteps := 2000000) [-selQ_sel, hokQ_of, h_1, h_2, h_3, h_5, h_6, h_7, h_8, h_9, h_10]
  · replace H := HS.cnd_f h_2 H
    try simp -implicitDefEqProofs +decide (maxSteps := 2000000) [-selQ_sel, hokQ_of, h_1, h_2]
    have hr := (HS.some H).symm; subst hr
    refine Hid.mk ⟨_, Wk.refl _, ?_⟩
    try simp -implicitDefEqProofs +decide (maxSteps := 2000000) [-selQ_sel, hokQ_of, h_1, h_2]
theorem spec_Blend_ok0 (hm : Try.prog.follows .mixedOrders = true) (k_spec_LaidOk : Sound Try.prog 121 spec_LaidOk_x) (k_spec_l13Part : Sound Try.prog 122 spec_l13Part_x) : Sound Try.prog 42 spec_Blend_x := by
  refine xOf_sound fun q r h => ?_
  obtain ⟨a0, a1, a2⟩ := q
  refine fn_ok E0 hm Try.func42 rfl (by decide +kernel) (by rfl) fun Γ hn hk => ?_
  dsimp only [spec_Blend_e, spec_Blend_v]
  replace hn : Γ.n = 57 := hn
  replace hk : Γ.k = 0 := hk
  have H : HS (spec_Blend a0 a1 a2) r := h
  clear h; unfold spec_Blend at H
  try simp -implicitDefEqProofs at H
  refine Tr.of_vc (cl := tabC [(121, spec_LaidOk_x), (122, spec_l13Part_x)]) (E := E0) [] (tab_cons k_spec_LaidOk (tab_cons k_spec_l13Part tab_nil)) hm (by rw [hn]; decide +kernel) ?_
  try simp -implicitDefEqProofs +decide (maxSteps := 2000000) [-selQ_sel, hokQ_of]
  obtain ⟨v1, h_1, H⟩ := HS.bnd H
  try simp -implicitDefEqProofs +decide (maxSteps := 2000000) [-selQ_sel, hokQ_of, h_1]
  refine Hid.selQ (fun h_2 => ?_) (fun h_2 => ?_)
  · replace H := HS.cnd_t h_2 H
    try simp -implicitDefEqProofs +decide (maxSteps := 2000000) [-selQ_sel, hokQ_of, h_1, h_2]
    obtain ⟨v2, h_3, H⟩ := HS.bnd H
    try simp -implicitDefEqProofs +decide (maxSteps := 2000000) [-selQ_sel, hokQ_of, h_1, h_2, h_3]
    refine Hid.brV (fun h_4 => ?_) (fun h_4 => ?_)
    · replace H := HS.cnd_t h_4 H
      try simp -implicitDefEqProofs +decide (maxSteps := 2000000) [-selQ_sel, hokQ_of, h_1, h_2, h_3, h_4]
      obtain ⟨v3, h_5, H⟩ := HS.bnd H
      try simp -implicitDefEqProofs +decide (maxSteps := 2000000) [-selQ_sel, hokQ_of, h_1, h_2, h_3, h_4, h_5]
      obtain ⟨v4, h_6, H⟩ := HS.bnd H
      try simp -implicitDefEqProofs +decide (maxSteps := 2000000) [-selQ_sel, hokQ_of, h_1, h_2, h_3, h_4, h_5, h_6]
      obtain ⟨v5, h_7, H⟩ := HS.bnd H
      try simp -implicitDefEqProofs +decide (maxSteps := 2000000) [-selQ_sel, hokQ_of, h_1, h_2, h_3, h_4, h_5, h_6, h_7]
      obtain ⟨v6, h_8, H⟩ := HS.bnd H
      try simp -implicitDefEqProofs +decide (maxSteps := 2000000) [-selQ_sel, hokQ_of, h_1, h_2, h_3, h_4, h_5, h_6, h_7, h_8]
      have hr := (HS.some H).symm; subst hr
      refine Hid.mk ⟨_, Wk.refl _, ?_⟩
      try simp -implicitDefEqProofs +decide (maxSteps := 2000000) [-selQ_sel, hokQ_of, h_1, h_2, h_3, h_4, h_5, h_6, h_7, h_8]
    · replace H := HS.cnd_f h_4 H
      try simp -implicitDefEqProofs +decide (maxSteps := 2000000) [-selQ_sel, hokQ_of, h_1, h_2, h_3, h_4]
      have hr := (HS.some H).symm; subst hr
      refine Hid.mk ⟨_, Wk.refl _, ?_⟩
      try simp -implicitDefEqProofs +decide (maxSteps := 2000000) [-selQ_sel, hokQ_of, h_1, h_2, h_3, h_4]
  · replace H := HS.cnd_f h_2 H
    try simp -implicitDefEqProofs +decide (maxSteps := 2000000) [-selQ_sel, hokQ_of, h_1, h_2]
    have hr := (HS.some H).symm; subst hr
    refine Hid.mk ⟨_, Wk.refl _, ?_⟩
    try simp -implicitDefEqProofs +decide (maxSteps := 2000000) [-selQ_sel, hokQ_of, h_1, h_2]
theorem spec_ColorOk_ok0 (hm : Try.prog.follows .mixedOrders = true) (k_spec_l01In : Sound Try.prog 73 spec_l01In_x) : Sound Try.prog 193 spec_ColorOk_x := by
  refine xOf_sound fun q r h => ?_
  revert h; revert r; revert q; intro a0 r h
  refine fn_ok E0 hm Try.func193 rfl (by decide +kernel) (by rfl) fun Γ hn hk => ?_
  dsimp only [spec_ColorOk_e, spec_ColorOk_v]
  replace hn : Γ.n = 21 := hn
  replace hk : Γ.k = 0 := hk
  have H : HS (spec_ColorOk a0) r := h
  clear h; unfold spec_ColorOk at H
  try simp -implicitDefEqProofs at H
  refine Tr.of_vc (cl := tabC [(73, spec_l01In_x)]) (E := E0) [] (tab_cons k_spec_l01In tab_nil) hm (by rw [hn]; decide +kernel) ?_
  try simp -implicitDefEqProofs (maxSteps := 2000000) [-selQ_sel]
  obtain ⟨v1, h_1, H⟩ := HS.bnd H
  try simp -implicitDefEqProofs (maxSteps := 2000000) [-selQ_sel, h_1]
  refine Hid.selQ (fun h_2 => ?_) (fun h_2 => ?_)
  · replace H := HS.cnd_t h_2 H
    try simp -implicitDefEqProofs (maxSteps := 2000000) [-selQ_sel, h_1, h_2]
    obtain ⟨v2, h_3, H⟩ := HS.bnd H
    try simp -implicitDefEqProofs (maxSteps := 2000000) [-selQ_sel, h_1, h_2, h_3]
    refine Hid.selQ (fun h_4 => ?_) (fun h_4 => ?_)
    · replace H := HS.cnd_t h_4 H
      try simp -implicitDefEqProofs (maxSteps := 2000000) [-selQ_sel, h_1, h_2, h_3, h_4]
      obtain ⟨v3, h_5, H⟩ := HS.bnd H
      try simp -implicitDefEqProofs (maxSteps := 2000000) [-selQ_sel, h_1, h_2, h_3, h_4, h_5]
      refine Hid.selQ (fun h_6 => ?_) (fun h_6 => ?_)
      · replace H := HS.cnd_t h_6 H
        try simp -implicitDefEqProofs (maxSteps := 2000000) [-selQ_sel, h_1, h_2, h_3, h_4, h_5, h_6]
        obtain ⟨v4, h_7, H⟩ := HS.bnd H
        try simp -implicitDefEqProofs (maxSteps := 2000000) [-selQ_sel, h_1, h_2, h_3, h_4, h_5, h_6, h_7]
        have hr := (HS.some H).symm; subst hr
        refine Hid.mk ⟨_, Wk.refl _, ?_⟩
        try simp -implicitDefEqProofs (maxSteps := 2000000) [-selQ_sel, h_1, h_2, h_3, h_4, h_5, h_6, h_7]
      · replace H := HS.cnd_f h_6 H
        try simp -implicitDefEqProofs (maxSteps := 2000000) [-selQ_sel, h_1, h_2, h_3, h_4, h_5, h_6]
        have hr := (HS.some H).symm; subst hr
        refine Hid.mk ⟨_, Wk.refl _, ?_⟩
        try simp -implicitDefEqProofs (maxSteps := 2000000) [-selQ_sel, h_1, h_2, h_3, h_4, h_5, h_6]
    · replace H := HS.cnd_f h_4 H
      try simp -implicitDefEqProofs (maxSteps := 2000000) [-selQ_sel, h_1, h_2, h_3, h_4]
      have hr := (HS.some H).symm; subst hr
      refine Hid.mk ⟨_, Wk.refl _, ?_⟩
      try simp -implicitDefEqProofs (maxSteps := 2000000) [-selQ_sel, h_1, h_2, h_3, h_4]
  · replace H := HS.cnd_f h_2 H
    try simp -implicitDefEqProofs (maxSteps := 2000000) [-selQ_sel, h_1, h_2]
    have hr := (HS.some H).symm; subst hr
    refine Hid.mk ⟨_, Wk.refl _, ?_⟩
    try simp -implicitDefEqProofs (maxSteps := 2000000) [-selQ_sel, h_1, h_2]
theorem spec_RectPath_ok0 (hm : Try.prog.follows .mixedOrders = true) (k_spec_Empty : Sound Try.prog 84 spec_Empty_x) (k_spec_PointOk : Sound Try.prog 196 spec_PointOk_x) : Sound Try.prog 225 spec_RectPath_x := by
  refine xOf_sound fun q r h => ?_
  revert h; revert r; revert q; intro a0 r h
  refine fn_ok E0 hm Try.func225 rfl (by decide +kernel) (by rfl) fun Γ hn hk => ?_
  dsimp only [spec_RectPath_e, spec_RectPath_v]
  replace hn : Γ.n = 45 := hn
  replace hk : Γ.k = 0 := hk
  have H : HS (spec_RectPath a0) r := h
  clear h; unfold spec_RectPath at H
  try simp -implicitDefEqProofs at H
  refine Tr.of_vc (cl := tabC [(84, spec_Empty_x), (196, spec_PointOk_x)]) (E := E0) [] (tab_cons k_spec_Empty (tab_cons k_spec_PointOk tab_nil)) hm (by rw [hn]; decide +kernel) ?_
  try simp -implicitDefEqProofs (maxSteps := 2000000) [-selQ_sel]
  obtain ⟨v1, h_1, H⟩ := HS.bnd H
  try simp -implicitDefEqProofs (maxSteps := 2000000) [-selQ_sel, h_1]
  refine Hid.selQ (fun h_2 => ?_) (fun h_2 => ?_)
  · replace H := HS.cnd_t h_2 H
    try simp -implicitDefEqProofs (maxSteps := 2000000) [-selQ_sel, h_1, h_2]
    have hr := (HS.some H).symm; subst hr
    refine Hid.mk ⟨_, Wk.refl _, ?_⟩
    try simp -implicitDefEqProofs (maxSteps := 2000000) [-selQ_sel, h_1, h_2]
  · replace H := HS.cnd_f h_2 H
    try simp -implicitDefEqProofs (maxSteps := 2000000) [-selQ_sel, h_1, h_2]
    obtain ⟨v2, h_3, H⟩ := HS.bnd H
    try simp -implicitDefEqProofs (maxSteps := 2000000) [-selQ_sel, h_1, h_2, h_3]
    refine Hid.selQ (fun h_4 => ?_) (fun h_4 => ?_)
    · replace H := HS.cnd_t h_4 H
      try simp -implicitDefEqProofs (maxSteps := 2000000) [-selQ_sel, h_1, h_2, h_3, h_4]
      obtain ⟨v3, h_5, H⟩ := HS.bnd H
      try simp -implicitDefEqProofs (maxSteps := 2000000) [-selQ_sel, h_1, h_2, h_3, h_4, h_5]
      refine Hid.brV (fun h_6 => ?_) (fun h_6 => ?_)
      · replace H := HS.cnd_t h_6 H
        try simp -implicitDefEqProofs (maxSteps := 2000000) [-selQ_sel, h_1, h_2, h_3, h_4, h_5, h_6]
        have hr := (HS.some H).symm; subst hr
        refine Hid.mk ⟨_, Wk.refl _, ?_⟩
        try simp -implicitDefEqProofs (maxSteps := 2000000) [-selQ_sel, h_1, h_2, h_3, h_4, h_5, h_6]
      · replace H := HS.cnd_f h_6 H
        try simp -implicitDefEqProofs (maxSteps := 2000000) [-selQ_sel, h_1, h_2, h_3, h_4, h_5, h_6]
        have hr := (HS.some H).symm; subst hr
        refine Hid.mk ⟨_, Wk.refl _, ?_⟩
        try simp -implicitDefEqProofs (maxSteps := 2000000) [-selQ_sel, h_1, h_2, h_3, h_4, h_5, h_6]
    · replace H := HS.cnd_f h_4 H
      try simp -implicitDefEqProofs (maxSteps := 2000000) [-selQ_sel, h_1, h_2, h_3, h_4]
      have hr := (HS.some H).symm; subst hr
      refine Hid.mk ⟨_, Wk.refl _, ?_⟩
      try simp -implicitDefEqProofs (maxSteps := 2000000) [-selQ_sel, h_1, h_2, h_3, h_4]
theorem spec_SurfaceNew_ok0 (hm : Try.prog.follows .mixedOrders = true) (k_spec_l01In : Sound Try.prog 73 spec_l01In_x) : Sound Try.prog 170 spec_SurfaceNew_x := by
  refine xOf_sound fun q r h => ?_
  obtain ⟨a0, a1⟩ := q
  refine fn_ok E0 hm Try.func170 rfl (by decide +kernel) (by rfl) fun Γ hn hk => ?_
  dsimp only [spec_SurfaceNew_e, spec_SurfaceNew_v]
  replace hn : Γ.n = 22 := hn
  replace hk : Γ.k = 0 := hk
  have H : HS (spec_SurfaceNew a0 a1) r := h
  clear h; unfold spec_SurfaceNew at H
  try simp -implicitDefEqProofs at H
  refine Tr.of_vc (cl := tabC [(73, spec_l01In_x)]) (E := E0) [] (tab_cons k_spec_l01In tab_nil) hm (by rw [hn]; decide +kernel) ?_
  try simp -implicitDefEqProofs (maxSteps := 2000000) [-selQ_sel]
  obtain ⟨v1, h_1, H⟩ := HS.bnd H
  try simp -implicitDefEqProofs (maxSteps := 2000000) [-selQ_sel, h_1]
  refine Hid.selQ (fun h_2 => ?_) (fun h_2 => ?_)
  · replace H := HS.cnd_t h_2 H
    try simp -implicitDefEqProofs (maxSteps := 2000000) [-selQ_sel, h_1, h_2]
    obtain ⟨v2, h_3, H⟩ := HS.bnd H
    try simp -implicitDefEqProofs (maxSteps := 2000000) [-selQ_sel, h_1, h_2, h_3]
    refine Hid.brV (fun h_4 => ?_) (fun h_4 => ?_)
    · replace H := HS.cnd_t h_4 H
      try simp -implicitDefEqProofs (maxSteps := 2000000) [-selQ_sel, h_1, h_2, h_3, h_4]
      obtain ⟨h_5, H⟩ := HS.chkP H
      try simp -implicitDefEqProofs (maxSteps := 2000000) [-selQ_sel, h_1, h_2, h_3, h_4, h_5]
      obtain ⟨l3, h_6, H⟩ := HS.nam H
      have m_7 := congrArg (List.map eColor) h_6
      have q_8 := congrArg List.length h_6
      simp -implicitDefEqProofs at m_7 q_8
      try simp only [q_8] at m_7
      try simp only [q_8] at h_5
      try simp -implicitDefEqProofs (maxSteps := 2000000) [-selQ_sel, h_1, h_2, h_3, h_4, h_5, m_7, q_8]
      have hr := (HS.some H).symm; subst hr
      refine Hid.mk ⟨_, Wk.refl _, ?_⟩
      try simp -implicitDefEqProofs (maxSteps := 2000000) [-selQ_sel, h_1, h_2, h_3, h_4, h_5, m_7, q_8]
    · replace H := HS.cnd_f h_4 H
      try simp -implicitDefEqProofs (maxSteps := 2000000) [-selQ_sel, h_1, h_2, h_3, h_4]
      have hr := (HS.some H).symm; subst hr
      refine Hid.mk ⟨_, Wk.refl _, ?_⟩
      try simp -implicitDefEqProofs (maxSteps := 2000000) [-selQ_sel, h_1, h_2, h_3, h_4]
  · replace H := HS.cnd_f h_2 H
    try simp -implicitDefEqProofs (maxSteps := 2000000) [-selQ_sel, h_1, h_2]
    have hr := (HS.some H).symm; subst hr
    refine Hid.mk ⟨_, Wk.refl _, ?_⟩
    try simp -implicitDefEqProofs (maxSteps := 2000000) [-selQ_sel, h_1, h_2]
theorem impl_LaidOk_ok0 (hm : Try.prog.follows .mixedOrders = true) (k_impl_ColorOk : Sound Try.prog 180 impl_ColorOk_x) : Sound Try.prog 112 impl_LaidOk_x := by
  refine xOf_sound fun q r h => ?_
  revert h; revert r; revert q; intro a0 r h
  refine fn_ok E0 hm Try.func112 rfl (by decide +kernel) (by rfl) fun Γ hn hk => ?_
  dsimp only [impl_LaidOk_e, impl_LaidOk_v]
  replace hn : Γ.n = 26 := hn
  replace hk : Γ.k = 0 := hk
  have H : HS (impl_LaidOk a0) r := h
  clear h; unfold impl_LaidOk at H
  try simp -implicitDefEqProofs at H
  refine Tr.of_vc (cl := tabC [(180, impl_ColorOk_x)]) (E := E0) [] (tab_cons k_impl_ColorOk tab_nil) hm (by rw [hn]; decide +kernel) ?_
  try simp -implicitDefEqProofs (maxSteps := 2000000) [-selQ_sel]
  obtain ⟨v1, h_1, H⟩ := HS.bnd H
  try simp -implicitDefEqProofs (maxSteps := 2000000) [-selQ_sel, h_1]
  refine Hid.selQ (fun h_2 => ?_) (fun h_2 => ?_)
  · replace H := HS.cnd_t h_2 H
    try simp -implicitDefEqProofs (maxSteps := 2000000) [-selQ_sel, h_1, h_2]
    refine Hid.selQ (fun h_3 => ?_) (fun h_3 => ?_)
    · replace H := HS.cnd_t h_3 H
      try simp -implicitDefEqProofs (maxSteps := 2000000) [-selQ_sel, h_1, h_2, h_3]
      refine Hid.selQ (fun h_4 => ?_) (fun h_4 => ?_)
      · replace H := HS.cnd_t h_4 H
        try simp -implicitDefEqProofs (maxSteps := 2000000) [-selQ_sel, h_1, h_2, h_3, h_4]
        have hr := (HS.some H).symm; subst hr
        refine Hid.mk ⟨_, Wk.refl _, ?_⟩
        try simp -implicitDefEqProofs (maxSteps := 2000000) [-selQ_sel, h_1, h_2, h_3, h_4]
      · replace H := HS.cnd_f h_4 H
        try simp -implicitDefEqProofs (maxSteps := 2000000) [-selQ_sel, h_1, h_2, h_3, h_4]
        have hr := (HS.some H).symm; subst hr
        refine Hid.mk ⟨_, Wk.refl _, ?_⟩
        try simp -implicitDefEqProofs (maxSteps := 2000000) [-selQ_sel, h_1, h_2, h_3, h_4]
    · replace H := HS.cnd_f h_3 H
      try simp -implicitDefEqProofs (maxSteps := 2000000) [-selQ_sel, h_1, h_2, h_3]
      have hr := (HS.some H).symm; subst hr
      refine Hid.mk ⟨_, Wk.refl _, ?_⟩
      try simp -implicitDefEqProofs (maxSteps := 2000000) [-selQ_sel, h_1, h_2, h_3]
  · replace H := HS.cnd_f h_2 H
    try simp -implicitDefEqProofs (maxSteps := 2000000) [-selQ_sel, h_1, h_2]
    have hr := (HS.some H).symm; subst hr
    refine Hid.mk ⟨_, Wk.refl _, ?_⟩
    try simp -implicitDefEqProofs (maxSteps := 2000000) [-selQ_sel, h_1, h_2]
theorem spec_InBox_ok0 (hm : Try.prog.follows .mixedOrders = true) : Sound Try.prog 192 spec_InBox_x := by
  refine xOf_sound fun q r h => ?_
  obtain ⟨a0, a1⟩ := q
  refine fn_ok E0 hm Try.func192 rfl (by decide +kernel) (by rfl) fun Γ hn hk => ?_
  dsimp only [spec_InBox_e, spec_InBox_v]
  replace hn : Γ.n = 31 := hn
  replace hk : Γ.k = 0 := hk
  have H : HS (spec_InBox a0 a1) r := h
  clear h; unfold spec_InBox at H
  try simp -implicitDefEqProofs at H
  refine Tr.of_vc (cl := tabC []) (E := E0) [] tab_nil hm (by rw [hn]; decide +kernel) ?_
  try simp -implicitDefEqProofs (maxSteps := 2000000) [-selQ_sel]
  refine Hid.selQ (fun h_1 => ?_) (fun h_1 => ?_)
  · replace H := HS.cnd_t h_1 H
    try simp -implicitDefEqProofs (maxSteps := 2000000) [-selQ_sel, h_1]
    refine Hid.selQ (fun h_2 => ?_) (fun h_2 => ?_)
    · replace H := HS.cnd_t h_2 H
      try simp -implicitDefEqProofs (maxSteps := 2000000) [-selQ_sel, h_1, h_2]
      have hr := (HS.some H).symm; subst hr
      refine Hid.mk ⟨_, Wk.refl _, ?_⟩
      try simp -implicitDefEqProofs (maxSteps := 2000000) [-selQ_sel, h_1, h_2]
    · replace H := HS.cnd_f h_2 H
      try simp -implicitDefEqProofs (maxSteps := 2000000) [-selQ_sel, h_1, h_2]
      refine Hid.selQ (fun h_3 => ?_) (fun h_3 => ?_)
      · replace H := HS.cnd_t h_3 H
        try simp -implicitDefEqProofs (maxSteps := 2000000) [-selQ_sel, h_1, h_2, h_3]
        have hr := (HS.some H).symm; subst hr
        refine Hid.mk ⟨_, Wk.refl _, ?_⟩
        try simp -implicitDefEqProofs (maxSteps := 2000000) [-selQ_sel, h_1, h_2, h_3]
      · replace H := HS.cnd_f h_3 H
        try simp -implicitDefEqProofs (maxSteps := 2000000) [-selQ_sel, h_1, h_2, h_3]
        have hr := (HS.some H).symm; subst hr
        refine Hid.mk ⟨_, Wk.refl _, ?_⟩
        try simp -implicitDefEqProofs (maxSteps := 2000000) [-selQ_sel, h_1, h_2, h_3]
  · replace H := HS.cnd_f h_1 H
    try simp -implicitDefEqProofs (maxSteps := 2000000) [-selQ_sel, h_1]
    have hr := (HS.some H).symm; subst hr
    refine Hid.mk ⟨_, Wk.refl _, ?_⟩
    try simp -implicitDefEqProofs (maxSteps := 2000000) [-selQ_sel, h_1]
theorem impl_PaintMask_1_ok0 (hm : Try.prog.follows .mixedOrders = true) (k_impl_Mask_bitsAt : Sound Try.prog 118 impl_Mask_bitsAt_x) (k_impl_inked : Sound Try.prog 119 impl_inked_x) (k_impl_Blend : Sound Try.prog 107 impl_Blend_x) : Sound Try.prog 117 impl_PaintMask_1_x := by
  refine xOf_sound fun q r h => ?_
  obtain ⟨a0, a1, a2, a3, a4, a5, a6⟩ := q
  refine fn_ok E0 hm Try.func117 rfl (by decide +kernel) (by rfl) fun Γ hn hk => ?_
  dsimp only [impl_PaintMask_1_e, impl_PaintMask_1_v]
  replace hn : Γ.n = 27 := hn
  replace hk : Γ.k = 0 := hk
  have H : HS (impl_PaintMask_1 a0 a1 a2 a3 a4 a5 a6) r := h
  clear h; unfold impl_PaintMask_1 at H
  try simp -implicitDefEqProofs at H
  refine Tr.of_vc (cl := tabC [(118, impl_Mask_bitsAt_x), (119, impl_inked_x), (107, impl_Blend_x)]) (E := E0) [] (tab_cons k_impl_Mask_bitsAt (tab_cons k_impl_inked (tab_cons k_impl_Blend tab_nil))) hm (by rw [hn]; decide +kernel) ?_
  try simp -implicitDefEqProofs +decide (maxSteps := 2000000) [-selQ_sel, hokQ_of]
  obtain ⟨v1, h_1, H⟩ := HS.bnd H
  try simp -implicitDefEqProofs +decide (maxSteps := 2000000) [-selQ_sel, hokQ_of, h_1]
  refine Hid.brV (fun h_2 => ?_) (fun h_2 => ?_)
  · replace H := HS.cnd_t h_2 H
    try simp -implicitDefEqProofs +decide (maxSteps := 2000000) [-selQ_sel, hokQ_of, h_1, h_2]
    have hr := (HS.some H).symm; subst hr
    refine Hid.mk ⟨_, Wk.refl _, ?_⟩
    try simp -implicitDefEqProofs +decide (maxSteps := 2000000) [-selQ_sel, hokQ_of, h_1, h_2]
  · replace H := HS.cnd_f h_2 H
    try simp -implicitDefEqProofs +decide (maxSteps := 2000000) [-selQ_sel, hokQ_of, h_1, h_2]
    obtain ⟨v2, h_3, H⟩ := HS.bnd H
    try simp -implicitDefEqProofs +decide (maxSteps := 2000000) [-selQ_sel, hokQ_of, h_1, h_2, h_3]
    obtain ⟨v3, h_4, H⟩ := HS.bnd H
    try simp -implicitDefEqProofs +decide (maxSteps := 2000000) [-selQ_sel, hokQ_of, h_1, h_2, h_3, h_4]
    have hr := (HS.some H).symm; subst hr
    refine Hid.mk ⟨_, Wk.refl _, ?_⟩
    try simp -implicitDefEqProofs +decide (maxSteps := 2000000) [-selQ_sel, hokQ_of, h_1, h_2, h_3, h_4]
theorem impl_SameSurface_ok0 (hm : Try.prog.follows .mixedOrders = true) (k_slices_Equal_Color : Sound Try.prog 111 slices_Equal_Color_x) : Sound Try.prog 33 impl_SameSurface_x := by
  refine xOf_sound fun q r h => ?_
  obtain ⟨a0, a1⟩ := q
  refine fn_ok E0 hm Try.func33 rfl (by decide +kernel) (by rfl) fun Γ hn hk => ?_
  dsimp only [impl_SameSurface_e, impl_SameSurface_v]
  replace hn : Γ.n = 24 := hn
  replace hk : Γ.k = 0 := hk
  have H : HS (impl_SameSurface a0 a1) r := h
  clear h; unfold impl_SameSurface at H
  try simp -implicitDefEqProofs at H
  refine Tr.of_vc (cl := tabC [(111, slices_Equal_Color_x)]) (E := E0) [] (tab_cons k_slices_Equal_Color tab_nil) hm (by rw [hn]; decide +kernel) ?_
  try simp -implicitDefEqProofs (maxSteps := 2000000) [-selQ_sel]
  refine Hid.selQ (fun h_1 => ?_) (fun h_1 => ?_)
  · replace H := HS.cnd_t h_1 H
    try simp -implicitDefEqProofs (maxSteps := 2000000) [-selQ_sel, h_1]
    refine Hid.selQ (fun h_2 => ?_) (fun h_2 => ?_)
    · replace H := HS.cnd_t h_2 H
      try simp -implicitDefEqProofs (maxSteps := 2000000) [-selQ_sel, h_1, h_2]
      obtain ⟨v1, h_3, H⟩ := HS.bnd H
      try simp -implicitDefEqProofs (maxSteps := 2000000) [-selQ_sel, h_1, h_2, h_3]
      have hr := (HS.some H).symm; subst hr
      refine Hid.mk ⟨_, Wk.refl _, ?_⟩
      try simp -implicitDefEqProofs (maxSteps := 2000000) [-selQ_sel, h_1, h_2, h_3]
    · replace H := HS.cnd_f h_2 H
      try simp -implicitDefEqProofs (maxSteps := 2000000) [-selQ_sel, h_1, h_2]
      have hr := (HS.some H).symm; subst hr
      refine Hid.mk ⟨_, Wk.refl _, ?_⟩
      try simp -implicitDefEqProofs (maxSteps := 2000000) [-selQ_sel, h_1, h_2]
  · replace H := HS.cnd_f h_1 H
    try simp -implicitDefEqProofs (maxSteps := 2000000) [-selQ_sel, h_1]
    have hr := (HS.some H).symm; subst hr
    refine Hid.mk ⟨_, Wk.refl _, ?_⟩
    try simp -implicitDefEqProofs (maxSteps := 2000000) [-selQ_sel, h_1]
theorem slices_Clone_Color_ok0 (hm : Try.prog.follows .mixedOrders = true) : Sound Try.prog 172 slices_Clone_Color_x := by
  refine xOf_sound fun q r h => ?_
  revert h; revert r; revert q; intro a0 r h
  refine fn_ok E0 hm Try.func172 rfl (by decide +kernel) (by rfl) fun Γ hn hk => ?_
  dsimp only [slices_Clone_Color_e, slices_Clone_Color_v]
  replace hn : Γ.n = 8 := hn
  replace hk : Γ.k = 0 := hk
  have H : HS (slices_Clone_Color a0) r := h
  clear h; unfold slices_Clone_Color at H
  obtain ⟨h_1, H⟩ := HS.chkP H
  have hr := (HS.some H).symm; subst hr
  refine Tr.of_vc (cl := tabC []) (E := E0) [1] tab_nil hm (by rw [hn]; decide +kernel) ?_
  simp -implicitDefEqProofs [-selQ_sel]
  refine Hid.mk (Tr_nil (E := E0) tab_nil (h1 := rfl) (hd1 := fun d h => by cases h; rw [hn]; decide) (ho := rfl) (hg := rfl) (hd := rfl) (hdn := by rw [hn]; decide) (hu := elt_48) (hx := rfl) fun b hb => ?_)
  refine Tr.of_vc (cl := tabC []) (E := E0) [] tab_nil hm (by rw [hn]; decide +kernel) ?_
  simp -implicitDefEqProofs [-selQ_sel, aft, putT]
  refine Hid.brV (fun h_2 => ?_) (fun h_2 => ?_)
  · simp -implicitDefEqProofs [-selQ_sel]
    have h_3 := hb h_2; simp at h_3; subst h_3
    refine Hid.mk ⟨_, Wk.refl _, ?_⟩
    simp -implicitDefEqProofs [-selQ_sel, h_1]
    refine ⟨⟨[(2, AV.osl 0 0 0 0)], [(0, Ob.arr 4 (List.map eColor []) false)], 1⟩, Wk.ofk [0] hk (by rfl) (by simp -implicitDefEqProofs) (by simp -implicitDefEqProofs), ?_⟩
    simp -implicitDefEqProofs [-selQ_sel, h_1]
  · simp -implicitDefEqProofs [-selQ_sel]
    refine Hid.mk ⟨_, Wk.refl _, ?_⟩
    simp -implicitDefEqProofs [-selQ_sel, h_1]
    refine ⟨⟨[(2, AV.osl 0 0 (List.length a0) (List.length a0))], [(0, Ob.arr 4 (List.map eColor a0) false)], 1⟩, Wk.ofk [0] hk (by rfl) (by simp -implicitDefEqProofs) (by simp -implicitDefEqProofs), ?_⟩
    simp -implicitDefEqProofs [-selQ_sel, h_1]
theorem spec_NeedOf_ok0 (hm : Try.prog.follows .mixedOrders = true) (k_spec_l01In : Sound Try.prog 73 spec_l01In_x) : Sound Try.prog 224 spec_NeedOf_x := by
  refine xOf_sound fun q r h => ?_
  revert h; revert r; revert q; intro a0 r h
  refine fn_ok E0 hm Try.func224 rfl (by decide +kernel) (by rfl) fun Γ hn hk => ?_
  dsimp only [spec_NeedOf_e, spec_NeedOf_v]
  replace hn : Γ.n = 13 := hn
  replace hk : Γ.k = 0 := hk
  have H : HS (spec_NeedOf a0) r := h
  clear h; unfold spec_NeedOf at H
  try simp -implicitDefEqProofs at H
  refine Tr.of_vc (cl := tabC [(73, spec_l01In_x)]) (E := E0) [] (tab_cons k_spec_l01In tab_nil) hm (by rw [hn]; decide +kernel) ?_
  try simp -implicitDefEqProofs (maxSteps := 2000000) [-selQ_sel]
  obtain ⟨v1, h_1, H⟩ := HS.bnd H
  try simp -implicitDefEqProofs (maxSteps := 2000000) [-selQ_sel, h_1]
  refine Hid.brV (fun h_2 => ?_) (fun h_2 => ?_)
  · replace H := HS.cnd_t h_2 H
    try simp -implicitDefEqProofs (maxSteps := 2000000) [-selQ_sel, h_1, h_2]
    obtain ⟨v2, h_3, H⟩ := HS.bnd H
    have g_4 := idx_get h_3
    have g_5 := idx_map (e := (AV.int .i64)) h_3
    have g_6 := idx_get g_5
    simp -implicitDefEqProofs at g_5 g_6
    try simp -implicitDefEqProofs (maxSteps := 2000000) [-selQ_sel, h_1, h_2, h_3, g_4, g_5, g_6]
    have hr := (HS.some H).symm; subst hr
    refine Hid.mk ⟨_, Wk.refl _, ?_⟩
    try simp -implicitDefEqProofs (maxSteps := 2000000) [-selQ_sel, h_1, h_2, h_3, g_4, g_5, g_6]
  · replace H := HS.cnd_f h_2 H
    try simp -implicitDefEqProofs (maxSteps := 2000000) [-selQ_sel, h_1, h_2]
    have hr := (HS.some H).symm; subst hr
    refine Hid.mk ⟨_, Wk.refl _, ?_⟩
    try simp -implicitDefEqProofs (maxSteps := 2000000) [-selQ_sel, h_1, h_2]
theorem spec_Clamp_ok0 (hm : Try.prog.follows .mixedOrders = true) : Sound Try.prog 194 spec_Clamp_x := by
  refine xOf_sound fun q r h => ?_
  obtain ⟨a0, a1, a2⟩ := q
  refine fn_ok E0 hm Try.func194 rfl (by decide +kernel) (by rfl) fun Γ hn hk => ?_
  dsimp only [spec_Clamp_e, spec_Clamp_v]
  replace hn : Γ.n = 16 := hn
  replace hk : Γ.k = 0 := hk
  have H : HS (spec_Clamp a0 a1 a2) r := h
  clear h; unfold spec_Clamp at H
  try simp -implicitDefEqProofs at H
  refine Tr.of_vc (cl := tabC []) (E := E0) [] tab_nil hm (by rw [hn]; decide +kernel) ?_
  try simp -implicitDefEqProofs (maxSteps := 2000000) [-selQ_sel]
  refine Hid.brV (fun h_1 => ?_) (fun h_1 => ?_)
  · replace H := HS.cnd_t h_1 H
    try simp -implicitDefEqProofs (maxSteps := 2000000) [-selQ_sel, h_1]
    refine Hid.brV (fun h_2 => ?_) (fun h_2 => ?_)
    · replace H := HS.cnd_t h_2 H
      try simp -implicitDefEqProofs (maxSteps := 2000000) [-selQ_sel, h_1, h_2]
      have hr := (HS.some H).symm; subst hr
      refine Hid.mk ⟨_, Wk.refl _, ?_⟩
      try simp -implicitDefEqProofs (maxSteps := 2000000) [-selQ_sel, h_1, h_2]
    · replace H := HS.cnd_f h_2 H
      try simp -implicitDefEqProofs (maxSteps := 2000000) [-selQ_sel, h_1, h_2]
      have hr := (HS.some H).symm; subst hr
      refine Hid.mk ⟨_, Wk.refl _, ?_⟩
      try simp -implicitDefEqProofs (maxSteps := 2000000) [-selQ_sel, h_1, h_2]
  · replace H := HS.cnd_f h_1 H
    try simp -implicitDefEqProofs (maxSteps := 2000000) [-selQ_sel, h_1]
    have hr := (HS.some H).symm; subst hr
    refine Hid.mk ⟨_, Wk.refl _, ?_⟩
    try simp -implicitDefEqProofs (maxSteps := 2000000) [-selQ_sel, h_1]
theorem impl_PointOk_ok0 (hm : Try.prog.follows .mixedOrders = true) (k_impl_isFar : Sound Try.prog 226 impl_isFar_x) : Sound Try.prog 187 impl_PointOk_x := by
  refine xOf_sound fun q r h => ?_
  revert h; revert r; revert q; intro a0 r h
  refine fn_ok E0 hm Try.func187 rfl (by decide +kernel) (by rfl) fun Γ hn hk => ?_
  dsimp only [impl_PointOk_e, impl_PointOk_v]
  replace hn : Γ.n = 11 := hn
  replace hk : Γ.k = 0 := hk
  have H : HS (impl_PointOk a0) r := h
  clear h; unfold impl_PointOk at H
  try simp -implicitDefEqProofs at H
  refine Tr.of_vc (cl := tabC [(226, impl_isFar_x)]) (E := E0) [] (tab_cons k_impl_isFar tab_nil) hm (by rw [hn]; decide +kernel) ?_
  try simp -implicitDefEqProofs (maxSteps := 2000000) [-selQ_sel]
  obtain ⟨v1, h_1, H⟩ := HS.bnd H
  try simp -implicitDefEqProofs (maxSteps := 2000000) [-selQ_sel, h_1]
  refine Hid.selQ (fun h_2 => ?_) (fun h_2 => ?_)
  · replace H := HS.cnd_t h_2 H
    try simp -implicitDefEqProofs (maxSteps := 2000000) [-selQ_sel, h_1, h_2]
    obtain ⟨v2, h_3, H⟩ := HS.bnd H
    try simp -implicitDefEqProofs (maxSteps := 2000000) [-selQ_sel, h_1, h_2, h_3]
    have hr := (HS.some H).symm; subst hr
    refine Hid.mk ⟨_, Wk.refl _, ?_⟩
    try simp -implicitDefEqProofs (maxSteps := 2000000) [-selQ_sel, h_1, h_2, h_3]
  · replace H := HS.cnd_f h_2 H
    try simp -implicitDefEqProofs (maxSteps := 2000000) [-selQ_sel, h_1, h_2]
    have hr := (HS.some H).symm; subst hr
    refine Hid.mk ⟨_, Wk.refl _, ?_⟩
    try simp -implicitDefEqProofs (maxSteps := 2000000) [-selQ_sel, h_1, h_2]
theorem spec_l10Near_ok0 (hm : Try.prog.follows .mixedOrders = true) (k_spec_l01In : Sound Try.prog 73 spec_l01In_x) : Sound Try.prog 247 spec_l10Near_x := by
  refine xOf_sound fun q r h => ?_
  revert h; revert r; revert q; intro a0 r h
  refine fn_ok E0 hm Try.func247 rfl (by decide +kernel) (by rfl) fun Γ hn hk => ?_
  dsimp only [spec_l10Near_e, spec_l10Near_v]
  replace hn : Γ.n = 11 := hn
  replace hk : Γ.k = 0 := hk
  have H : HS (spec_l10Near a0) r := h
  clear h; unfold spec_l10Near at H
  try simp -implicitDefEqProofs at H
  refine Tr.of_vc (cl := tabC [(73, spec_l01In_x)]) (E := E0) [] (tab_cons k_spec_l01In tab_nil) hm (by rw [hn]; decide +kernel) ?_
  try simp -implicitDefEqProofs (maxSteps := 2000000) [-selQ_sel]
  obtain ⟨v1, h_1, H⟩ := HS.bnd H
  try simp -implicitDefEqProofs (maxSteps := 2000000) [-selQ_sel, h_1]
  refine Hid.selQ (fun h_2 => ?_) (fun h_2 => ?_)
  · replace H := HS.cnd_t h_2 H
    try simp -implicitDefEqProofs (maxSteps := 2000000) [-selQ_sel, h_1, h_2]
    obtain ⟨v2, h_3, H⟩ := HS.bnd H
    try simp -implicitDefEqProofs (maxSteps := 2000000) [-selQ_sel, h_1, h_2, h_3]
    have hr := (HS.some H).symm; subst hr
    refine Hid.mk ⟨_, Wk.refl _, ?_⟩
    try simp -implicitDefEqProofs (maxSteps := 2000000) [-selQ_sel, h_1, h_2, h_3]
  · replace H := HS.cnd_f h_2 H
    try simp -implicitDefEqProofs (maxSteps := 2000000) [-selQ_sel, h_1, h_2]
    have hr := (HS.some H).symm; subst hr
    refine Hid.mk ⟨_, Wk.refl _, ?_⟩
    try simp -implicitDefEqProofs (maxSteps := 2000000) [-selQ_sel, h_1, h_2]
theorem impl_each_ColorAt_1_ok0 (hm : Try.prog.follows .mixedOrders = true) (k_impl_ColorAt_1 : Sound Try.prog 230 impl_ColorAt_1_x) : Sound Try.prog 174 impl_each_ColorAt_1_x := by
  refine xOf_sound fun q r h => ?_
  obtain ⟨a0, a1, a2⟩ := q
  refine fn_ok E0 hm Try.func174 rfl (by decide +kernel) (by rfl) fun Γ hn hk => ?_
  dsimp only [impl_each_ColorAt_1_e, impl_each_ColorAt_1_v]
  replace hn : Γ.n = 32 := hn
  replace hk : Γ.k = 0 := hk
  have H : HS (impl_each_ColorAt_1 a0 a1 a2) r := h
  clear h; unfold impl_each_ColorAt_1 at H
  try simp -implicitDefEqProofs at H
  refine Tr.of_vc (cl := tabC [(230, impl_ColorAt_1_x)]) (E := E0) [] (tab_cons k_impl_ColorAt_1 tab_nil) hm (by rw [hn]; decide +kernel) ?_
  try simp -implicitDefEqProofs +decide (maxSteps := 2000000) [-selQ_sel, hokQ_of]
  obtain ⟨v1, h_1, H⟩ := HS.bnd H
  try simp -implicitDefEqProofs +decide (maxSteps := 2000000) [-selQ_sel, hokQ_of, h_1]
  obtain ⟨v2, h_2, H⟩ := HS.bnd H
  try simp -implicitDefEqProofs +decide (maxSteps := 2000000) [-selQ_sel, hokQ_of, h_1, h_2]
  obtain ⟨v3, h_3, H⟩ := HS.bnd H
  try simp -implicitDefEqProofs +decide (maxSteps := 2000000) [-selQ_sel, hokQ_of, h_1, h_2, h_3]
  obtain ⟨v4, h_4, H⟩ := HS.bnd H
  try simp -implicitDefEqProofs +decide (maxSteps := 2000000) [-selQ_sel, hokQ_of, h_1, h_2, h_3, h_4]
  have hr := (HS.some H).symm; subst hr
  refine Hid.mk ⟨_, Wk.refl _, ?_⟩
  try simp -implicitDefEqProofs +decide (maxSteps := 2000000) [-selQ_sel, hokQ_of, h_1, h_2, h_3, h_4]
theorem impl_CountOf_ok0 (hm : Try.prog.follows .mixedOrders = true) (k_impl_inRange : Sound Try.prog 76 impl_inRange_x) : Sound Try.prog 191 impl_CountOf_x := by
  refine xOf_sound fun q r h => ?_
  revert h; revert r; revert q; intro a0 r h
  refine fn_ok E0 hm Try.func191 rfl (by decide +kernel) (by rfl) fun Γ hn hk => ?_
  dsimp only [impl_CountOf_e, impl_CountOf_v]
  replace hn : Γ.n = 19 := hn
  replace hk : Γ.k = 0 := hk
  have H : HS (impl_CountOf a0) r := h
  clear h; unfold impl_CountOf at H
  try simp -implicitDefEqProofs at H
  refine Tr.of_vc (cl := tabC [(76, impl_inRange_x)]) (E := E0) [] (tab_cons k_impl_inRange tab_nil) hm (by rw [hn]; decide +kernel) ?_
  try simp -implicitDefEqProofs (maxSteps := 2000000) [-selQ_sel]
  obtain ⟨v1, h_1, H⟩ := HS.bnd H
  try simp -implicitDefEqProofs (maxSteps := 2000000) [-selQ_sel, h_1]
  refine Hid.brV (fun h_2 => ?_) (fun h_2 => ?_)
  · replace H := HS.cnd_t h_2 H
    try simp -implicitDefEqProofs (maxSteps := 2000000) [-selQ_sel, h_1, h_2]
    have hr := (HS.some H).symm; subst hr
    refine Hid.mk ⟨_, Wk.refl _, ?_⟩
    try simp -implicitDefEqProofs (maxSteps := 2000000) [-selQ_sel, h_1, h_2]
  · replace H := HS.cnd_f h_2 H
    try simp -implicitDefEqProofs (maxSteps := 2000000) [-selQ_sel, h_1, h_2]
    have hr := (HS.some H).symm; subst hr
    refine Hid.mk ⟨_, Wk.refl _, ?_⟩
    try simp -implicitDefEqProofs (maxSteps := 2000000) [-selQ_sel, h_1, h_2]
theorem impl_LayOver_1_ok0 (hm : Try.prog.follows .mixedOrders = true) (k_impl_Fade : Sound Try.prog 108 impl_Fade_x) (k_impl_Blend : Sound Try.prog 107 impl_Blend_x) : Sound Try.prog 106 impl_LayOver_1_x := by
  refine xOf_sound fun q r h => ?_
  obtain ⟨a0, a1, a2, a3, a4, a5⟩ := q
  refine fn_ok E0 hm Try.func106 rfl (by decide +kernel) (by rfl) fun Γ hn hk => ?_
  dsimp only [impl_LayOver_1_e, impl_LayOver_1_v]
  replace hn : Γ.n = 25 := hn
  replace hk : Γ.k = 0 := hk
  have H : HS (impl_LayOver_1 a0 a1 a2 a3 a4 a5) r := h
  clear h; unfold impl_LayOver_1 at H
  try simp -implicitDefEqProofs at H
  refine Tr.of_vc (cl := tabC [(108, impl_Fade_x), (107, impl_Blend_x)]) (E := E0) [] (tab_cons k_impl_Fade (tab_cons k_impl_Blend tab_nil)) hm (by rw [hn]; decide +kernel) ?_
  try simp -implicitDefEqProofs +decide (maxSteps := 2000000) [-selQ_sel, hokQ_of]
  obtain ⟨v1, h_1, H⟩ := HS.bnd H
  try simp -implicitDefEqProofs +decide (maxSteps := 2000000) [-selQ_sel, hokQ_of, h_1]
  obtain ⟨v2, h_2, H⟩ := HS.bnd H
  try simp -implicitDefEqProofs +decide (maxSteps := 2000000) [-selQ_sel, hokQ_of, h_1, h_2]
  obtain ⟨v3, h_3, H⟩ := HS.bnd H
  try simp -implicitDefEqProofs +decide (maxSteps := 2000000) [-selQ_sel, hokQ_of, h_1, h_2, h_3]
  have hr := (HS.some H).symm; subst hr
  refine Hid.mk ⟨_, Wk.refl _, ?_⟩
  try simp -implicitDefEqProofs +decide (maxSteps := 2000000) [-selQ_sel, hokQ_of, h_1, h_2, h_3]
theorem spec_Times255_ok0 (hm : Try.prog.follows .mixedOrders = true) (k_spec_Clamp : Sound Try.prog 194 spec_Clamp_x) (k_spec_RoundDiv : Sound Try.prog 124 spec_RoundDiv_x) : Sound Try.prog 123 spec_Times255_x := by
  refine xOf_sound fun q r h => ?_
  obtain ⟨a0, a1⟩ := q
  refine fn_ok E0 hm Try.func123 rfl (by decide +kernel) (by rfl) fun Γ hn hk => ?_
  dsimp only [spec_Times255_e, spec_Times255_v]
  replace hn : Γ.n = 11 := hn
  replace hk : Γ.k = 0 := hk
  have H : HS (spec_Times255 a0 a1) r := h
  clear h; unfold spec_Times255 at H
  try simp -implicitDefEqProofs at H
  refine Tr.of_vc (cl := tabC [(194, spec_Clamp_x), (124, spec_RoundDiv_x)]) (E := E0) [] (tab_cons k_spec_Clamp (tab_cons k_spec_RoundDiv tab_nil)) hm (by rw [hn]; decide +kernel) ?_
  try simp -implicitDefEqProofs (maxSteps := 2000000) [-selQ_sel]
  obtain ⟨v1, h_1, H⟩ := HS.bnd H
  try simp -implicitDefEqProofs (maxSteps := 2000000) [-selQ_sel, h_1]
  obtain ⟨v2, h_2, H⟩ := HS.bnd H
  try simp -implicitDefEqProofs (maxSteps := 2000000) [-selQ_sel, h_1, h_2]
  obtain ⟨v3, h_3, H⟩ := HS.bnd H
  try simp -implicitDefEqProofs (maxSteps := 2000000) [-selQ_sel, h_1, h_2, h_3]
  have hr := (HS.some H).symm; subst hr
  refine Hid.mk ⟨_, Wk.refl _, ?_⟩
  try simp -implicitDefEqProofs (maxSteps := 2000000) [-selQ_sel, h_1, h_2, h_3]
theorem spec_DrawRightSurface_ok0 (hm : Try.prog.follows .mixedOrders = true) (k_spec_l01New : Sound Try.prog 101 spec_l01New_x) (k_spec_l14Surface : Sound Try.prog 100 spec_l14Surface_x) : Sound Try.prog 29 spec_DrawRightSurface_x := by
  refine xOf_sound fun q r h => ?_
  revert h; revert r; revert q; intro a0 r h
  refine fn_ok E0 hm Try.func29 rfl (by decide +kernel) (by rfl) fun Γ hn hk => ?_
  dsimp only [spec_DrawRightSurface_e, spec_DrawRightSurface_v]
  replace hn : Γ.n = 6 := hn
  replace hk : Γ.k = 0 := hk
  have H : HS (spec_DrawRightSurface a0) r := h
  clear h; unfold spec_DrawRightSurface at H
  try simp -implicitDefEqProofs at H
  refine Tr.of_vc (cl := tabC [(101, spec_l01New_x), (100, spec_l14Surface_x)]) (E := E0) [] (tab_cons k_spec_l01New (tab_cons k_spec_l14Surface tab_nil)) hm (by rw [hn]; decide +kernel) ?_
  try simp -implicitDefEqProofs (maxSteps := 2000000) [-selQ_sel]
  obtain ⟨v1, h_1, H⟩ := HS.bnd H
  try simp -implicitDefEqProofs (maxSteps := 2000000) [-selQ_sel, h_1]
  obtain ⟨⟨w3, w4⟩, h_2, H⟩ := HS.bnd H
  dsimp only at H
  try simp -implicitDefEqProofs (maxSteps := 2000000) [-selQ_sel, h_1, h_2]
  have hr := (HS.some H).symm; subst hr
  refine Hid.mk ⟨_, Wk.refl _, ?_⟩
  try simp -implicitDefEqProofs (maxSteps := 2000000) [-selQ_sel, h_1, h_2]
theorem spec_l01PickInt_ok0 (hm : Try.prog.follows .mixedOrders = true) (k_spec_l01Below : Sound Try.prog 110 spec_l01Below_x) : Sound Try.prog 171 spec_l01PickInt_x := by
  refine xOf_sound fun q r h => ?_
  obtain ⟨a0, a1⟩ := q
  refine fn_ok E0 hm Try.func171 rfl (by decide +kernel) (by rfl) fun Γ hn hk => ?_
  dsimp only [spec_l01PickInt_e, spec_l01PickInt_v]
  replace hn : Γ.n = 12 := hn
  replace hk : Γ.k = 2 := hk
  have H : HS (spec_l01PickInt a0 a1) r := h
  clear h; unfold spec_l01PickInt at H
  try simp -implicitDefEqProofs at H
  refine Tr.of_vc (cl := tabC [(110, spec_l01Below_x)]) (E := E0) [] (tab_cons k_spec_l01Below tab_nil) hm (by rw [hn]; decide +kernel) ?_
  try simp -implicitDefEqProofs (maxSteps := 2000000) [-selQ_sel]
  obtain ⟨⟨w2, w3⟩, h_1, H⟩ := HS.bnd H
  dsimp only at H
  try simp -implicitDefEqProofs (maxSteps := 2000000) [-selQ_sel, h_1]
  obtain ⟨v4, h_2, H⟩ := HS.bnd H
  have g_3 := idx_get h_2
  try simp -implicitDefEqProofs (maxSteps := 2000000) [-selQ_sel, h_1, h_2, g_3]
  have hr := (HS.some H).symm; subst hr
  refine Hid.mk ⟨_, Wk.refl _, ?_⟩
  try simp -implicitDefEqProofs (maxSteps := 2000000) [-selQ_sel, h_1, h_2, g_3]
theorem impl_ColorAt_1_ok0 (hm : Try.prog.follows .mixedOrders = true) (k_impl_RoundDiv : Sound Try.prog 177 impl_RoundDiv_x) : Sound Try.prog 230 impl_ColorAt_1_x := by
  refine xOf_sound fun q r h => ?_
  obtain ⟨a0, a1, a2⟩ := q
  refine fn_ok E0 hm Try.func230 rfl (by decide +kernel) (by rfl) fun Γ hn hk => ?_
  dsimp only [impl_ColorAt_1_e, impl_ColorAt_1_v]
  replace hn : Γ.n = 15 := hn
  replace hk : Γ.k = 0 := hk
  have H : HS (impl_ColorAt_1 a0 a1 a2) r := h
  clear h; unfold impl_ColorAt_1 at H
  try simp -implicitDefEqProofs at H
  refine Tr.of_vc (cl := tabC [(177, impl_RoundDiv_x)]) (E := E0) [] (tab_cons k_impl_RoundDiv tab_nil) hm (by rw [hn]; decide +kernel) ?_
  try simp -implicitDefEqProofs (maxSteps := 2000000) [-selQ_sel]
  obtain ⟨v1, h_1, H⟩ := HS.bnd H
  try simp -implicitDefEqProofs (maxSteps := 2000000) [-selQ_sel, h_1]
  have hr := (HS.some H).symm; subst hr
  refine Hid.mk ⟨_, Wk.refl _, ?_⟩
  try simp -implicitDefEqProofs (maxSteps := 2000000) [-selQ_sel, h_1]
theorem impl_isByte_ok0 (hm : Try.prog.follows .mixedOrders = true) (k_impl_inRange : Sound Try.prog 76 impl_inRange_x) : Sound Try.prog 178 impl_isByte_x := by
  refine xOf_sound fun q r h => ?_
  revert h; revert r; revert q; intro a0 r h
  refine fn_ok E0 hm Try.func178 rfl (by decide +kernel) (by rfl) fun Γ hn hk => ?_
  dsimp only [impl_isByte_e, impl_isByte_v]
  replace hn : Γ.n = 5 := hn
  replace hk : Γ.k = 0 := hk
  have H : HS (impl_isByte a0) r := h
  clear h; unfold impl_isByte at H
  try simp -implicitDefEqProofs at H
  refine Tr.of_vc (cl := tabC [(76, impl_inRange_x)]) (E := E0) [] (tab_cons k_impl_inRange tab_nil) hm (by rw [hn]; decide +kernel) ?_
  try simp -implicitDefEqProofs (maxSteps := 2000000) [-selQ_sel]
  obtain ⟨v1, h_1, H⟩ := HS.bnd H
  try simp -implicitDefEqProofs (maxSteps := 2000000) [-selQ_sel, h_1]
  have hr := (HS.some H).symm; subst hr
  refine Hid.mk ⟨_, Wk.refl _, ?_⟩
  try simp -implicitDefEqProofs (maxSteps := 2000000) [-selQ_sel, h_1]
theorem impl_Thin_1_ok0 (hm : Try.prog.follows .mixedOrders = true) (k_impl_RoundDiv : Sound Try.prog 177 impl_RoundDiv_x) : Sound Try.prog 227 impl_Thin_1_x := by
  refine xOf_sound fun q r h => ?_
  obtain ⟨a0, a1, a2⟩ := q
  refine fn_ok E0 hm Try.func227 rfl (by decide +kernel) (by rfl) fun Γ hn hk => ?_
  dsimp only [impl_Thin_1_e, impl_Thin_1_v]
  replace hn : Γ.n = 10 := hn
  replace hk : Γ.k = 0 := hk
  have H : HS (impl_Thin_1 a0 a1 a2) r := h
  clear h; unfold impl_Thin_1 at H
  try simp -implicitDefEqProofs at H
  refine Tr.of_vc (cl := tabC [(177, impl_RoundDiv_x)]) (E := E0) [] (tab_cons k_impl_RoundDiv tab_nil) hm (by rw [hn]; decide +kernel) ?_
  try simp -implicitDefEqProofs (maxSteps := 2000000) [-selQ_sel]
  obtain ⟨v1, h_1, H⟩ := HS.bnd H
  try simp -implicitDefEqProofs (maxSteps := 2000000) [-selQ_sel, h_1]
  have hr := (HS.some H).symm; subst hr
  refine Hid.mk ⟨_, Wk.refl _, ?_⟩
  try simp -implicitDefEqProofs (maxSteps := 2000000) [-selQ_sel, h_1]
theorem impl_taken_ok0 (hm : Try.prog.follows .mixedOrders = true) (k_impl_Clamp : Sound Try.prog 219 impl_Clamp_x) : Sound Try.prog 242 impl_taken_x := by
  refine xOf_sound fun q r h => ?_
  obtain ⟨a0, a1⟩ := q
  refine fn_ok E0 hm Try.func242 rfl (by decide +kernel) (by rfl) fun Γ hn hk => ?_
  dsimp only [impl_taken_e, impl_taken_v]
  replace hn : Γ.n = 10 := hn
  replace hk : Γ.k = 0 := hk
  have H : HS (impl_taken a0 a1) r := h
  clear h; unfold impl_taken at H
  try simp -implicitDefEqProofs at H
  refine Tr.of_vc (cl := tabC [(219, impl_Clamp_x)]) (E := E0) [] (tab_cons k_impl_Clamp tab_nil) hm (by rw [hn]; decide +kernel) ?_
  try simp -implicitDefEqProofs (maxSteps := 2000000) [-selQ_sel]
  obtain ⟨v1, h_1, H⟩ := HS.bnd H
  try simp -implicitDefEqProofs (maxSteps := 2000000) [-selQ_sel, h_1]
  have hr := (HS.some H).symm; subst hr
  refine Hid.mk ⟨_, Wk.refl _, ?_⟩
  try simp -implicitDefEqProofs (maxSteps := 2000000) [-selQ_sel, h_1]
end Go.Proofs.Ytoafihhhdnmliaa.Am
