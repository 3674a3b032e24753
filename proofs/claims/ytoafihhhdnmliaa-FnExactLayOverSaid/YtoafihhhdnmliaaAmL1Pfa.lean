import Derived.Test.YtoafihhhdnmliaaAmL1Mo
set_option linter.unusedVariables false
set_option linter.unusedSimpArgs false
set_option linter.unusedSectionVars false
namespace Go.Proofs.Ytoafihhhdnmliaa.Am
open Go Go.Proofs
set_option maxRecDepth 100000
set_option linter.unusedSimpArgs false
set_option linter.unusedVariables false
set_option maxHeartbeats 4000000
theorem laws_FnExactLayOver_ok0 (hm : Try.prog.follows .mixedOrders = true) (k_laws_szSurface : Sound Try.prog 61 laws_szSurface_x) (k_laws_toSurface : Sound Try.prog 62 laws_toSurface_x) (k_spec_LayOver : Sound Try.prog 36 spec_LayOver_x) (k_impl_LayOver : Sound Try.prog 31 impl_LayOver_x) (k_laws_eqSurface : Sound Try.prog 63 laws_eqSurface_x) (k_laws_markSurface : Sound Try.prog 64 laws_markSurface_x) (k_laws_heldSurface : Sound Try.prog 65 laws_heldSurface_x) : Sound Try.prog 10 laws_FnExactLayOver_x := by
  refine xOf_sound fun q r h => ?_
  obtain ⟨a0, a1, a2, a3⟩ := q
  refine fn_ok E0 hm Try.func10 rfl (by decide +kernel) (by rfl) fun Γ hn hk => ?_
  dsimp only [laws_FnExactLayOver_e, laws_FnExactLayOver_v]
  replace hn : Γ.n = 102 := hn
  replace hk : Γ.k = 0 := hk
  have H : HS (laws_FnExactLayOver a0 a1 a2 a3) r := h
  clear h; unfold laws_FnExactLayOver at H
  try simp -implicitDefEqProofs at H
  refine Tr.of_vc (cl := tabC [(61, laws_szSurface_x), (62, laws_toSurface_x), (36, spec_LayOver_x), (31, impl_LayOver_x), (63, laws_eqSurface_x), (64, laws_markSurface_x), (65, laws_heldSurface_x)]) (E := E0) [] (tab_cons k_laws_szSurface (tab_cons k_laws_toSurface (tab_cons k_spec_LayOver (tab_cons k_impl_LayOver (tab_cons k_laws_eqSurface (tab_cons k_laws_markSurface (tab_cons k_laws_heldSurface tab_nil))))))) hm (by rw [hn]; decide +kernel) ?_
  try simp -implicitDefEqProofs +decide (maxSteps := 2000000) [-selQ_sel, hokQ_of]
  obtain ⟨v1, h_1, H⟩ := HS.bnd H
  try simp -implicitDefEqProofs +decide (maxSteps := 2000000) [-selQ_sel, hokQ_of, h_1]
  refine Hid.brV (fun h_2 => ?_) (fun h_2 => ?_)
  · replace H := HS.cnd_t h_2 H
    try simp -implicitDefEqProofs +decide (maxSteps := 2000000) [-selQ_sel, hokQ_of, h_1, h_2]
    obtain ⟨v2, h_3, H⟩ := HS.bnd H
    try simp -implicitDefEqProofs +decide (maxSteps := 2000000) [-selQ_sel, hokQ_of, h_1, h_2, h_3]
    refine Hid.brV (fun h_4 => ?_) (fun h_4 => ?_)
    · replace H := HS.cnd_t h_4 H
      try simp -implicitDefEqProofs +decide (maxSteps := 2000000) [-selQ_sel, hokQ_of, h_1, h_2, h_3, h_4]
      obtain ⟨⟨w4, w5, w6⟩, h_5, H⟩ := HS.bnd H
      dsimp only at H
      try simp -implicitDefEqProofs +decide (maxSteps := 2000000) [-selQ_sel, hokQ_of, h_1, h_2, h_3, h_4, h_5]
      obtain ⟨⟨w8, w9, w10⟩, h_6, H⟩ := HS.bnd H
      dsimp only at H
      try simp -implicitDefEqProofs +decide (maxSteps := 2000000) [-selQ_sel, hokQ_of, h_1, h_2, h_3, h_4, h_5, h_6]
      obtain ⟨v11, h_7, H⟩ := HS.bnd H
      have k_8 := spec_LayOver_k ((TSurface.mk w4 w5 w6).w) ((TSurface.mk w4 w5 w6).h) ((TSurface.mk w4 w5 w6).pix) ((TSurface.mk w8 w9 w10).w) ((TSurface.mk w8 w9 w10).h) ((TSurface.mk w8 w9 w10).pix) a2 a3
      simp -implicitDefEqProofs [-spec_LayOver_k] at k_8
      try simp -implicitDefEqProofs +decide (maxSteps := 2000000) [-selQ_sel, hokQ_of, h_1, h_2, h_3, h_4, h_5, h_6, h_7, k_8]
      obtain ⟨⟨w13, w14, w15⟩, h_9, H⟩ := HS.bnd H
      dsimp only at H
      have k_10 := impl_LayOver_k ((TSurface.mk w4 w5 w6).w) ((TSurface.mk w4 w5 w6).h) ((TSurface.mk w4 w5 w6).pix) ((TSurface.mk w8 w9 w10).w) ((TSurface.mk w8 w9 w10).h) ((TSurface.mk w8 w9 w10).pix) a2 a3
      simp -implicitDefEqProofs [-impl_LayOver_k] at k_10
      try simp -implicitDefEqProofs +decide (maxSteps := 2000000) [-selQ_sel, hokQ_of, h_1, h_2, h_3, h_4, h_5, h_6, h_7, k_8, h_9, k_10]
      obtain ⟨v16, h_11, H⟩ := HS.bnd H
      have k_12 := laws_eqSurface_k ((TSurface.mk w13 w14 w15).w) ((TSurface.mk w13 w14 w15).h) ((TSurface.mk w13 w14 w15).pix) v11.w v11.h v11.pix
      simp -implicitDefEqProofs [-laws_eqSurface_k] at k_12
      try simp -implicitDefEqProofs +decide (maxSteps := 2000000) [-selQ_sel, hokQ_of, h_1, h_2, h_3, h_4, h_5, h_6, h_7, k_8, h_9, k_10, h_11, k_12]
      refine Hid.brV (fun h_13 => ?_) (fun h_13 => ?_)
      · replace H := HS.cnd_t h_13 H
        try simp -implicitDefEqProofs +decide (maxSteps := 2000000) [-selQ_sel, hokQ_of, h_1, h_2, h_3, h_4, h_5, h_6, h_7, k_8, h_9, k_10, h_11, k_12, h_13]
        obtain ⟨v17, h_14, H⟩ := HS.bnd H
        have k_15 := laws_eqSurface_k ((TSurface.mk w4 w5 w6).w) ((TSurface.mk w4 w5 w6).h) ((TSurface.mk w4 w5 w6).pix) ((TSurface.mk w4 w5 w6).w) ((TSurface.mk w4 w5 w6).h) ((TSurface.mk w4 w5 w6).pix)
        simp -implicitDefEqProofs [-laws_eqSurface_k] at k_15
        try simp -implicitDefEqProofs +decide (maxSteps := 2000000) [-selQ_sel, hokQ_of, h_1, h_2, h_3, h_4, h_5, h_6, h_7, k_8, h_9, k_10, h_11, k_12, h_13, h_14, k_15]
        refine Hid.brV (fun h_16 => ?_) (fun h_16 => ?_)
        · replace H := HS.cnd_t h_16 H
          try simp -implicitDefEqProofs +decide (maxSteps := 2000000) [-selQ_sel, hokQ_of, h_1, h_2, h_3, h_4, h_5, h_6, h_7, k_8, h_9, k_10, h_11, k_12, h_13, h_14, k_15, h_16]
          obtain ⟨v18, h_17, H⟩ := HS.bnd H
          have k_18 := laws_eqSurface_k ((TSurface.mk w8 w9 w10).w) ((TSurface.mk w8 w9 w10).h) ((TSurface.mk w8 w9 w10).pix) ((TSurface.mk w8 w9 w10).w) ((TSurface.mk w8 w9 w10).h) ((TSurface.mk w8 w9 w10).pix)
          simp -implicitDefEqProofs [-laws_eqSurface_k] at k_18
          try simp -implicitDefEqProofs +decide (maxSteps := 2000000) [-selQ_sel, hokQ_of, h_1, h_2, h_3, h_4, h_5, h_6, h_7, k_8, h_9, k_10, h_11, k_12, h_13, h_14, k_15, h_16, h_17, k_18]
          refine Hid.brV (fun h_19 => ?_) (fun h_19 => ?_)
          · replace H := HS.cnd_t h_19 H
            try simp -implicitDefEqProofs +decide (maxSteps := 2000000) [-selQ_sel, hokQ_of, h_1, h_2, h_3, h_4, h_5, h_6, h_7, k_8, h_9, k_10, h_11, k_12, h_13, h_14, k_15, h_16, h_17, k_18, h_19]
            obtain ⟨⟨w20, w21⟩, h_20, H⟩ := HS.bnd H
            dsimp only at H
            have g_21 := laws_markSurface_n h_20
            try simp -implicitDefEqProofs +decide (maxSteps := 2000000) [-selQ_sel, hokQ_of, h_1, h_2, h_3, h_4, h_5, h_6, h_7, k_8, h_9, k_10, h_11, k_12, h_13, h_14, k_15, h_16, h_17, k_18, h_19, h_20, g_21]
            obtain ⟨⟨w23, w24⟩, h_22, H⟩ := HS.bnd H
            dsimp only at H
            have g_23 := laws_markSurface_n h_22
            try simp -implicitDefEqProofs +decide (maxSteps := 2000000) [-selQ_sel, hokQ_of, h_1, h_2, h_3, h_4, h_5, h_6, h_7, k_8, h_9, k_10, h_11, k_12, h_13, h_14, k_15, h_16, h_17, k_18, h_19, h_20, g_21, h_22, g_23]
            refine Hid.selQ (fun h_24 => ?_) (fun h_24 => ?_)
            · replace H := HS.cnd_t h_24 H
              try simp -implicitDefEqProofs +decide (maxSteps := 2000000) [-selQ_sel, hokQ_of, h_1, h_2, h_3, h_4, h_5, h_6, h_7, k_8, h_9, k_10, h_11, k_12, h_13, h_14, k_15, h_16, h_17, k_18, h_19, h_20, g_21, h_22, g_23, h_24]
              obtain ⟨⟨w26, w27⟩, h_25, H⟩ := HS.bnd H
              dsimp only at H
              have g_26 := laws_markSurface_n h_25
              try simp -implicitDefEqProofs +decide (maxSteps := 2000000) [-selQ_sel, hokQ_of, h_1, h_2, h_3, h_4, h_5, h_6, h_7, k_8, h_9, k_10, h_11, k_12, h_13, h_14, k_15, h_16, h_17, k_18, h_19, h_20, g_21, h_22, g_23, h_24, h_25, g_26]
              obtain ⟨v28, h_27, H⟩ := HS.bnd H
              have k_28 := laws_heldSurface_k ((TSurface.mk w13 w14 w27).w) ((TSurface.mk w13 w14 w27).h) ((TSurface.mk w13 w14 w27).pix) 1
              simp -implicitDefEqProofs [-laws_heldSurface_k] at k_28
              try simp -implicitDefEqProofs +decide (maxSteps := 2000000) [-selQ_sel, hokQ_of, h_1, h_2, h_3, h_4, h_5, h_6, h_7, k_8, h_9, k_10, h_11, k_12, h_13, h_14, k_15, h_16, h_17, k_18, h_19, h_20, g_21, h_22, g_23, h_24, h_25, g_26, h_27, k_28]
              refine Hid.brV (fun h_29 => ?_) (fun h_29 => ?_)
              · replace H := HS.cnd_t h_29 H
                try simp -implicitDefEqProofs +decide (maxSteps := 2000000) [-selQ_sel, hokQ_of, h_1, h_2, h_3, h_4, h_5, h_6, h_7, k_8, h_9, k_10, h_11, k_12, h_13, h_14, k_15, h_16, h_17, k_18, h_19, h_20, g_21, h_22, g_23, h_24, h_25, g_26, h_27, k_28, h_29]
                refine Hid.brV (fun h_30 => ?_) (fun h_30 => ?_)
                · replace H := HS.cnd_t h_30 H
                  try simp -implicitDefEqProofs +decide (maxSteps := 2000000) [-selQ_sel, hokQ_of, h_1, h_2, h_3, h_4, h_5, h_6, h_7, k_8, h_9, k_10, h_11, k_12, h_13, h_14, k_15, h_16, h_17, k_18, h_19, h_20, g_21, h_22, g_23, h_24, h_25, g_26, h_27, k_28, h_29, h_30]
                  have hr := (HS.some H).symm; subst hr
                  refine Hid.mk ⟨_, Wk.refl _, ?_⟩
                  try simp -implicitDefEqProofs +decide (maxSteps := 2000000) [-selQ_sel, hokQ_of, h_1, h_2, h_3, h_4, h_5, h_6, h_7, k_8, h_9, k_10, h_11, k_12, h_13, h_14, k_15, h_16, h_17, k_18, h_19, h_20, g_21, h_22, g_23, h_24, h_25, g_26, h_27, k_28, h_29, h_30]
                · replace H := HS.cnd_f h_30 H
                  try simp -implicitDefEqProofs +decide (maxSteps := 2000000) [-selQ_sel, hokQ_of, h_1, h_2, h_3, h_4, h_5, h_6, h_7, k_8, h_9, k_10, h_11, k_12, h_13, h_14, k_15, h_16, h_17, k_18, h_19, h_20, g_21, h_22, g_23, h_24, h_25, g_26, h_27, k_28, h_29, h_30]
                  have hr := (HS.some H).symm; subst hr
                  refine Hid.mk ⟨_, Wk.refl _, ?_⟩
                  try simp -implicitDefEqProofs +decide (maxSteps := 2000000) [-selQ_sel, hokQ_of, h_1, h_2, h_3, h_4, h_5, h_6, h_7, k_8, h_9, k_10, h_11, k_12, h_13, h_14, k_15, h_16, h_17, k_18, h_19, h_20, g_21, h_22, g_23, h_24, h_25, g_26, h_27, k_28, h_29, h_30]
              · replace H := HS.cnd_f h_29 H
                try simp -implicitDefEqProofs +decide (maxSteps := 2000000) [-selQ_sel, hokQ_of, h_1, h_2, h_3, h_4, h_5, h_6, h_7, k_8, h_9, k_10, h_11, k_12, h_13, h_14, k_15, h_16, h_17, k_18, h_19, h_20, g_21, h_22, g_23, h_24, h_25, g_26, h_27, k_28, h_29]
                have hr := (HS.some H).symm; subst hr
                refine Hid.mk ⟨_, Wk.refl _, ?_⟩
                try simp -implicitDefEqProofs +decide (maxSteps := 2000000) [-selQ_sel, hokQ_of, h_1, h_2, h_3, h_4, h_5, h_6, h_7, k_8, h_9, k_10, h_11, k_12, h_13, h_14, k_15, h_16, h_17, k_18, h_19, h_20, g_21, h_22, g_23, h_24, h_25, g_26, h_27, k_28, h_29]
            · replace H := HS.cnd_f h_24 H
              try simp -implicitDefEqProofs +decide (maxSteps := 2000000) [-selQ_sel, hokQ_of, h_1, h_2, h_3, h_4, h_5, h_6, h_7, k_8, h_9, k_10, h_11, k_12, h_13, h_14, k_15, h_16, h_17, k_18, h_19, h_20, g_21, h_22, g_23, h_24]
              have hr := (HS.some H).symm; subst hr
              refine Hid.mk ⟨_, Wk.refl _, ?_⟩
              try simp -implicitDefEqProofs +decide (maxSteps := 2000000) [-selQ_sel, hokQ_of, h_1, h_2, h_3, h_4, h_5, h_6, h_7, k_8, h_9, k_10, h_11, k_12, h_13, h_14, k_15, h_16, h_17, k_18, h_19, h_20, g_21, h_22, g_23, h_24]
          · replace H := HS.cnd_f h_19 H
            try simp -implicitDefEqProofs +decide (maxSteps := 2000000) [-selQ_sel, hokQ_of, h_1, h_2, h_3, h_4, h_5, h_6, h_7, k_8, h_9, k_10, h_11, k_12, h_13, h_14, k_15, h_16, h_17, k_18, h_19]
            have hr := (HS.some H).symm; subst hr
            refine Hid.mk ⟨_, Wk.refl _, ?_⟩
            try simp -implicitDefEqProofs +decide (maxSteps := 2000000) [-selQ_sel, hokQ_of, h_1, h_2, h_3, h_4, h_5, h_6, h_7, k_8, h_9, k_10, h_11, k_12, h_13, h_14, k_15, h_16, h_17, k_18, h_19]
        · replace H := HS.cnd_f h_16 H
          try simp -implicitDefEqProofs +decide (maxSteps := 2000000) [-selQ_sel, hokQ_of, h_1, h_2, h_3, h_4, h_5, h_6, h_7, k_8, h_9, k_10, h_11, k_12, h_13, h_14, k_15, h_16]
          have hr := (HS.some H).symm; subst hr
          refine Hid.mk ⟨_, Wk.refl _, ?_⟩
          try simp -implicitDefEqProofs +decide (maxSteps := 2000000) [-selQ_sel, hokQ_of, h_1, h_2, h_3, h_4, h_5, h_6, h_7, k_8, h_9, k_10, h_11, k_12, h_13, h_14, k_15, h_16]
      · replace H := HS.cnd_f h_13 H
        try simp -implicitDefEqProofs +decide (maxSteps := 2000000) [-selQ_sel, hokQ_of, h_1, h_2, h_3, h_4, h_5, h_6, h_7, k_8, h_9, k_10, h_11, k_12, h_13]
        have hr := (HS.some H).symm; subst hr
        refine Hid.mk ⟨_, Wk.refl _, ?_⟩
        try simp -implicitDefEqProofs +decide (maxSteps := 2000000) [-selQ_sel, hokQ_of, h_1, h_2, h_3, h_4, h_5, h_6, h_7, k_8, h_9, k_10, h_11, k_12, h_13]
    · replace H := HS.cnd_f h_4 H
      try simp -implicitDefEqProofs +decide (maxSteps := 2000000) [-selQ_sel, hokQ_of, h_1, h_2, h_3, h_4]
      have hr := (HS.some H).symm; subst hr
      refine Hid.mk ⟨_, Wk.refl _, ?_⟩
      try simp -implicitDefEqProofs +decide (maxSteps := 2000000) [-selQ_sel, hokQ_of, h_1, h_2, h_3, h_4]
  · replace H := HS.cnd_f h_2 H
    try simp -implicitDefEqProofs +decide (maxSteps := 2000000) [-selQ_sel, hokQ_of, h_1, h_2]
    have hr := (HS.some H).symm; subst hr
    refine Hid.mk ⟨_, Wk.refl _, ?_⟩
    try simp -implicitDefEqProofs +decide (maxSteps := 2000000) [-selQ_sel, hokQ_of, h_1, h_2]
theorem impl_Surface_paint_ok0 (hm : Try.prog.follows .mixedOrders = true) (k_impl_Surface_box : Sound Try.prog 105 impl_Surface_box_x) (k_impl_MeetBox : Sound Try.prog 157 impl_MeetBox_x) (k_impl_LayOver_1 : Sound Try.prog 106 impl_LayOver_1_x) : Sound Try.prog 104 impl_Surface_paint_x := by
  refine xOf_sound fun q r h => ?_
  obtain ⟨a0, a1, a2, a3, a4, a5, a6⟩ := q
  refine fn_ok E0 hm Try.func104 rfl (by decide +kernel) (by rfl) fun Γ hn hk => ?_
  dsimp only [impl_Surface_paint_e, impl_Surface_paint_v]
  replace hn : Γ.n = 51 := hn
  replace hk : Γ.k = 5 := hk
  have H : HS (impl_Surface_paint a0 a1 a2 a3 a4 a5 a6) r := h
  clear h; unfold impl_Surface_paint at H
  try simp -implicitDefEqProofs at H
  refine Tr.of_vc (cl := tabC [(105, impl_Surface_box_x), (157, impl_MeetBox_x), (106, impl_LayOver_1_x)]) (E := E0) [] (tab_cons k_impl_Surface_box (tab_cons k_impl_MeetBox (tab_cons k_impl_LayOver_1 tab_nil))) hm (by rw [hn]; decide +kernel) ?_
  try simp -implicitDefEqProofs +decide (maxSteps := 2000000) [-selQ_sel, hokQ_of]
  obtain ⟨v1, h_1, H⟩ := HS.bnd H
  have k_2 := impl_Surface_box_k ((TSurface.mk a1 a2 a6).w) ((TSurface.mk a1 a2 a6).h) ((TSurface.mk a1 a2 a6).pix)
  simp -implicitDefEqProofs [-impl_Surface_box_k] at k_2
  try simp -implicitDefEqProofs +decide (maxSteps := 2000000) [-selQ_sel, hokQ_of, h_1, k_2]
  obtain ⟨v2, h_3, H⟩ := HS.bnd H
  try simp -implicitDefEqProofs +decide (maxSteps := 2000000) [-selQ_sel, hokQ_of, h_1, k_2, h_3]
  obtain ⟨q, h_4, H⟩ := HS.bnd H
  refine Hid.mk (Tr.weak (s' := (impl_Surface_paint_l1_S a1 a2 a3 a4 a5 v2) (v2.y0, a6)) (Wk.ofk [0, 1, 2, 3, 4, 5] hk (by rfl) (by simp -implicitDefEqProofs [impl_Surface_paint_l1_S, h_1, k_2, h_3]) (by simp -implicitDefEqProofs [impl_Surface_paint_l1_S, h_1, k_2, h_3])) ?_)
  refine wp_loop_of (S := (impl_Surface_paint_l1_S a1 a2 a3 a4 a5 v2)) (f := (impl_Surface_paint_l1 a1 a2 a3 a4 a5 v2)) (xt := (impl_Surface_paint_l1_X a1 a2 a3 a4 a5 v2)) ?_ ?_ h_4 ?_
  · intro q; simp [impl_Surface_paint_l1_X]
  · clear H h_4 q
    rintro ⟨x12, x13⟩ o R hf hR
    have H : HS (impl_Surface_paint_l1 a1 a2 a3 a4 a5 v2 (x12, x13)) o := hf
    clear hf; unfold impl_Surface_paint_l1 at H
    try simp -implicitDefEqProofs at H
    refine Tr.of_vc (cl := tabC [(105, impl_Surface_box_x), (157, impl_MeetBox_x), (106, impl_LayOver_1_x)]) (E := E0) [] (tab_cons k_impl_Surface_box (tab_cons k_impl_MeetBox (tab_cons k_impl_LayOver_1 tab_nil))) hm (by rw [hn]; decide +kernel) ?_
    try simp -implicitDefEqProofs +decide (maxSteps := 2000000) [-selQ_sel, hokQ_of, impl_Surface_paint_l1_S]
    refine Hid.brV (fun h_5 => ?_) (fun h_5 => ?_)
    · replace H := HS.cnd_t h_5 H
      try simp -implicitDefEqProofs +decide (maxSteps := 2000000) [-selQ_sel, hokQ_of, h_5]
      have hr := (HS.some H).symm; subst hr
      exact Hid.mk ⟨(impl_Surface_paint_l1_X a1 a2 a3 a4 a5 v2 x13).2, Wk.ofk [0, 1, 2, 3, 4] hk (by rfl) (by simp -implicitDefEqProofs [impl_Surface_paint_l1_X, h_5]) (by simp -implicitDefEqProofs [impl_Surface_paint_l1_X, h_5]), hR⟩
    · replace H := HS.cnd_f h_5 H
      try simp -implicitDefEqProofs +decide (maxSteps := 2000000) [-selQ_sel, hokQ_of, h_5]
      obtain ⟨q, h_6, H⟩ := HS.bnd H
      refine Hid.mk (Tr.weak (s' := (impl_Surface_paint_l0_S a1 a2 a3 a4 a5 v2 x12) (v2.x0, x13)) (Wk.ofk [0, 1, 2, 3, 4, 5] hk (by rfl) (by simp -implicitDefEqProofs [impl_Surface_paint_l0_S, h_5]) (by simp -implicitDefEqProofs [impl_Surface_paint_l0_S, h_5])) ?_)
      refine wp_loop_of (S := (impl_Surface_paint_l0_S a1 a2 a3 a4 a5 v2 x12)) (f := (impl_Surface_paint_l0 a1 a2 a3 a4 a5 v2 x12)) (xt := (impl_Surface_paint_l0_X a1 a2 a3 a4 a5 v2 x12)) ?_ ?_ h_6 ?_
      · intro q; simp [impl_Surface_paint_l0_X]
      · clear H h_6 q
        rintro ⟨x17, x18⟩ o R hf hR
        have H : HS (impl_Surface_paint_l0 a1 a2 a3 a4 a5 v2 x12 (x17, x18)) o := hf
        clear hf; unfold impl_Surface_paint_l0 at H
        try simp -implicitDefEqProofs at H
        refine Tr.of_vc (cl := tabC [(105, impl_Surface_box_x), (157, impl_MeetBox_x), (106, impl_LayOver_1_x)]) (E := E0) [] (tab_cons k_impl_Surface_box (tab_cons k_impl_MeetBox (tab_cons k_impl_LayOver_1 tab_nil))) hm (by rw [hn]; decide +kernel) ?_
        try simp -implicitDefEqProofs +decide (maxSteps := 2000000) [-selQ_sel, hokQ_of, impl_Surface_paint_l0_S]
        refine Hid.brV (fun h_7 => ?_) (fun h_7 => ?_)
        · replace H := HS.cnd_t h_7 H
          try simp -implicitDefEqProofs +decide (maxSteps := 2000000) [-selQ_sel, hokQ_of, h_7]
          have hr := (HS.some H).symm; subst hr
          exact Hid.mk ⟨(impl_Surface_paint_l0_X a1 a2 a3 a4 a5 v2 x12 x18).2, Wk.ofk [0, 1, 2, 3, 4, 5] hk (by rfl) (by simp -implicitDefEqProofs [impl_Surface_paint_l0_X, h_7]) (by simp -implicitDefEqProofs [impl_Surface_paint_l0_X, h_7]), hR⟩
        · replace H := HS.cnd_f h_7 H
          try simp -implicitDefEqProofs +decide (maxSteps := 2000000) [-selQ_sel, hokQ_of, h_7]
          obtain ⟨v19, h_8, H⟩ := HS.bnd H
          have g_9 := idx_get h_8
          try simp -implicitDefEqProofs +decide (maxSteps := 2000000) [-selQ_sel, hokQ_of, h_7, h_8, g_9]
          obtain ⟨v20, h_10, H⟩ := HS.bnd H
          try simp -implicitDefEqProofs +decide (maxSteps := 2000000) [-selQ_sel, hokQ_of, h_7, h_8, g_9, h_10]
          obtain ⟨l21, h_11, H⟩ := HS.nam H
          have m_12 := congrArg (List.map eColor) h_11
          have q_13 := congrArg List.length h_11
          simp -implicitDefEqProofs at m_12 q_13
          try simp only [q_13] at m_12
          try simp only [q_13] at h_10
          try simp -implicitDefEqProofs +decide (maxSteps := 2000000) [-selQ_sel, hokQ_of, h_7, h_8, g_9, h_10, m_12, q_13]
          have hr := (HS.some H).symm; subst hr
          exact Hid.mk ⟨impl_Surface_paint_l0_S a1 a2 a3 a4 a5 v2 x12 ((IntKind.i64.wrap (x17 + 1)), l21), Wk.ofk [0, 1, 2, 3, 4, 5] hk (by rfl) (by simp -implicitDefEqProofs [impl_Surface_paint_l0_S, h_7, h_8, g_9, h_10, m_12, q_13]) (by simp -implicitDefEqProofs [impl_Surface_paint_l0_S, h_7, h_8, g_9, h_10, m_12, q_13]), hR⟩
      · revert H h_6; revert q; intro y22 h_6 H
        try dsimp only at H
        try simp -implicitDefEqProofs +decide (maxSteps := 2000000) [-selQ_sel, hokQ_of, h_5, impl_Surface_paint_l0_X]
        have hr := (HS.some H).symm; subst hr
        exact Hid.mk ⟨impl_Surface_paint_l1_S a1 a2 a3 a4 a5 v2 ((IntKind.i64.wrap (x12 + 1)), y22), Wk.ofk [0, 1, 2, 3, 4, 5] hk (by rfl) (by simp -implicitDefEqProofs [impl_Surface_paint_l1_S, h_5]) (by simp -implicitDefEqProofs [impl_Surface_paint_l1_S, h_5]), hR⟩
  · revert H h_4; revert q; intro y23 h_4 H
    try dsimp only at H
    try simp -implicitDefEqProofs +decide (maxSteps := 2000000) [-selQ_sel, hokQ_of, h_1, k_2, h_3, impl_Surface_paint_l1_X]
    have hr := (HS.some H).symm; subst hr
    refine Hid.mk ⟨_, Wk.refl _, ?_⟩
    try simp -implicitDefEqProofs +decide (maxSteps := 2000000) [-selQ_sel, hokQ_of, h_1, k_2, h_3]
theorem spec_SurfaceOk_ok0 (hm : Try.prog.follows .mixedOrders = true) (k_spec_l01In : Sound Try.prog 73 spec_l01In_x) (k_spec_LaidOk : Sound Try.prog 121 spec_LaidOk_x) : Sound Try.prog 82 spec_SurfaceOk_x := by
  refine xOf_sound fun q r h => ?_
  revert h; revert r; revert q; intro a0 r h
  refine fn_ok E0 hm Try.func82 rfl (by decide +kernel) (by rfl) fun Γ hn hk => ?_
  dsimp only [spec_SurfaceOk_e, spec_SurfaceOk_v]
  replace hn : Γ.n = 39 := hn
  replace hk : Γ.k = 0 := hk
  have H : HS (spec_SurfaceOk a0) r := h
  clear h; unfold spec_SurfaceOk at H
  try simp -implicitDefEqProofs at H
  refine Tr.of_vc (cl := tabC [(73, spec_l01In_x), (121, spec_LaidOk_x)]) (E := E0) [] (tab_cons k_spec_l01In (tab_cons k_spec_LaidOk tab_nil)) hm (by rw [hn]; decide +kernel) ?_
  try simp -implicitDefEqProofs (maxSteps := 2000000) [-selQ_sel]
  obtain ⟨v1, h_1, H⟩ := HS.bnd H
  try simp -implicitDefEqProofs (maxSteps := 2000000) [-selQ_sel, h_1]
  refine Hid.selQ (fun h_2 => ?_) (fun h_2 => ?_)
  · replace H := HS.cnd_t h_2 H
    try simp -implicitDefEqProofs (maxSteps := 2000000) [-selQ_sel, h_1, h_2]
    obtain ⟨v2, h_3, H⟩ := HS.bnd H
    try simp -implicitDefEqProofs (maxSteps := 2000000) [-selQ_sel, h_1, h_2, h_3]
    refine Hid.selQ (fun h_4 => ?_) (fun h_4 => ?_)
    · replace H := HS.cnd_t h_4 H
      try simp -implicitDefEqProofs (maxSteps := 2000000) [-selQ_sel, h_1, h_2, h_3, h_4]
      refine Hid.brV (fun h_5 => ?_) (fun h_5 => ?_)
      · replace H := HS.cnd_t h_5 H
        try simp -implicitDefEqProofs (maxSteps := 2000000) [-selQ_sel, h_1, h_2, h_3, h_4, h_5]
        obtain ⟨q, h_6, H⟩ := HS.bnd H
        refine Hid.mk (Tr.weak (s' := (spec_SurfaceOk_l0_S a0) 0) (Wk.ofk [0] hk (by rfl) (by simp -implicitDefEqProofs [spec_SurfaceOk_l0_S, h_1, h_2, h_3, h_4, h_5]) (by simp -implicitDefEqProofs [spec_SurfaceOk_l0_S, h_1, h_2, h_3, h_4, h_5])) ?_)
        refine wp_loop_of (S := (spec_SurfaceOk_l0_S a0)) (f := (spec_SurfaceOk_l0 a0)) (xt := (spec_SurfaceOk_l0_X a0)) ?_ ?_ h_6 ?_
        · intro q; rcases q with ⟨⟩ | ⟨⟩ <;> simp [spec_SurfaceOk_l0_X]
        · clear H h_6 q
          rintro x5 o R hf hR
          have H : HS (spec_SurfaceOk_l0 a0 x5) o := hf
          clear hf; unfold spec_SurfaceOk_l0 at H
          try simp -implicitDefEqProofs at H
          refine Tr.of_vc (cl := tabC [(73, spec_l01In_x), (121, spec_LaidOk_x)]) (E := E0) [] (tab_cons k_spec_l01In (tab_cons k_spec_LaidOk tab_nil)) hm (by rw [hn]; decide +kernel) ?_
          try simp -implicitDefEqProofs (maxSteps := 2000000) [-selQ_sel, spec_SurfaceOk_l0_S]
          refine Hid.brV (fun h_7 => ?_) (fun h_7 => ?_)
          · replace H := HS.cnd_t h_7 H
            try simp -implicitDefEqProofs (maxSteps := 2000000) [-selQ_sel, h_7]
            have hr := (HS.some H).symm; subst hr
            exact Hid.mk ⟨(spec_SurfaceOk_l0_X a0 (.inl ())).2, Wk.ofk [] hk (by rfl) (by simp -implicitDefEqProofs [spec_SurfaceOk_l0_X, h_7]) (by simp -implicitDefEqProofs [spec_SurfaceOk_l0_X, h_7]), hR⟩
          · replace H := HS.cnd_f h_7 H
            try simp -implicitDefEqProofs (maxSteps := 2000000) [-selQ_sel, h_7]
            obtain ⟨v6, h_8, H⟩ := HS.bnd H
            try simp -implicitDefEqProofs (maxSteps := 2000000) [-selQ_sel, h_7, h_8]
            obtain ⟨v7, h_9, H⟩ := HS.bnd H
            try simp -implicitDefEqProofs (maxSteps := 2000000) [-selQ_sel, h_7, h_8, h_9]
            refine Hid.brV (fun h_10 => ?_) (fun h_10 => ?_)
            · replace H := HS.cnd_t h_10 H
              try simp -implicitDefEqProofs (maxSteps := 2000000) [-selQ_sel, h_7, h_8, h_9, h_10]
              have hr := (HS.some H).symm; subst hr
              exact Hid.mk ⟨spec_SurfaceOk_l0_S a0 (IntKind.i64.wrap (x5 + 1)), Wk.ofk [0] hk (by rfl) (by simp -implicitDefEqProofs [spec_SurfaceOk_l0_S, h_7, h_8, h_9, h_10]) (by simp -implicitDefEqProofs [spec_SurfaceOk_l0_S, h_7, h_8, h_9, h_10]), hR⟩
            · replace H := HS.cnd_f h_10 H
              try simp -implicitDefEqProofs (maxSteps := 2000000) [-selQ_sel, h_7, h_8, h_9, h_10]
              have hr := (HS.some H).symm; subst hr
              exact Hid.mk ⟨(spec_SurfaceOk_l0_X a0 (.inr ())).2, Wk.ofk [] hk (by rfl) (by simp -implicitDefEqProofs [spec_SurfaceOk_l0_X, h_7, h_8, h_9, h_10]) (by simp -implicitDefEqProofs [spec_SurfaceOk_l0_X, h_7, h_8, h_9, h_10]), hR⟩
        · rcases q with ⟨⟩ | ⟨⟩
          · dsimp only at H
            try simp -implicitDefEqProofs (maxSteps := 2000000) [-selQ_sel, h_1, h_2, h_3, h_4, h_5, spec_SurfaceOk_l0_X]
            have hr := (HS.some H).symm; subst hr
            refine Hid.mk ⟨_, Wk.refl _, ?_⟩
            try simp -implicitDefEqProofs (maxSteps := 2000000) [-selQ_sel, h_1, h_2, h_3, h_4, h_5]
          · dsimp only at H
            try simp -implicitDefEqProofs (maxSteps := 2000000) [-selQ_sel, h_1, h_2, h_3, h_4, h_5, spec_SurfaceOk_l0_X]
            have hr := (HS.some H).symm; subst hr
            refine Hid.mk ⟨_, Wk.refl _, ?_⟩
            try simp -implicitDefEqProofs (maxSteps := 2000000) [-selQ_sel, h_1, h_2, h_3, h_4, h_5]
      · replace H := HS.cnd_f h_5 H
        try simp -implicitDefEqProofs (maxSteps := 2000000) [-selQ_sel, h_1, h_2, h_3, h_4, h_5]
        have hr := (HS.some H).symm; subst hr
        refine Hid.mk ⟨_, Wk.refl _, ?_⟩
        try simp -implicitDefEqProofs (maxSteps := 2000000) [-selQ_sel, h_1, h_2, h_3, h_4, h_5]
    · replace H := HS.cnd_f h_4 H
      try simp -implicitDefEqProofs (maxSteps := 2000000) [-selQ_sel, h_1, h_2, h_3, h_4]
      have hr := (HS.some H).symm; subst hr
      refine Hid.mk ⟨_, Wk.refl _, ?_⟩
      try simp -implicitDefEqProofs (maxSteps := 2000000) [-selQ_sel, h_1, h_2, h_3, h_4]
  · replace H := HS.cnd_f h_2 H
    try simp -implicitDefEqProofs (maxSteps := 2000000) [-selQ_sel, h_1, h_2]
    have hr := (HS.some H).symm; subst hr
    refine Hid.mk ⟨_, Wk.refl _, ?_⟩
    try simp -implicitDefEqProofs (maxSteps := 2000000) [-selQ_sel, h_1, h_2]
theorem laws_heldColorS_ok0 (hm : Try.prog.follows .mixedOrders = true) : Sound Try.prog 144 laws_heldColorS_x := by
  refine xOf_sound fun q r h => ?_
  obtain ⟨a0, a1⟩ := q
  refine fn_ok E0 hm Try.func144 rfl (by decide +kernel) (by rfl) fun Γ hn hk => ?_
  dsimp only [laws_heldColorS_e, laws_heldColorS_v]
  replace hn : Γ.n = 49 := hn
  replace hk : Γ.k = 0 := hk
  have H : HS (laws_heldColorS a0 a1) r := h
  clear h; unfold laws_heldColorS at H
  try simp -implicitDefEqProofs at H
  refine Tr.of_vc (cl := tabC []) (E := E0) [] tab_nil hm (by rw [hn]; decide +kernel) ?_
  try simp -implicitDefEqProofs (maxSteps := 2000000) [-selQ_sel]
  obtain ⟨q, h_1, H⟩ := HS.bnd H
  refine Hid.mk (Tr.weak (s' := (laws_heldColorS_l0_S a0) (a1, 0)) (Wk.ofk [] hk (by rfl) (by simp -implicitDefEqProofs [laws_heldColorS_l0_S]) (by simp -implicitDefEqProofs [laws_heldColorS_l0_S])) ?_)
  refine wp_loop_of (S := (laws_heldColorS_l0_S a0)) (f := (laws_heldColorS_l0 a0)) (xt := (laws_heldColorS_l0_X a0)) ?_ ?_ h_1 ?_
  · intro q; rcases q with y5 | ⟨⟩ <;> simp [laws_heldColorS_l0_X]
  · clear H h_1 q
    rintro ⟨x2, x3⟩ o R hf hR
    have H : HS (laws_heldColorS_l0 a0 (x2, x3)) o := hf
    clear hf; unfold laws_heldColorS_l0 at H
    try simp -implicitDefEqProofs at H
    refine Tr.of_vc (cl := tabC []) (E := E0) [] tab_nil hm (by rw [hn]; decide +kernel) ?_
    try simp -implicitDefEqProofs (maxSteps := 2000000) [-selQ_sel, laws_heldColorS_l0_S]
    refine Hid.brV (fun h_2 => ?_) (fun h_2 => ?_)
    · replace H := HS.cnd_t h_2 H
      try simp -implicitDefEqProofs (maxSteps := 2000000) [-selQ_sel, h_2]
      have hr := (HS.some H).symm; subst hr
      exact Hid.mk ⟨(laws_heldColorS_l0_X a0 (.inl x2)).2, Wk.ofk [] hk (by rfl) (by simp -implicitDefEqProofs [laws_heldColorS_l0_X, h_2]) (by simp -implicitDefEqProofs [laws_heldColorS_l0_X, h_2]), hR⟩
    · replace H := HS.cnd_f h_2 H
      try simp -implicitDefEqProofs (maxSteps := 2000000) [-selQ_sel, h_2]
      obtain ⟨v4, h_3, H⟩ := HS.bnd H
      try simp -implicitDefEqProofs (maxSteps := 2000000) [-selQ_sel, h_2, h_3]
      refine Hid.brV (fun h_4 => ?_) (fun h_4 => ?_)
      · replace H := HS.cnd_t h_4 H
        try simp -implicitDefEqProofs (maxSteps := 2000000) [-selQ_sel, h_2, h_3, h_4]
        refine Hid.brV (fun h_5 => ?_) (fun h_5 => ?_)
        · replace H := HS.cnd_t h_5 H
          try simp -implicitDefEqProofs (maxSteps := 2000000) [-selQ_sel, h_2, h_3, h_4, h_5]
          refine Hid.brV (fun h_6 => ?_) (fun h_6 => ?_)
          · replace H := HS.cnd_t h_6 H
            try simp -implicitDefEqProofs (maxSteps := 2000000) [-selQ_sel, h_2, h_3, h_4, h_5, h_6]
            refine Hid.brV (fun h_7 => ?_) (fun h_7 => ?_)
            · replace H := HS.cnd_t h_7 H
              try simp -implicitDefEqProofs (maxSteps := 2000000) [-selQ_sel, h_2, h_3, h_4, h_5, h_6, h_7]
              have hr := (HS.some H).symm; subst hr
              exact Hid.mk ⟨laws_heldColorS_l0_S a0 ((IntKind.i64.wrap ((IntKind.i64.wrap ((IntKind.i64.wrap ((IntKind.i64.wrap (x2 + 1)) + 1)) + 1)) + 1)), (IntKind.i64.wrap (x3 + 1))), Wk.ofk [] hk (by rfl) (by simp -implicitDefEqProofs [laws_heldColorS_l0_S, h_2, h_3, h_4, h_5, h_6, h_7]) (by simp -implicitDefEqProofs [laws_heldColorS_l0_S, h_2, h_3, h_4, h_5, h_6, h_7]), hR⟩
            · replace H := HS.cnd_f h_7 H
              try simp -implicitDefEqProofs (maxSteps := 2000000) [-selQ_sel, h_2, h_3, h_4, h_5, h_6, h_7]
              have hr := (HS.some H).symm; subst hr
              exact Hid.mk ⟨(laws_heldColorS_l0_X a0 (.inr ())).2, Wk.ofk [] hk (by rfl) (by simp -implicitDefEqProofs [laws_heldColorS_l0_X, h_2, h_3, h_4, h_5, h_6, h_7]) (by simp -implicitDefEqProofs [laws_heldColorS_l0_X, h_2, h_3, h_4, h_5, h_6, h_7]), hR⟩
          · replace H := HS.cnd_f h_6 H
            try simp -implicitDefEqProofs (maxSteps := 2000000) [-selQ_sel, h_2, h_3, h_4, h_5, h_6]
            have hr := (HS.some H).symm; subst hr
            exact Hid.mk ⟨(laws_heldColorS_l0_X a0 (.inr ())).2, Wk.ofk [] hk (by rfl) (by simp -implicitDefEqProofs [laws_heldColorS_l0_X, h_2, h_3, h_4, h_5, h_6]) (by simp -implicitDefEqProofs [laws_heldColorS_l0_X, h_2, h_3, h_4, h_5, h_6]), hR⟩
        · replace H := HS.cnd_f h_5 H
          try simp -implicitDefEqProofs (maxSteps := 2000000) [-selQ_sel, h_2, h_3, h_4, h_5]
          have hr := (HS.some H).symm; subst hr
          exact Hid.mk ⟨(laws_heldColorS_l0_X a0 (.inr ())).2, Wk.ofk [] hk (by rfl) (by simp -implicitDefEqProofs [laws_heldColorS_l0_X, h_2, h_3, h_4, h_5]) (by simp -implicitDefEqProofs [laws_heldColorS_l0_X, h_2, h_3, h_4, h_5]), hR⟩
      · replace H := HS.cnd_f h_4 H
        try simp -implicitDefEqProofs (maxSteps := 2000000) [-selQ_sel, h_2, h_3, h_4]
        have hr := (HS.some H).symm; subst hr
        exact Hid.mk ⟨(laws_heldColorS_l0_X a0 (.inr ())).2, Wk.ofk [] hk (by rfl) (by simp -implicitDefEqProofs [laws_heldColorS_l0_X, h_2, h_3, h_4]) (by simp -implicitDefEqProofs [laws_heldColorS_l0_X, h_2, h_3, h_4]), hR⟩
  · rcases q with y5 | ⟨⟩
    · dsimp only at H
      try simp -implicitDefEqProofs (maxSteps := 2000000) [-selQ_sel, laws_heldColorS_l0_X]
      have hr := (HS.some H).symm; subst hr
      refine Hid.mk ⟨_, Wk.refl _, ?_⟩
      try simp -implicitDefEqProofs (maxSteps := 2000000) [-selQ_sel]
    · dsimp only at H
      try simp -implicitDefEqProofs (maxSteps := 2000000) [-selQ_sel, laws_heldColorS_l0_X]
      have hr := (HS.some H).symm; subst hr
      refine Hid.mk ⟨_, Wk.refl _, ?_⟩
      try simp -implicitDefEqProofs (maxSteps := 2000000) [-selQ_sel]
theorem laws_eqColorS_ok0 (hm : Try.prog.follows .mixedOrders = true) (k_laws_eqColor : Sound Try.prog 202 laws_eqColor_x) : Sound Try.prog 142 laws_eqColorS_x := by
  refine xOf_sound fun q r h => ?_
  obtain ⟨a0, a1⟩ := q
  refine fn_ok E0 hm Try.func142 rfl (by decide +kernel) (by rfl) fun Γ hn hk => ?_
  dsimp only [laws_eqColorS_e, laws_eqColorS_v]
  replace hn : Γ.n = 27 := hn
  replace hk : Γ.k = 0 := hk
  have H : HS (laws_eqColorS a0 a1) r := h
  clear h; unfold laws_eqColorS at H
  try simp -implicitDefEqProofs at H
  refine Tr.of_vc (cl := tabC [(202, laws_eqColor_x)]) (E := E0) [] (tab_cons k_laws_eqColor tab_nil) hm (by rw [hn]; decide +kernel) ?_
  try simp -implicitDefEqProofs +decide (maxSteps := 2000000) [-selQ_sel, hokQ_of]
  refine Hid.brV (fun h_1 => ?_) (fun h_1 => ?_)
  · replace H := HS.cnd_t h_1 H
    try simp -implicitDefEqProofs +decide (maxSteps := 2000000) [-selQ_sel, hokQ_of, h_1]
    obtain ⟨q, h_2, H⟩ := HS.bnd H
    refine Hid.mk (Tr.weak (s' := (laws_eqColorS_l0_S a0 a1) 0) (Wk.ofk [] hk (by rfl) (by simp -implicitDefEqProofs [laws_eqColorS_l0_S, h_1]) (by simp -implicitDefEqProofs [laws_eqColorS_l0_S, h_1])) ?_)
    refine wp_loop_of (S := (laws_eqColorS_l0_S a0 a1)) (f := (laws_eqColorS_l0 a0 a1)) (xt := (laws_eqColorS_l0_X a0 a1)) ?_ ?_ h_2 ?_
    · intro q; rcases q with ⟨⟩ | ⟨⟩ <;> simp [laws_eqColorS_l0_X]
    · clear H h_2 q
      rintro x4 o R hf hR
      have H : HS (laws_eqColorS_l0 a0 a1 x4) o := hf
      clear hf; unfold laws_eqColorS_l0 at H
      try simp -implicitDefEqProofs at H
      refine Tr.of_vc (cl := tabC [(202, laws_eqColor_x)]) (E := E0) [] (tab_cons k_laws_eqColor tab_nil) hm (by rw [hn]; decide +kernel) ?_
      try simp -implicitDefEqProofs +decide (maxSteps := 2000000) [-selQ_sel, hokQ_of, laws_eqColorS_l0_S]
      refine Hid.brV (fun h_3 => ?_) (fun h_3 => ?_)
      · replace H := HS.cnd_t h_3 H
        try simp -implicitDefEqProofs +decide (maxSteps := 2000000) [-selQ_sel, hokQ_of, h_3]
        have hr := (HS.some H).symm; subst hr
        exact Hid.mk ⟨(laws_eqColorS_l0_X a0 a1 (.inl ())).2, Wk.ofk [] hk (by rfl) (by simp -implicitDefEqProofs [laws_eqColorS_l0_X, h_3]) (by simp -implicitDefEqProofs [laws_eqColorS_l0_X, h_3]), hR⟩
      · replace H := HS.cnd_f h_3 H
        try simp -implicitDefEqProofs +decide (maxSteps := 2000000) [-selQ_sel, hokQ_of, h_3]
        obtain ⟨v5, h_4, H⟩ := HS.bnd H
        try simp -implicitDefEqProofs +decide (maxSteps := 2000000) [-selQ_sel, hokQ_of, h_3, h_4]
        obtain ⟨v6, h_5, H⟩ := HS.bnd H
        try simp -implicitDefEqProofs +decide (maxSteps := 2000000) [-selQ_sel, hokQ_of, h_3, h_4, h_5]
        obtain ⟨v7, h_6, H⟩ := HS.bnd H
        try simp -implicitDefEqProofs +decide (maxSteps := 2000000) [-selQ_sel, hokQ_of, h_3, h_4, h_5, h_6]
        refine Hid.brV (fun h_7 => ?_) (fun h_7 => ?_)
        · replace H := HS.cnd_t h_7 H
          try simp -implicitDefEqProofs +decide (maxSteps := 2000000) [-selQ_sel, hokQ_of, h_3, h_4, h_5, h_6, h_7]
          have hr := (HS.some H).symm; subst hr
          exact Hid.mk ⟨laws_eqColorS_l0_S a0 a1 (IntKind.i64.wrap (x4 + 1)), Wk.ofk [] hk (by rfl) (by simp -implicitDefEqProofs [laws_eqColorS_l0_S, h_3, h_4, h_5, h_6, h_7]) (by simp -implicitDefEqProofs [laws_eqColorS_l0_S, h_3, h_4, h_5, h_6, h_7]), hR⟩
        · replace H := HS.cnd_f h_7 H
          try simp -implicitDefEqProofs +decide (maxSteps := 2000000) [-selQ_sel, hokQ_of, h_3, h_4, h_5, h_6, h_7]
          have hr := (HS.some H).symm; subst hr
          exact Hid.mk ⟨(laws_eqColorS_l0_X a0 a1 (.inr ())).2, Wk.ofk [] hk (by rfl) (by simp -implicitDefEqProofs [laws_eqColorS_l0_X, h_3, h_4, h_5, h_6, h_7]) (by simp -implicitDefEqProofs [laws_eqColorS_l0_X, h_3, h_4, h_5, h_6, h_7]), hR⟩
    · rcases q with ⟨⟩ | ⟨⟩
      · dsimp only at H
        try simp -implicitDefEqProofs +decide (maxSteps := 2000000) [-selQ_sel, hokQ_of, h_1, laws_eqColorS_l0_X]
        have hr := (HS.some H).symm; subst hr
        refine Hid.mk ⟨_, Wk.refl _, ?_⟩
        try simp -implicitDefEqProofs +decide (maxSteps := 2000000) [-selQ_sel, hokQ_of, h_1]
      · dsimp only at H
        try simp -implicitDefEqProofs +decide (maxSteps := 2000000) [-selQ_sel, hokQ_of, h_1, laws_eqColorS_l0_X]
        have hr := (HS.some H).symm; subst hr
        refine Hid.mk ⟨_, Wk.refl _, ?_⟩
        try simp -implicitDefEqProofs +decide (maxSteps := 2000000) [-selQ_sel, hokQ_of, h_1]
  · replace H := HS.cnd_f h_1 H
    try simp -implicitDefEqProofs +decide (maxSteps := 2000000) [-selQ_sel, hokQ_of, h_1]
    have hr := (HS.some H).symm; subst hr
    refine Hid.mk ⟨_, Wk.refl _, ?_⟩
    try simp -implicitDefEqProofs +decide (maxSteps := 2000000) [-selQ_sel, hokQ_of, h_1]
theorem impl_Blend_ok0 (hm : Try.prog.follows .mixedOrders = true) (k_impl_isMode : Sound Try.prog 173 impl_isMode_x) (k_impl_LaidOk : Sound Try.prog 112 impl_LaidOk_x) (k_impl_each_2 : Sound Try.prog 174 impl_each_2_x) : Sound Try.prog 107 impl_Blend_x := by
  refine xOf_sound fun q r h => ?_
  obtain ⟨a0, a1, a2⟩ := q
  refine fn_ok E0 hm Try.func107 rfl (by decide +kernel) (by rfl) fun Γ hn hk => ?_
  dsimp only [impl_Blend_e, impl_Blend_v]
  replace hn : Γ.n = 33 := hn
  replace hk : Γ.k = 0 := hk
  have H : HS (impl_Blend a0 a1 a2) r := h
  clear h; unfold impl_Blend at H
  try simp -implicitDefEqProofs at H
  refine Tr.of_vc (cl := tabC [(173, impl_isMode_x), (112, impl_LaidOk_x), (174, impl_each_2_x)]) (E := E0) [] (tab_cons k_impl_isMode (tab_cons k_impl_LaidOk (tab_cons k_impl_each_2 tab_nil))) hm (by rw [hn]; decide +kernel) ?_
  try simp -implicitDefEqProofs +decide (maxSteps := 2000000) [-selQ_sel, hokQ_of]
  obtain ⟨v1, h_1, H⟩ := HS.bnd H
  try simp -implicitDefEqProofs +decide (maxSteps := 2000000) [-selQ_sel, hokQ_of, h_1]
  refine Hid.selQ (fun h_2 => ?_) (fun h_2 => ?_)
  · replace H := HS.cnd_t h_2 H
    try simp -implicitDefEqProofs +decide (maxSteps := 2000000) [-selQ_sel, hokQ_of, h_1, h_2]
    obtain ⟨v2, h_3, H⟩ := HS.bnd H
    try simp -implicitDefEqProofs +decide (maxSteps := 2000000) [-selQ_sel, hokQ_of, h_1, h_2, h_3]
    refine Hid.selQ (fun h_4 => ?_) (fun h_4 => ?_)
    · replace H := HS.cnd_t h_4 H
      try simp -implicitDefEqProofs +decide (maxSteps := 2000000) [-selQ_sel, hokQ_of, h_1, h_2, h_3, h_4]
      obtain ⟨v3, h_5, H⟩ := HS.bnd H
      try simp -implicitDefEqProofs +decide (maxSteps := 2000000) [-selQ_sel, hokQ_of, h_1, h_2, h_3, h_4, h_5]
      refine Hid.brV (fun h_6 => ?_) (fun h_6 => ?_)
      · replace H := HS.cnd_t h_6 H
        try simp -implicitDefEqProofs +decide (maxSteps := 2000000) [-selQ_sel, hokQ_of, h_1, h_2, h_3, h_4, h_5, h_6]
        obtain ⟨v4, h_7, H⟩ := HS.bnd H
        try simp -implicitDefEqProofs +decide (maxSteps := 2000000) [-selQ_sel, hokQ_of, h_1, h_2, h_3, h_4, h_5, h_6, h_7]
        have hr := (HS.some H).symm; subst hr
        refine Hid.mk ⟨_, Wk.refl _, ?_⟩
        try simp -implicitDefEqProofs +decide (maxSteps := 2000000) [-selQ_sel, hokQ_of, h_1, h_2, h_3, h_4, h_5, h_6, h_7]
      · replace H := HS.cnd_f h_6 H
        try simp -implicitDefEqProofs +decide (maxSteps := 2000000) [-selQ_sel, hokQ_of, h_1, h_2, h_3, h_4, h_5, h_6]
        have hr := (HS.some H).symm; subst hr
        refine Hid.mk ⟨_, Wk.refl _, ?_⟩
        try simp -implicitDefEqProofs +decide (maxSteps := 2000000) [-selQ_sel, hokQ_of, h_1, h_2, h_3, h_4, h_5, h_6]
    · replace H := HS.cnd_f h_4 H
      try simp -implicitDefEqProofs +decide (maxSteps := 2000000) [-selQ_sel, hokQ_of, h_1, h_2, h_3, h_4]
      have hr := (HS.some H).symm; subst hr
      refine Hid.mk ⟨_, Wk.refl _, ?_⟩
      try simp -implicitDefEqProofs +decide (maxSteps := 2000000) [-selQ_sel, hokQ_of, h_1, h_2, h_3, h_4]
  · replace H := HS.cnd_f h_2 H
    try simp -implicitDefEqProofs +decide (maxSteps := 2000000) [-selQ_sel, hokQ_of, h_1, h_2]
    have hr := (HS.some H).symm; subst hr
    refine Hid.mk ⟨_, Wk.refl _, ?_⟩
    try simp -implicitDefEqProofs +decide (maxSteps := 2000000) [-selQ_sel, hokQ_of, h_1, h_2]
theorem spec_Blend_ok0 (hm : Try.prog.follows .mixedOrders = true) (k_spec_LaidOk : Sound Try.prog 121 spec_LaidOk_x) (k_spec_l13Part : Sound Try.prog 122 spec_l13Part_x) : Sound Try.prog 42 spec_Blend_x := by
  refine xOf_sound fun q r h => ?_
  obtain ⟨a0, a1, a2⟩ := q
  refine fn_ok E0 hm Try.func42 rfl (by decide +kernel) (by rfl) fun Γ hn hk => ?_
  dsimp only [spec_Blend_e, spec_Blend_v]
  replace hn : Γ.n = 57 := hn
  replace hk : Γ.k = 0 := hk
  have H : HS (spec_Blend a0 a1 a2) r := h
  clear h; unfold spec_Blend at H
  try simp -implicitDefEqProofs at H
  refine Tr.of_vc (cl := tabC [(121, spec_LaidOk_x), (122, spec_l13Part_x)]) (E := E0) [] (tab_cons k_spec_LaidOk (tab_cons k_spec_l13Part tab_nil)) hm (by rw [hn]; decide +kernel) ?_
  try simp -implicitDefEqProofs +decide (maxSteps := 2000000) [-selQ_sel, hokQ_of]
  obtain ⟨v1, h_1, H⟩ := HS.bnd H
  try simp -implicitDefEqProofs +decide (maxSteps := 2000000) [-selQ_sel, hokQ_of, h_1]
  refine Hid.selQ (fun h_2 => ?_) (fun h_2 => ?_)
  · replace H := HS.cnd_t h_2 H
    try simp -implicitDefEqProofs +decide (maxSteps := 2000000) [-selQ_sel, hokQ_of, h_1, h_2]
    obtain ⟨v2, h_3, H⟩ := HS.bnd H
    try simp -implicitDefEqProofs +decide (maxSteps := 2000000) [-selQ_sel, hokQ_of, h_1, h_2, h_3]
    refine Hid.brV (fun h_4 => ?_) (fun h_4 => ?_)
    · replace H := HS.cnd_t h_4 H
      try simp -implicitDefEqProofs +decide (maxSteps := 2000000) [-selQ_sel, hokQ_of, h_1, h_2, h_3, h_4]
      obtain ⟨v3, h_5, H⟩ := HS.bnd H
      try simp -implicitDefEqProofs +decide (maxSteps := 2000000) [-selQ_sel, hokQ_of, h_1, h_2, h_3, h_4, h_5]
      obtain ⟨v4, h_6, H⟩ := HS.bnd H
      try simp -implicitDefEqProofs +decide (maxSteps := 2000000) [-selQ_sel, hokQ_of, h_1, h_2, h_3, h_4, h_5, h_6]
      obtain ⟨v5, h_7, H⟩ := HS.bnd H
      try simp -implicitDefEqProofs +decide (maxSteps := 2000000) [-selQ_sel, hokQ_of, h_1, h_2, h_3, h_4, h_5, h_6, h_7]
      obtain ⟨v6, h_8, H⟩ := HS.bnd H
      try simp -implicitDefEqProofs +decide (maxSteps := 2000000) [-selQ_sel, hokQ_of, h_1, h_2, h_3, h_4, h_5, h_6, h_7, h_8]
      have hr := (HS.some H).symm; subst hr
      refine Hid.mk ⟨_, Wk.refl _, ?_⟩
      try simp -implicitDefEqProofs +decide (maxSteps := 2000000) [-selQ_sel, hokQ_of, h_1, h_2, h_3, h_4, h_5, h_6, h_7, h_8]
    · replace H := HS.cnd_f h_4 H
      try simp -implicitDefEqProofs +decide (maxSteps := 2000000) [-selQ_sel, hokQ_of, h_1, h_2, h_3, h_4]
      have hr := (HS.some H).symm; subst hr
      refine Hid.mk ⟨_, Wk.refl _, ?_⟩
      try simp -implicitDefEqProofs +decide (maxSteps := 2000000) [-selQ_sel, hokQ_of, h_1, h_2, h_3, h_4]
  · replace H := HS.cnd_f h_2 H
    try simp -implicitDefEqProofs +decide (maxSteps := 2000000) [-selQ_sel, hokQ_of, h_1, h_2]
    have hr := (HS.some H).symm; subst hr
    refine Hid.mk ⟨_, Wk.refl _, ?_⟩
    try simp -implicitDefEqProofs +decide (maxSteps := 2000000) [-selQ_sel, hokQ_of, h_1, h_2]
theorem spec_ColorOk_ok0 (hm : Try.prog.follows .mixedOrders = true) (k_spec_l01In : Sound Try.prog 73 spec_l01In_x) : Sound Try.prog 193 spec_ColorOk_x := by
  refine xOf_sound fun q r h => ?_
  revert h; revert r; revert q; intro a0 r h
  refine fn_ok E0 hm Try.func193 rfl (by decide +kernel) (by rfl) fun Γ hn hk => ?_
  dsimp only [spec_ColorOk_e, spec_ColorOk_v]
  replace hn : Γ.n = 21 := hn
  replace hk : Γ.k = 0 := hk
  have H : HS (spec_ColorOk a0) r := h
  clear h; unfold spec_ColorOk at H
  try simp -implicitDefEqProofs at H
  refine Tr.of_vc (cl := tabC [(73, spec_l01In_x)]) (E := E0) [] (tab_cons k_spec_l01In tab_nil) hm (by rw [hn]; decide +kernel) ?_
  try simp -implicitDefEqProofs (maxSteps := 2000000) [-selQ_sel]
  obtain ⟨v1, h_1, H⟩ := HS.bnd H
  try simp -implicitDefEqProofs (maxSteps := 2000000) [-selQ_sel, h_1]
  refine Hid.selQ (fun h_2 => ?_) (fun h_2 => ?_)
  · replace H := HS.cnd_t h_2 H
    try simp -implicitDefEqProofs (maxSteps := 2000000) [-selQ_sel, h_1, h_2]
    obtain ⟨v2, h_3, H⟩ := HS.bnd H
    try simp -implicitDefEqProofs (maxSteps := 2000000) [-selQ_sel, h_1, h_2, h_3]
    refine Hid.selQ (fun h_4 => ?_) (fun h_4 => ?_)
    · replace H := HS.cnd_t h_4 H
      try simp -implicitDefEqProofs (maxSteps := 2000000) [-selQ_sel, h_1, h_2, h_3, h_4]
      obtain ⟨v3, h_5, H⟩ := HS.bnd H
      try simp -implicitDefEqProofs (maxSteps := 2000000) [-selQ_sel, h_1, h_2, h_3, h_4, h_5]
      refine Hid.selQ (fun h_6 => ?_) (fun h_6 => ?_)
      · replace H := HS.cnd_t h_6 H
        try simp -implicitDefEqProofs (maxSteps := 2000000) [-selQ_sel, h_1, h_2, h_3, h_4, h_5, h_6]
        obtain ⟨v4, h_7, H⟩ := HS.bnd H
        try simp -implicitDefEqProofs (maxSteps := 2000000) [-selQ_sel, h_1, h_2, h_3, h_4, h_5, h_6, h_7]
        have hr := (HS.some H).symm; subst hr
        refine Hid.mk ⟨_, Wk.refl _, ?_⟩
        try simp -implicitDefEqProofs (maxSteps := 2000000) [-selQ_sel, h_1, h_2, h_3, h_4, h_5, h_6, h_7]
      · replace H := HS.cnd_f h_6 H
        try simp -implicitDefEqProofs (maxSteps := 2000000) [-selQ_sel, h_1, h_2, h_3, h_4, h_5, h_6]
        have hr := (HS.some H).symm; subst hr
        refine Hid.mk ⟨_, Wk.refl _, ?_⟩
        try simp -implicitDefEqProofs (maxSteps := 2000000) [-selQ_sel, h_1, h_2, h_3, h_4, h_5, h_6]
    · replace H := HS.cnd_f h_4 H
      try simp -implicitDefEqProofs (maxSteps := 2000000) [-selQ_sel, h_1, h_2, h_3, h_4]
      have hr := (HS.some H).symm; subst hr
      refine Hid.mk ⟨_, Wk.refl _, ?_⟩
      try simp -implicitDefEqProofs (maxSteps := 2000000) [-selQ_sel, h_1, h_2, h_3, h_4]
  · replace H := HS.cnd_f h_2 H
    try simp -implicitDefEqProofs (maxSteps := 2000000) [-selQ_sel, h_1, h_2]
    have hr := (HS.some H).symm; subst hr
    refine Hid.mk ⟨_, Wk.refl _, ?_⟩
    try simp -implicitDefEqProofs (maxSteps := 2000000) [-selQ_sel, h_1, h_2]
theorem spec_LaidOk_ok0 (hm : Try.prog.follows .mixedOrders = true) (k_spec_ColorOk : Sound Try.prog 193 spec_ColorOk_x) : Sound Try.prog 121 spec_LaidOk_x := by
  refine xOf_sound fun q r h => ?_
  revert h; revert r; revert q; intro a0 r h
  refine fn_ok E0 hm Try.func121 rfl (by decide +kernel) (by rfl) fun Γ hn hk => ?_
  dsimp only [spec_LaidOk_e, spec_LaidOk_v]
  replace hn : Γ.n = 26 := hn
  replace hk : Γ.k = 0 := hk
  have H : HS (spec_LaidOk a0) r := h
  clear h; unfold spec_LaidOk at H
  try simp -implicitDefEqProofs at H
  refine Tr.of_vc (cl := tabC [(193, spec_ColorOk_x)]) (E := E0) [] (tab_cons k_spec_ColorOk tab_nil) hm (by rw [hn]; decide +kernel) ?_
  try simp -implicitDefEqProofs (maxSteps := 2000000) [-selQ_sel]
  obtain ⟨v1, h_1, H⟩ := HS.bnd H
  try simp -implicitDefEqProofs (maxSteps := 2000000) [-selQ_sel, h_1]
  refine Hid.selQ (fun h_2 => ?_) (fun h_2 => ?_)
  · replace H := HS.cnd_t h_2 H
    try simp -implicitDefEqProofs (maxSteps := 2000000) [-selQ_sel, h_1, h_2]
    refine Hid.selQ (fun h_3 => ?_) (fun h_3 => ?_)
    · replace H := HS.cnd_t h_3 H
      try simp -implicitDefEqProofs (maxSteps := 2000000) [-selQ_sel, h_1, h_2, h_3]
      refine Hid.selQ (fun h_4 => ?_) (fun h_4 => ?_)
      · replace H := HS.cnd_t h_4 H
        try simp -implicitDefEqProofs (maxSteps := 2000000) [-selQ_sel, h_1, h_2, h_3, h_4]
        have hr := (HS.some H).symm; subst hr
        refine Hid.mk ⟨_, Wk.refl _, ?_⟩
        try simp -implicitDefEqProofs (maxSteps := 2000000) [-selQ_sel, h_1, h_2, h_3, h_4]
      · replace H := HS.cnd_f h_4 H
        try simp -implicitDefEqProofs (maxSteps := 2000000) [-selQ_sel, h_1, h_2, h_3, h_4]
        have hr := (HS.some H).symm; subst hr
        refine Hid.mk ⟨_, Wk.refl _, ?_⟩
        try simp -implicitDefEqProofs (maxSteps := 2000000) [-selQ_sel, h_1, h_2, h_3, h_4]
    · replace H := HS.cnd_f h_3 H
      try simp -implicitDefEqProofs (maxSteps := 2000000) [-selQ_sel, h_1, h_2, h_3]
      have hr := (HS.some H).symm; subst hr
      refine Hid.mk ⟨_, Wk.refl _, ?_⟩
      try simp -implicitDefEqProofs (maxSteps := 2000000) [-selQ_sel, h_1, h_2, h_3]
  · replace H := HS.cnd_f h_2 H
    try simp -implicitDefEqProofs (maxSteps := 2000000) [-selQ_sel, h_1, h_2]
    have hr := (HS.some H).symm; subst hr
    refine Hid.mk ⟨_, Wk.refl _, ?_⟩
    try simp -implicitDefEqProofs (maxSteps := 2000000) [-selQ_sel, h_1, h_2]
theorem impl_LaidOk_ok0 (hm : Try.prog.follows .mixedOrders = true) (k_impl_ColorOk : Sound Try.prog 180 impl_ColorOk_x) : Sound Try.prog 112 impl_LaidOk_x := by
  refine xOf_sound fun q r h => ?_
  revert h; revert r; revert q; intro a0 r h
  refine fn_ok E0 hm Try.func112 rfl (by decide +kernel) (by rfl) fun Γ hn hk => ?_
  dsimp only [impl_LaidOk_e, impl_LaidOk_v]
  replace hn : Γ.n = 26 := hn
  replace hk : Γ.k = 0 := hk
  have H : HS (impl_LaidOk a0) r := h
  clear h; unfold impl_LaidOk at H
  try simp -implicitDefEqProofs at H
  refine Tr.of_vc (cl := tabC [(180, impl_ColorOk_x)]) (E := E0) [] (tab_cons k_impl_ColorOk tab_nil) hm (by rw [hn]; decide +kernel) ?_
  try simp -implicitDefEqProofs (maxSteps := 2000000) [-selQ_sel]
  obtain ⟨v1, h_1, H⟩ := HS.bnd H
  try simp -implicitDefEqProofs (maxSteps := 2000000) [-selQ_sel, h_1]
  refine Hid.selQ (fun h_2 => ?_) (fun h_2 => ?_)
  · replace H := HS.cnd_t h_2 H
    try simp -implicitDefEqProofs (maxSteps := 2000000) [-selQ_sel, h_1, h_2]
    refine Hid.selQ (fun h_3 => ?_) (fun h_3 => ?_)
    · replace H := HS.cnd_t h_3 H
      try simp -implicitDefEqProofs (maxSteps := 2000000) [-selQ_sel, h_1, h_2, h_3]
      refine Hid.selQ (fun h_4 => ?_) (fun h_4 => ?_)
      · replace H := HS.cnd_t h_4 H
        try simp -implicitDefEqProofs (maxSteps := 2000000) [-selQ_sel, h_1, h_2, h_3, h_4]
        have hr := (HS.some H).symm; subst hr
        refine Hid.mk ⟨_, Wk.refl _, ?_⟩
        try simp -implicitDefEqProofs (maxSteps := 2000000) [-selQ_sel, h_1, h_2, h_3, h_4]
      · replace H := HS.cnd_f h_4 H
        try simp -implicitDefEqProofs (maxSteps := 2000000) [-selQ_sel, h_1, h_2, h_3, h_4]
        have hr := (HS.some H).symm; subst hr
        refine Hid.mk ⟨_, Wk.refl _, ?_⟩
        try simp -implicitDefEqProofs (maxSteps := 2000000) [-selQ_sel, h_1, h_2, h_3, h_4]
    · replace H := HS.cnd_f h_3 H
      try simp -implicitDefEqProofs (maxSteps := 2000000) [-selQ_sel, h_1, h_2, h_3]
      have hr := (HS.some H).symm; subst hr
      refine Hid.mk ⟨_, Wk.refl _, ?_⟩
      try simp -implicitDefEqProofs (maxSteps := 2000000) [-selQ_sel, h_1, h_2, h_3]
  · replace H := HS.cnd_f h_2 H
    try simp -implicitDefEqProofs (maxSteps := 2000000) [-selQ_sel, h_1, h_2]
    have hr := (HS.some H).symm; subst hr
    refine Hid.mk ⟨_, Wk.refl _, ?_⟩
    try simp -implicitDefEqProofs (maxSteps := 2000000) [-selQ_sel, h_1, h_2]
theorem impl_Fade_ok0 (hm : Try.prog.follows .mixedOrders = true) (k_impl_isByte : Sound Try.prog 178 impl_isByte_x) (k_impl_LaidOk : Sound Try.prog 112 impl_LaidOk_x) (k_impl_each : Sound Try.prog 174 impl_each_x) : Sound Try.prog 108 impl_Fade_x := by
  refine xOf_sound fun q r h => ?_
  obtain ⟨a0, a1⟩ := q
  refine fn_ok E0 hm Try.func108 rfl (by decide +kernel) (by rfl) fun Γ hn hk => ?_
  dsimp only [impl_Fade_e, impl_Fade_v]
  replace hn : Γ.n = 18 := hn
  replace hk : Γ.k = 0 := hk
  have H : HS (impl_Fade a0 a1) r := h
  clear h; unfold impl_Fade at H
  try simp -implicitDefEqProofs at H
  refine Tr.of_vc (cl := tabC [(178, impl_isByte_x), (112, impl_LaidOk_x), (174, impl_each_x)]) (E := E0) [] (tab_cons k_impl_isByte (tab_cons k_impl_LaidOk (tab_cons k_impl_each tab_nil))) hm (by rw [hn]; decide +kernel) ?_
  try simp -implicitDefEqProofs (maxSteps := 2000000) [-selQ_sel]
  obtain ⟨v1, h_1, H⟩ := HS.bnd H
  try simp -implicitDefEqProofs (maxSteps := 2000000) [-selQ_sel, h_1]
  refine Hid.selQ (fun h_2 => ?_) (fun h_2 => ?_)
  · replace H := HS.cnd_t h_2 H
    try simp -implicitDefEqProofs (maxSteps := 2000000) [-selQ_sel, h_1, h_2]
    obtain ⟨v2, h_3, H⟩ := HS.bnd H
    try simp -implicitDefEqProofs (maxSteps := 2000000) [-selQ_sel, h_1, h_2, h_3]
    refine Hid.brV (fun h_4 => ?_) (fun h_4 => ?_)
    · replace H := HS.cnd_t h_4 H
      try simp -implicitDefEqProofs (maxSteps := 2000000) [-selQ_sel, h_1, h_2, h_3, h_4]
      obtain ⟨v3, h_5, H⟩ := HS.bnd H
      try simp -implicitDefEqProofs (maxSteps := 2000000) [-selQ_sel, h_1, h_2, h_3, h_4, h_5]
      have hr := (HS.some H).symm; subst hr
      refine Hid.mk ⟨_, Wk.refl _, ?_⟩
      try simp -implicitDefEqProofs (maxSteps := 2000000) [-selQ_sel, h_1, h_2, h_3, h_4, h_5]
    · replace H := HS.cnd_f h_4 H
      try simp -implicitDefEqProofs (maxSteps := 2000000) [-selQ_sel, h_1, h_2, h_3, h_4]
      have hr := (HS.some H).symm; subst hr
      refine Hid.mk ⟨_, Wk.refl _, ?_⟩
      try simp -implicitDefEqProofs (maxSteps := 2000000) [-selQ_sel, h_1, h_2, h_3, h_4]
  · replace H := HS.cnd_f h_2 H
    try simp -implicitDefEqProofs (maxSteps := 2000000) [-selQ_sel, h_1, h_2]
    have hr := (HS.some H).symm; subst hr
    refine Hid.mk ⟨_, Wk.refl _, ?_⟩
    try simp -implicitDefEqProofs (maxSteps := 2000000) [-selQ_sel, h_1, h_2]
theorem slices_Clone_Color_ok0 (hm : Try.prog.follows .mixedOrders = true) : Sound Try.prog 172 slices_Clone_Color_x := by
  refine xOf_sound fun q r h => ?_
  revert h; revert r; revert q; intro a0 r h
  refine fn_ok E0 hm Try.func172 rfl (by decide +kernel) (by rfl) fun Γ hn hk => ?_
  dsimp only [slices_Clone_Color_e, slices_Clone_Color_v]
  replace hn : Γ.n = 8 := hn
  replace hk : Γ.k = 0 := hk
  have H : HS (slices_Clone_Color a0) r := h
  clear h; unfold slices_Clone_Color at H
  obtain ⟨h_1, H⟩ := HS.chkP H
  have hr := (HS.some H).symm; subst hr
  refine Tr.of_vc (cl := tabC []) (E := E0) [1] tab_nil hm (by rw [hn]; decide +kernel) ?_
  simp -implicitDefEqProofs [-selQ_sel]
  refine Hid.mk (Tr_nil (E := E0) tab_nil (h1 := rfl) (hd1 := fun d h => by cases h; rw [hn]; decide) (ho := rfl) (hg := rfl) (hd := rfl) (hdn := by rw [hn]; decide) (hu := elt_48) (hx := rfl) fun b hb => ?_)
  refine Tr.of_vc (cl := tabC []) (E := E0) [] tab_nil hm (by rw [hn]; decide +kernel) ?_
  simp -implicitDefEqProofs [-selQ_sel, aft, putT]
  refine Hid.brV (fun h_2 => ?_) (fun h_2 => ?_)
  · simp -implicitDefEqProofs [-selQ_sel]
    have h_3 := hb h_2; simp at h_3; subst h_3
    refine Hid.mk ⟨_, Wk.refl _, ?_⟩
    simp -implicitDefEqProofs [-selQ_sel, h_1]
    refine ⟨⟨[(2, AV.osl 0 0 0 0)], [(0, Ob.arr 4 (List.map eColor []) false)], 1⟩, Wk.ofk [0] hk (by rfl) (by simp -implicitDefEqProofs) (by simp -implicitDefEqProofs), ?_⟩
    simp -implicitDefEqProofs [-selQ_sel, h_1]
  · simp -implicitDefEqProofs [-selQ_sel]
    refine Hid.mk ⟨_, Wk.refl _, ?_⟩
    simp -implicitDefEqProofs [-selQ_sel, h_1]
    refine ⟨⟨[(2, AV.osl 0 0 (List.length a0) (List.length a0))], [(0, Ob.arr 4 (List.map eColor a0) false)], 1⟩, Wk.ofk [0] hk (by rfl) (by simp -implicitDefEqProofs) (by simp -implicitDefEqProofs), ?_⟩
    simp -implicitDefEqProofs [-selQ_sel, h_1]
theorem impl_FloorDiv_ok0 (hm : Try.prog.follows .mixedOrders = true) : Sound Try.prog 220 impl_FloorDiv_x := by
  refine xOf_sound fun q r h => ?_
  obtain ⟨a0, a1⟩ := q
  refine fn_ok E0 hm Try.func220 rfl (by decide +kernel) (by rfl) fun Γ hn hk => ?_
  dsimp only [impl_FloorDiv_e, impl_FloorDiv_v]
  replace hn : Γ.n = 18 := hn
  replace hk : Γ.k = 0 := hk
  have H : HS (impl_FloorDiv a0 a1) r := h
  clear h; unfold impl_FloorDiv at H
  try simp -implicitDefEqProofs at H
  refine Tr.of_vc (cl := tabC []) (E := E0) [] tab_nil hm (by rw [hn]; decide +kernel) ?_
  try simp -implicitDefEqProofs (maxSteps := 2000000) [-selQ_sel]
  refine Hid.brV (fun h_1 => ?_) (fun h_1 => ?_)
  · replace H := HS.cnd_t h_1 H
    try simp -implicitDefEqProofs (maxSteps := 2000000) [-selQ_sel, h_1]
    obtain ⟨h_2, H⟩ := HS.chkP H
    try simp -implicitDefEqProofs (maxSteps := 2000000) [-selQ_sel, h_1, h_2]
    refine Hid.brV (fun h_3 => ?_) (fun h_3 => ?_)
    · replace H := HS.cnd_t h_3 H
      try simp -implicitDefEqProofs (maxSteps := 2000000) [-selQ_sel, h_1, h_2, h_3]
      have hr := (HS.some H).symm; subst hr
      refine Hid.mk ⟨_, Wk.refl _, ?_⟩
      try simp -implicitDefEqProofs (maxSteps := 2000000) [-selQ_sel, h_1, h_2, h_3]
    · replace H := HS.cnd_f h_3 H
      try simp -implicitDefEqProofs (maxSteps := 2000000) [-selQ_sel, h_1, h_2, h_3]
      have hr := (HS.some H).symm; subst hr
      refine Hid.mk ⟨_, Wk.refl _, ?_⟩
      try simp -implicitDefEqProofs (maxSteps := 2000000) [-selQ_sel, h_1, h_2, h_3]
  · replace H := HS.cnd_f h_1 H
    try simp -implicitDefEqProofs (maxSteps := 2000000) [-selQ_sel, h_1]
    have hr := (HS.some H).symm; subst hr
    refine Hid.mk ⟨_, Wk.refl _, ?_⟩
    try simp -implicitDefEqProofs (maxSteps := 2000000) [-selQ_sel, h_1]
theorem impl_Clamp_ok0 (hm : Try.prog.follows .mixedOrders = true) : Sound Try.prog 219 impl_Clamp_x := by
  refine xOf_sound fun q r h => ?_
  obtain ⟨a0, a1, a2⟩ := q
  refine fn_ok E0 hm Try.func219 rfl (by decide +kernel) (by rfl) fun Γ hn hk => ?_
  dsimp only [impl_Clamp_e, impl_Clamp_v]
  replace hn : Γ.n = 18 := hn
  replace hk : Γ.k = 0 := hk
  have H : HS (impl_Clamp a0 a1 a2) r := h
  clear h; unfold impl_Clamp at H
  try simp -implicitDefEqProofs at H
  refine Tr.of_vc (cl := tabC []) (E := E0) [] tab_nil hm (by rw [hn]; decide +kernel) ?_
  try simp -implicitDefEqProofs (maxSteps := 2000000) [-selQ_sel]
  refine Hid.brV (fun h_1 => ?_) (fun h_1 => ?_)
  · replace H := HS.cnd_t h_1 H
    try simp -implicitDefEqProofs (maxSteps := 2000000) [-selQ_sel, h_1]
    refine Hid.brV (fun h_2 => ?_) (fun h_2 => ?_)
    · replace H := HS.cnd_t h_2 H
      try simp -implicitDefEqProofs (maxSteps := 2000000) [-selQ_sel, h_1, h_2]
      have hr := (HS.some H).symm; subst hr
      refine Hid.mk ⟨_, Wk.refl _, ?_⟩
      try simp -implicitDefEqProofs (maxSteps := 2000000) [-selQ_sel, h_1, h_2]
    · replace H := HS.cnd_f h_2 H
      try simp -implicitDefEqProofs (maxSteps := 2000000) [-selQ_sel, h_1, h_2]
      have hr := (HS.some H).symm; subst hr
      refine Hid.mk ⟨_, Wk.refl _, ?_⟩
      try simp -implicitDefEqProofs (maxSteps := 2000000) [-selQ_sel, h_1, h_2]
  · replace H := HS.cnd_f h_1 H
    try simp -implicitDefEqProofs (maxSteps := 2000000) [-selQ_sel, h_1]
    have hr := (HS.some H).symm; subst hr
    refine Hid.mk ⟨_, Wk.refl _, ?_⟩
    try simp -implicitDefEqProofs (maxSteps := 2000000) [-selQ_sel, h_1]
theorem impl_each_2_ok0 (hm : Try.prog.follows .mixedOrders = true) (k_impl_Blend_1 : Sound Try.prog 175 impl_Blend_1_x) : Sound Try.prog 174 impl_each_2_x := by
  refine xOf_sound fun q r h => ?_
  obtain ⟨a0, a1, a2, a3, a4⟩ := q
  refine fn_ok E0 hm Try.func174 rfl (by decide +kernel) (by rfl) fun Γ hn hk => ?_
  dsimp only [impl_each_2_e, impl_each_2_v]
  replace hn : Γ.n = 32 := hn
  replace hk : Γ.k = 0 := hk
  have H : HS (impl_each_2 a0 a1 a2 a3 a4) r := h
  clear h; unfold impl_each_2 at H
  try simp -implicitDefEqProofs at H
  refine Tr.of_vc (cl := tabC [(175, impl_Blend_1_x)]) (E := E0) [] (tab_cons k_impl_Blend_1 tab_nil) hm (by rw [hn]; decide +kernel) ?_
  try simp -implicitDefEqProofs +decide (maxSteps := 2000000) [-selQ_sel, hokQ_of]
  obtain ⟨v1, h_1, H⟩ := HS.bnd H
  try simp -implicitDefEqProofs +decide (maxSteps := 2000000) [-selQ_sel, hokQ_of, h_1]
  obtain ⟨v2, h_2, H⟩ := HS.bnd H
  try simp -implicitDefEqProofs +decide (maxSteps := 2000000) [-selQ_sel, hokQ_of, h_1, h_2]
  obtain ⟨v3, h_3, H⟩ := HS.bnd H
  try simp -implicitDefEqProofs +decide (maxSteps := 2000000) [-selQ_sel, hokQ_of, h_1, h_2, h_3]
  obtain ⟨v4, h_4, H⟩ := HS.bnd H
  try simp -implicitDefEqProofs +decide (maxSteps := 2000000) [-selQ_sel, hokQ_of, h_1, h_2, h_3, h_4]
  have hr := (HS.some H).symm; subst hr
  refine Hid.mk ⟨_, Wk.refl _, ?_⟩
  try simp -implicitDefEqProofs +decide (maxSteps := 2000000) [-selQ_sel, hokQ_of, h_1, h_2, h_3, h_4]
theorem laws_szSurface_ok0 (hm : Try.prog.follows .mixedOrders = true) (k_laws_szColorS : Sound Try.prog 140 laws_szColorS_x) : Sound Try.prog 61 laws_szSurface_x := by
  refine xOf_sound fun q r h => ?_
  obtain ⟨a0, a1⟩ := q
  refine fn_ok E0 hm Try.func61 rfl (by decide +kernel) (by rfl) fun Γ hn hk => ?_
  dsimp only [laws_szSurface_e, laws_szSurface_v]
  replace hn : Γ.n = 12 := hn
  replace hk : Γ.k = 0 := hk
  have H : HS (laws_szSurface a0 a1) r := h
  clear h; unfold laws_szSurface at H
  try simp -implicitDefEqProofs at H
  refine Tr.of_vc (cl := tabC [(140, laws_szColorS_x)]) (E := E0) [] (tab_cons k_laws_szColorS tab_nil) hm (by rw [hn]; decide +kernel) ?_
  try simp -implicitDefEqProofs (maxSteps := 2000000) [-selQ_sel]
  obtain ⟨v1, h_1, H⟩ := HS.bnd H
  try simp -implicitDefEqProofs (maxSteps := 2000000) [-selQ_sel, h_1]
  refine Hid.brV (fun h_2 => ?_) (fun h_2 => ?_)
  · replace H := HS.cnd_t h_2 H
    try simp -implicitDefEqProofs (maxSteps := 2000000) [-selQ_sel, h_1, h_2]
    have hr := (HS.some H).symm; subst hr
    refine Hid.mk ⟨_, Wk.refl _, ?_⟩
    try simp -implicitDefEqProofs (maxSteps := 2000000) [-selQ_sel, h_1, h_2]
  · replace H := HS.cnd_f h_2 H
    try simp -implicitDefEqProofs (maxSteps := 2000000) [-selQ_sel, h_1, h_2]
    have hr := (HS.some H).symm; subst hr
    refine Hid.mk ⟨_, Wk.refl _, ?_⟩
    try simp -implicitDefEqProofs (maxSteps := 2000000) [-selQ_sel, h_1, h_2]
theorem impl_LayOver_1_ok0 (hm : Try.prog.follows .mixedOrders = true) (k_impl_Fade : Sound Try.prog 108 impl_Fade_x) (k_impl_Blend : Sound Try.prog 107 impl_Blend_x) : Sound Try.prog 106 impl_LayOver_1_x := by
  refine xOf_sound fun q r h => ?_
  obtain ⟨a0, a1, a2, a3, a4, a5⟩ := q
  refine fn_ok E0 hm Try.func106 rfl (by decide +kernel) (by rfl) fun Γ hn hk => ?_
  dsimp only [impl_LayOver_1_e, impl_LayOver_1_v]
  replace hn : Γ.n = 25 := hn
  replace hk : Γ.k = 0 := hk
  have H : HS (impl_LayOver_1 a0 a1 a2 a3 a4 a5) r := h
  clear h; unfold impl_LayOver_1 at H
  try simp -implicitDefEqProofs at H
  refine Tr.of_vc (cl := tabC [(108, impl_Fade_x), (107, impl_Blend_x)]) (E := E0) [] (tab_cons k_impl_Fade (tab_cons k_impl_Blend tab_nil)) hm (by rw [hn]; decide +kernel) ?_
  try simp -implicitDefEqProofs +decide (maxSteps := 2000000) [-selQ_sel, hokQ_of]
  obtain ⟨v1, h_1, H⟩ := HS.bnd H
  try simp -implicitDefEqProofs +decide (maxSteps := 2000000) [-selQ_sel, hokQ_of, h_1]
  obtain ⟨v2, h_2, H⟩ := HS.bnd H
  try simp -implicitDefEqProofs +decide (maxSteps := 2000000) [-selQ_sel, hokQ_of, h_1, h_2]
  obtain ⟨v3, h_3, H⟩ := HS.bnd H
  try simp -implicitDefEqProofs +decide (maxSteps := 2000000) [-selQ_sel, hokQ_of, h_1, h_2, h_3]
  have hr := (HS.some H).symm; subst hr
  refine Hid.mk ⟨_, Wk.refl _, ?_⟩
  try simp -implicitDefEqProofs +decide (maxSteps := 2000000) [-selQ_sel, hokQ_of, h_1, h_2, h_3]
theorem spec_Times255_ok0 (hm : Try.prog.follows .mixedOrders = true) (k_spec_Clamp : Sound Try.prog 194 spec_Clamp_x) (k_spec_RoundDiv : Sound Try.prog 124 spec_RoundDiv_x) : Sound Try.prog 123 spec_Times255_x := by
  refine xOf_sound fun q r h => ?_
  obtain ⟨a0, a1⟩ := q
  refine fn_ok E0 hm Try.func123 rfl (by decide +kernel) (by rfl) fun Γ hn hk => ?_
  dsimp only [spec_Times255_e, spec_Times255_v]
  replace hn : Γ.n = 11 := hn
  replace hk : Γ.k = 0 := hk
  have H : HS (spec_Times255 a0 a1) r := h
  clear h; unfold spec_Times255 at H
  try simp -implicitDefEqProofs at H
  refine Tr.of_vc (cl := tabC [(194, spec_Clamp_x), (124, spec_RoundDiv_x)]) (E := E0) [] (tab_cons k_spec_Clamp (tab_cons k_spec_RoundDiv tab_nil)) hm (by rw [hn]; decide +kernel) ?_
  try simp -implicitDefEqProofs (maxSteps := 2000000) [-selQ_sel]
  obtain ⟨v1, h_1, H⟩ := HS.bnd H
  try simp -implicitDefEqProofs (maxSteps := 2000000) [-selQ_sel, h_1]
  obtain ⟨v2, h_2, H⟩ := HS.bnd H
  try simp -implicitDefEqProofs (maxSteps := 2000000) [-selQ_sel, h_1, h_2]
  obtain ⟨v3, h_3, H⟩ := HS.bnd H
  try simp -implicitDefEqProofs (maxSteps := 2000000) [-selQ_sel, h_1, h_2, h_3]
  have hr := (HS.some H).symm; subst hr
  refine Hid.mk ⟨_, Wk.refl _, ?_⟩
  try simp -implicitDefEqProofs (maxSteps := 2000000) [-selQ_sel, h_1, h_2, h_3]
theorem impl_copySurface_ok0 (hm : Try.prog.follows .mixedOrders = true) (k_slices_Clone_Color : Sound Try.prog 172 slices_Clone_Color_x) : Sound Try.prog 103 impl_copySurface_x := by
  refine xOf_sound fun q r h => ?_
  revert h; revert r; revert q; intro a0 r h
  refine fn_ok E0 hm Try.func103 rfl (by decide +kernel) (by rfl) fun Γ hn hk => ?_
  dsimp only [impl_copySurface_e, impl_copySurface_v]
  replace hn : Γ.n = 8 := hn
  replace hk : Γ.k = 0 := hk
  have H : HS (impl_copySurface a0) r := h
  clear h; unfold impl_copySurface at H
  try simp -implicitDefEqProofs at H
  refine Tr.of_vc (cl := tabC [(172, slices_Clone_Color_x)]) (E := E0) [] (tab_cons k_slices_Clone_Color tab_nil) hm (by rw [hn]; decide +kernel) ?_
  try simp -implicitDefEqProofs (maxSteps := 2000000) [-selQ_sel]
  obtain ⟨v1, h_1, H⟩ := HS.bnd H
  try simp -implicitDefEqProofs (maxSteps := 2000000) [-selQ_sel, h_1]
  have hr := (HS.some H).symm; subst hr
  refine Hid.mk ⟨⟨[(2, AV.optr 0 0 3)], [(0, Ob.box [AV.int .i64 a0.w, AV.int .i64 a0.h, AV.osl 1 0 (List.length v1) (List.length v1)]), (1, Ob.arr 4 (List.map eColor v1) false)], 2⟩, Wk.ofk [1, 2] hk (by rfl) (by simp -implicitDefEqProofs [h_1]) (by simp -implicitDefEqProofs [h_1]), ?_⟩
  try simp -implicitDefEqProofs (maxSteps := 2000000) [-selQ_sel, h_1]
theorem impl_Empty_ok0 (hm : Try.prog.follows .mixedOrders = true) : Sound Try.prog 158 impl_Empty_x := by
  refine xOf_sound fun q r h => ?_
  revert h; revert r; revert q; intro a0 r h
  refine fn_ok E0 hm Try.func158 rfl (by decide +kernel) (by rfl) fun Γ hn hk => ?_
  dsimp only [impl_Empty_e, impl_Empty_v]
  replace hn : Γ.n = 15 := hn
  replace hk : Γ.k = 0 := hk
  have H : HS (impl_Empty a0) r := h
  clear h; unfold impl_Empty at H
  try simp -implicitDefEqProofs at H
  refine Tr.of_vc (cl := tabC []) (E := E0) [] tab_nil hm (by rw [hn]; decide +kernel) ?_
  try simp -implicitDefEqProofs (maxSteps := 2000000) [-selQ_sel]
  refine Hid.selQ (fun h_1 => ?_) (fun h_1 => ?_)
  · replace H := HS.cnd_t h_1 H
    try simp -implicitDefEqProofs (maxSteps := 2000000) [-selQ_sel, h_1]
    have hr := (HS.some H).symm; subst hr
    refine Hid.mk ⟨_, Wk.refl _, ?_⟩
    try simp -implicitDefEqProofs (maxSteps := 2000000) [-selQ_sel, h_1]
  · replace H := HS.cnd_f h_1 H
    try simp -implicitDefEqProofs (maxSteps := 2000000) [-selQ_sel, h_1]
    have hr := (HS.some H).symm; subst hr
    refine Hid.mk ⟨_, Wk.refl _, ?_⟩
    try simp -implicitDefEqProofs (maxSteps := 2000000) [-selQ_sel, h_1]
theorem laws_szColorS_ok0 (hm : Try.prog.follows .mixedOrders = true) : Sound Try.prog 140 laws_szColorS_x := by
  refine xOf_sound fun q r h => ?_
  obtain ⟨a0, a1⟩ := q
  refine fn_ok E0 hm Try.func140 rfl (by decide +kernel) (by rfl) fun Γ hn hk => ?_
  dsimp only [laws_szColorS_e, laws_szColorS_v]
  replace hn : Γ.n = 12 := hn
  replace hk : Γ.k = 0 := hk
  have H : HS (laws_szColorS a0 a1) r := h
  clear h; unfold laws_szColorS at H
  try simp -implicitDefEqProofs at H
  refine Tr.of_vc (cl := tabC []) (E := E0) [] tab_nil hm (by rw [hn]; decide +kernel) ?_
  try simp -implicitDefEqProofs (maxSteps := 2000000) [-selQ_sel]
  refine Hid.brV (fun h_1 => ?_) (fun h_1 => ?_)
  · replace H := HS.cnd_t h_1 H
    try simp -implicitDefEqProofs (maxSteps := 2000000) [-selQ_sel, h_1]
    have hr := (HS.some H).symm; subst hr
    refine Hid.mk ⟨_, Wk.refl _, ?_⟩
    try simp -implicitDefEqProofs (maxSteps := 2000000) [-selQ_sel, h_1]
  · replace H := HS.cnd_f h_1 H
    try simp -implicitDefEqProofs (maxSteps := 2000000) [-selQ_sel, h_1]
    have hr := (HS.some H).symm; subst hr
    refine Hid.mk ⟨_, Wk.refl _, ?_⟩
    try simp -implicitDefEqProofs (maxSteps := 2000000) [-selQ_sel, h_1]
theorem spec_l01In_ok0 (hm : Try.prog.follows .mixedOrders = true) : Sound Try.prog 73 spec_l01In_x := by
  refine xOf_sound fun q r h => ?_
  obtain ⟨a0, a1, a2⟩ := q
  refine fn_ok E0 hm Try.func73 rfl (by decide +kernel) (by rfl) fun Γ hn hk => ?_
  dsimp only [spec_l01In_e, spec_l01In_v]
  replace hn : Γ.n = 15 := hn
  replace hk : Γ.k = 0 := hk
  have H : HS (spec_l01In a0 a1 a2) r := h
  clear h; unfold spec_l01In at H
  try simp -implicitDefEqProofs at H
  refine Tr.of_vc (cl := tabC []) (E := E0) [] tab_nil hm (by rw [hn]; decide +kernel) ?_
  try simp -implicitDefEqProofs (maxSteps := 2000000) [-selQ_sel]
  refine Hid.selQ (fun h_1 => ?_) (fun h_1 => ?_)
  · replace H := HS.cnd_t h_1 H
    try simp -implicitDefEqProofs (maxSteps := 2000000) [-selQ_sel, h_1]
    have hr := (HS.some H).symm; subst hr
    refine Hid.mk ⟨_, Wk.refl _, ?_⟩
    try simp -implicitDefEqProofs (maxSteps := 2000000) [-selQ_sel, h_1]
  · replace H := HS.cnd_f h_1 H
    try simp -implicitDefEqProofs (maxSteps := 2000000) [-selQ_sel, h_1]
    have hr := (HS.some H).symm; subst hr
    refine Hid.mk ⟨_, Wk.refl _, ?_⟩
    try simp -implicitDefEqProofs (maxSteps := 2000000) [-selQ_sel, h_1]
theorem impl_isByte_ok0 (hm : Try.prog.follows .mixedOrders = true) (k_impl_inRange : Sound Try.prog 76 impl_inRange_x) : Sound Try.prog 178 impl_isByte_x := by
  refine xOf_sound fun q r h => ?_
  revert h; revert r; revert q; intro a0 r h
  refine fn_ok E0 hm Try.func178 rfl (by decide +kernel) (by rfl) fun Γ hn hk => ?_
  dsimp only [impl_isByte_e, impl_isByte_v]
  replace hn : Γ.n = 5 := hn
  replace hk : Γ.k = 0 := hk
  have H : HS (impl_isByte a0) r := h
  clear h; unfold impl_isByte at H
  try simp -implicitDefEqProofs at H
  refine Tr.of_vc (cl := tabC [(76, impl_inRange_x)]) (E := E0) [] (tab_cons k_impl_inRange tab_nil) hm (by rw [hn]; decide +kernel) ?_
  try simp -implicitDefEqProofs (maxSteps := 2000000) [-selQ_sel]
  obtain ⟨v1, h_1, H⟩ := HS.bnd H
  try simp -implicitDefEqProofs (maxSteps := 2000000) [-selQ_sel, h_1]
  have hr := (HS.some H).symm; subst hr
  refine Hid.mk ⟨_, Wk.refl _, ?_⟩
  try simp -implicitDefEqProofs (maxSteps := 2000000) [-selQ_sel, h_1]
theorem impl_Fade_1_ok0 (hm : Try.prog.follows .mixedOrders = true) (k_impl_Times255 : Sound Try.prog 176 impl_Times255_x) : Sound Try.prog 179 impl_Fade_1_x := by
  refine xOf_sound fun q r h => ?_
  obtain ⟨a0, a1, a2⟩ := q
  refine fn_ok E0 hm Try.func179 rfl (by decide +kernel) (by rfl) fun Γ hn hk => ?_
  dsimp only [impl_Fade_1_e, impl_Fade_1_v]
  replace hn : Γ.n = 9 := hn
  replace hk : Γ.k = 0 := hk
  have H : HS (impl_Fade_1 a0 a1 a2) r := h
  clear h; unfold impl_Fade_1 at H
  try simp -implicitDefEqProofs at H
  refine Tr.of_vc (cl := tabC [(176, impl_Times255_x)]) (E := E0) [] (tab_cons k_impl_Times255 tab_nil) hm (by rw [hn]; decide +kernel) ?_
  try simp -implicitDefEqProofs (maxSteps := 2000000) [-selQ_sel]
  obtain ⟨v1, h_1, H⟩ := HS.bnd H
  try simp -implicitDefEqProofs (maxSteps := 2000000) [-selQ_sel, h_1]
  have hr := (HS.some H).symm; subst hr
  refine Hid.mk ⟨_, Wk.refl _, ?_⟩
  try simp -implicitDefEqProofs (maxSteps := 2000000) [-selQ_sel, h_1]
theorem laws_toColor_ok0 (hm : Try.prog.follows .mixedOrders = true) : Sound Try.prog 145 laws_toColor_x := by
  refine xOf_sound fun q r h => ?_
  revert h; revert r; revert q; intro a0 r h
  refine fn_ok E0 hm Try.func145 rfl (by decide +kernel) (by rfl) fun Γ hn hk => ?_
  dsimp only [laws_toColor_e, laws_toColor_v]
  replace hn : Γ.n = 17 := hn
  replace hk : Γ.k = 0 := hk
  have H : HS (laws_toColor a0) r := h
  clear h; unfold laws_toColor at H
  try simp -implicitDefEqProofs at H
  refine Tr.of_vc (cl := tabC []) (E := E0) [] tab_nil hm (by rw [hn]; decide +kernel) ?_
  try simp -implicitDefEqProofs (maxSteps := 2000000) [-selQ_sel]
  have hr := (HS.some H).symm; subst hr
  refine Hid.mk ⟨_, Wk.refl _, ?_⟩
  try simp -implicitDefEqProofs (maxSteps := 2000000) [-selQ_sel]
end Go.Proofs.Ytoafihhhdnmliaa.Am
