import Derived.Test.YtokobfpimdadmaaAmG1Mo
set_option linter.unusedVariables false
set_option linter.unusedSimpArgs false
set_option linter.unusedSectionVars false
namespace Go.Proofs.Ytokobfpimdadmaa.Am
open Go Go.Proofs
set_option maxRecDepth 100000
set_option linter.unusedSimpArgs false
set_option linter.unusedVariables false
set_option maxHeartbeats 4000000
theorem spec_l15Node_ok0 (hm : Try.prog.follows .mixedOrders = true) (k_spec_Still : Sound Try.prog 75 spec_Still_x) (k_spec_l01PickInt : Sound Try.prog 72 spec_l01PickInt_x) (k_spec_l01Once : Sound Try.prog 40 spec_l01Once_x) (k_spec_l04Mat : Sound Try.prog 76 spec_l04Mat_x) (k_spec_l06Path : Sound Try.prog 77 spec_l06Path_x) (k_spec_l12Paint : Sound Try.prog 78 spec_l12Paint_x) (k_spec_l01Below : Sound Try.prog 42 spec_l01Below_x) : Sound Try.prog 41 spec_l15Node_x := by
  refine xOf_sound fun q r h => ?_
  obtain ⟨a0, a1, a2⟩ := q
  refine fn_ok E0 hm Try.func41 rfl (by decide +kernel) (by rfl) fun Γ hn hk => ?_
  dsimp only [spec_l15Node_e, spec_l15Node_v]
  replace hn : Γ.n = 58 := hn
  replace hk : Γ.k = 1 := hk
  have H : HS (spec_l15Node a0 a1 a2) r := h
  clear h; unfold spec_l15Node at H
  try simp -implicitDefEqProofs at H
  refine Tr.of_vc (cl := tabC [(75, spec_Still_x), (72, spec_l01PickInt_x), (40, spec_l01Once_x), (76, spec_l04Mat_x), (77, spec_l06Path_x), (78, spec_l12Paint_x), (42, spec_l01Below_x)]) (E := E0) [] (tab_cons k_spec_Still (tab_cons k_spec_l01PickInt (tab_cons k_spec_l01Once (tab_cons k_spec_l04Mat (tab_cons k_spec_l06Path (tab_cons k_spec_l12Paint (tab_cons k_spec_l01Below tab_nil))))))) hm (by rw [hn]; decide +kernel) ?_
  try simp -implicitDefEqProofs (maxSteps := 2000000) [-selQ_sel]
  obtain ⟨v1, h_1, H⟩ := HS.bnd H
  try simp -implicitDefEqProofs (maxSteps := 2000000) [-selQ_sel, h_1]
  obtain ⟨⟨w3, w4⟩, h_2, H⟩ := HS.bnd H
  dsimp only at H
  have k_3 := spec_l01PickInt_k a2.b a2.i a2.h [1, 1, 1, 2, 3, 4, 5]
  simp -implicitDefEqProofs [-spec_l01PickInt_k] at k_3
  try simp -implicitDefEqProofs (maxSteps := 2000000) [-selQ_sel, h_1, h_2, k_3]
  obtain ⟨⟨w6, w7⟩, h_4, H⟩ := HS.bnd H
  dsimp only at H
  have k_5 := spec_l01PickInt_k w4.b w4.i w4.h [255, 255, 255, 128, 0]
  simp -implicitDefEqProofs [-spec_l01PickInt_k] at k_5
  try simp -implicitDefEqProofs (maxSteps := 2000000) [-selQ_sel, h_1, h_2, k_3, h_4, k_5]
  obtain ⟨⟨w9, w10⟩, h_6, H⟩ := HS.bnd H
  dsimp only at H
  try simp -implicitDefEqProofs (maxSteps := 2000000) [-selQ_sel, h_1, h_2, k_3, h_4, k_5, h_6]
  refine Hid.brV (fun h_7 => ?_) (fun h_7 => ?_)
  · replace H := HS.cnd_t h_7 H
    try simp -implicitDefEqProofs (maxSteps := 2000000) [-selQ_sel, h_1, h_2, k_3, h_4, k_5, h_6, h_7]
    obtain ⟨⟨w12, w13⟩, h_8, H⟩ := HS.bnd H
    dsimp only at H
    try simp -implicitDefEqProofs (maxSteps := 2000000) [-selQ_sel, h_1, h_2, k_3, h_4, k_5, h_6, h_7, h_8]
    obtain ⟨⟨w15, w16⟩, h_9, H⟩ := HS.bnd H
    dsimp only at H
    try simp -implicitDefEqProofs (maxSteps := 2000000) [-selQ_sel, h_1, h_2, k_3, h_4, k_5, h_6, h_7, h_8, h_9]
    refine Hid.brV (fun h_10 => ?_) (fun h_10 => ?_)
    · replace H := HS.cnd_t h_10 H
      try simp -implicitDefEqProofs (maxSteps := 2000000) [-selQ_sel, h_1, h_2, k_3, h_4, k_5, h_6, h_7, h_8, h_9, h_10]
      obtain ⟨⟨w18, w19, w20⟩, h_11, H⟩ := HS.bnd H
      dsimp only at H
      try simp -implicitDefEqProofs (maxSteps := 2000000) [-selQ_sel, h_1, h_2, k_3, h_4, k_5, h_6, h_7, h_8, h_9, h_10, h_11]
      obtain ⟨⟨w22, w23⟩, h_12, H⟩ := HS.bnd H
      dsimp only at H
      try simp -implicitDefEqProofs (maxSteps := 2000000) [-selQ_sel, h_1, h_2, k_3, h_4, k_5, h_6, h_7, h_8, h_9, h_10, h_11, h_12]
      refine Hid.brV (fun h_13 => ?_) (fun h_13 => ?_)
      · replace H := HS.cnd_t h_13 H
        try simp -implicitDefEqProofs (maxSteps := 2000000) [-selQ_sel, h_1, h_2, k_3, h_4, k_5, h_6, h_7, h_8, h_9, h_10, h_11, h_12, h_13]
        have hr := (HS.some H).symm; subst hr
        refine Hid.mk ⟨_, Wk.refl _, ?_⟩
        try simp -implicitDefEqProofs (maxSteps := 2000000) [-selQ_sel, h_1, h_2, k_3, h_4, k_5, h_6, h_7, h_8, h_9, h_10, h_11, h_12, h_13]
      · replace H := HS.cnd_f h_13 H
        try simp -implicitDefEqProofs (maxSteps := 2000000) [-selQ_sel, h_1, h_2, k_3, h_4, k_5, h_6, h_7, h_8, h_9, h_10, h_11, h_12, h_13]
        obtain ⟨⟨w25, w26, w27⟩, h_14, H⟩ := HS.bnd H
        dsimp only at H
        try simp -implicitDefEqProofs (maxSteps := 2000000) [-selQ_sel, h_1, h_2, k_3, h_4, k_5, h_6, h_7, h_8, h_9, h_10, h_11, h_12, h_13, h_14]
        obtain ⟨⟨w29, w30⟩, h_15, H⟩ := HS.bnd H
        dsimp only at H
        try simp -implicitDefEqProofs (maxSteps := 2000000) [-selQ_sel, h_1, h_2, k_3, h_4, k_5, h_6, h_7, h_8, h_9, h_10, h_11, h_12, h_13, h_14, h_15]
        obtain ⟨⟨w32, w33⟩, h_16, H⟩ := HS.bnd H
        dsimp only at H
        try simp -implicitDefEqProofs (maxSteps := 2000000) [-selQ_sel, h_1, h_2, k_3, h_4, k_5, h_6, h_7, h_8, h_9, h_10, h_11, h_12, h_13, h_14, h_15, h_16]
        obtain ⟨⟨w35, w36⟩, h_17, H⟩ := HS.bnd H
        dsimp only at H
        try simp -implicitDefEqProofs (maxSteps := 2000000) [-selQ_sel, h_1, h_2, k_3, h_4, k_5, h_6, h_7, h_8, h_9, h_10, h_11, h_12, h_13, h_14, h_15, h_16, h_17]
        refine Hid.brV (fun h_18 => ?_) (fun h_18 => ?_)
        · replace H := HS.cnd_t h_18 H
          try simp -implicitDefEqProofs (maxSteps := 2000000) [-selQ_sel, h_1, h_2, k_3, h_4, k_5, h_6, h_7, h_8, h_9, h_10, h_11, h_12, h_13, h_14, h_15, h_16, h_17, h_18]
          obtain ⟨⟨w38, w39⟩, h_19, H⟩ := HS.bnd H
          dsimp only at H
          try simp -implicitDefEqProofs (maxSteps := 2000000) [-selQ_sel, h_1, h_2, k_3, h_4, k_5, h_6, h_7, h_8, h_9, h_10, h_11, h_12, h_13, h_14, h_15, h_16, h_17, h_18, h_19]
          obtain ⟨⟨w41, w42⟩, h_20, H⟩ := HS.bnd H
          dsimp only at H
          try simp -implicitDefEqProofs (maxSteps := 2000000) [-selQ_sel, h_1, h_2, k_3, h_4, k_5, h_6, h_7, h_8, h_9, h_10, h_11, h_12, h_13, h_14, h_15, h_16, h_17, h_18, h_19, h_20]
          refine Hid.brV (fun h_21 => ?_) (fun h_21 => ?_)
          · replace H := HS.cnd_t h_21 H
            try simp -implicitDefEqProofs (maxSteps := 2000000) [-selQ_sel, h_1, h_2, k_3, h_4, k_5, h_6, h_7, h_8, h_9, h_10, h_11, h_12, h_13, h_14, h_15, h_16, h_17, h_18, h_19, h_20, h_21]
            obtain ⟨⟨w44, w45⟩, h_22, H⟩ := HS.bnd H
            dsimp only at H
            try simp -implicitDefEqProofs (maxSteps := 2000000) [-selQ_sel, h_1, h_2, k_3, h_4, k_5, h_6, h_7, h_8, h_9, h_10, h_11, h_12, h_13, h_14, h_15, h_16, h_17, h_18, h_19, h_20, h_21, h_22]
            obtain ⟨⟨w47, w48⟩, h_23, H⟩ := HS.bnd H
            dsimp only at H
            try simp -implicitDefEqProofs (maxSteps := 2000000) [-selQ_sel, h_1, h_2, k_3, h_4, k_5, h_6, h_7, h_8, h_9, h_10, h_11, h_12, h_13, h_14, h_15, h_16, h_17, h_18, h_19, h_20, h_21, h_22, h_23]
            have hr := (HS.some H).symm; subst hr
            refine Hid.mk ⟨_, Wk.refl _, ?_⟩
            try simp -implicitDefEqProofs (maxSteps := 2000000) [-selQ_sel, h_1, h_2, k_3, h_4, k_5, h_6, h_7, h_8, h_9, h_10, h_11, h_12, h_13, h_14, h_15, h_16, h_17, h_18, h_19, h_20, h_21, h_22, h_23]
          · replace H := HS.cnd_f h_21 H
            try simp -implicitDefEqProofs (maxSteps := 2000000) [-selQ_sel, h_1, h_2, k_3, h_4, k_5, h_6, h_7, h_8, h_9, h_10, h_11, h_12, h_13, h_14, h_15, h_16, h_17, h_18, h_19, h_20, h_21]
            have hr := (HS.some H).symm; subst hr
            refine Hid.mk ⟨_, Wk.refl _, ?_⟩
            try simp -implicitDefEqProofs (maxSteps := 2000000) [-selQ_sel, h_1, h_2, k_3, h_4, k_5, h_6, h_7, h_8, h_9, h_10, h_11, h_12, h_13, h_14, h_15, h_16, h_17, h_18, h_19, h_20, h_21]
        · replace H := HS.cnd_f h_18 H
          try simp -implicitDefEqProofs (maxSteps := 2000000) [-selQ_sel, h_1, h_2, k_3, h_4, k_5, h_6, h_7, h_8, h_9, h_10, h_11, h_12, h_13, h_14, h_15, h_16, h_17, h_18]
          have hr := (HS.some H).symm; subst hr
          refine Hid.mk ⟨_, Wk.refl _, ?_⟩
          try simp -implicitDefEqProofs (maxSteps := 2000000) [-selQ_sel, h_1, h_2, k_3, h_4, k_5, h_6, h_7, h_8, h_9, h_10, h_11, h_12, h_13, h_14, h_15, h_16, h_17, h_18]
    · replace H := HS.cnd_f h_10 H
      try simp -implicitDefEqProofs (maxSteps := 2000000) [-selQ_sel, h_1, h_2, k_3, h_4, k_5, h_6, h_7, h_8, h_9, h_10]
      obtain ⟨⟨w50, w51⟩, h_24, H⟩ := HS.bnd H
      dsimp only at H
      try simp -implicitDefEqProofs (maxSteps := 2000000) [-selQ_sel, h_1, h_2, k_3, h_4, k_5, h_6, h_7, h_8, h_9, h_10, h_24]
      refine Hid.brV (fun h_25 => ?_) (fun h_25 => ?_)
      · replace H := HS.cnd_t h_25 H
        try simp -implicitDefEqProofs (maxSteps := 2000000) [-selQ_sel, h_1, h_2, k_3, h_4, k_5, h_6, h_7, h_8, h_9, h_10, h_24, h_25]
        have hr := (HS.some H).symm; subst hr
        refine Hid.mk ⟨_, Wk.refl _, ?_⟩
        try simp -implicitDefEqProofs (maxSteps := 2000000) [-selQ_sel, h_1, h_2, k_3, h_4, k_5, h_6, h_7, h_8, h_9, h_10, h_24, h_25]
      · replace H := HS.cnd_f h_25 H
        try simp -implicitDefEqProofs (maxSteps := 2000000) [-selQ_sel, h_1, h_2, k_3, h_4, k_5, h_6, h_7, h_8, h_9, h_10, h_24, h_25]
        obtain ⟨⟨w53, w54, w55⟩, h_26, H⟩ := HS.bnd H
        dsimp only at H
        try simp -implicitDefEqProofs (maxSteps := 2000000) [-selQ_sel, h_1, h_2, k_3, h_4, k_5, h_6, h_7, h_8, h_9, h_10, h_24, h_25, h_26]
        obtain ⟨⟨w57, w58⟩, h_27, H⟩ := HS.bnd H
        dsimp only at H
        try simp -implicitDefEqProofs (maxSteps := 2000000) [-selQ_sel, h_1, h_2, k_3, h_4, k_5, h_6, h_7, h_8, h_9, h_10, h_24, h_25, h_26, h_27]
        obtain ⟨⟨w60, w61⟩, h_28, H⟩ := HS.bnd H
        dsimp only at H
        try simp -implicitDefEqProofs (maxSteps := 2000000) [-selQ_sel, h_1, h_2, k_3, h_4, k_5, h_6, h_7, h_8, h_9, h_10, h_24, h_25, h_26, h_27, h_28]
        obtain ⟨⟨w63, w64⟩, h_29, H⟩ := HS.bnd H
        dsimp only at H
        try simp -implicitDefEqProofs (maxSteps := 2000000) [-selQ_sel, h_1, h_2, k_3, h_4, k_5, h_6, h_7, h_8, h_9, h_10, h_24, h_25, h_26, h_27, h_28, h_29]
        refine Hid.brV (fun h_30 => ?_) (fun h_30 => ?_)
        · replace H := HS.cnd_t h_30 H
          try simp -implicitDefEqProofs (maxSteps := 2000000) [-selQ_sel, h_1, h_2, k_3, h_4, k_5, h_6, h_7, h_8, h_9, h_10, h_24, h_25, h_26, h_27, h_28, h_29, h_30]
          obtain ⟨⟨w66, w67⟩, h_31, H⟩ := HS.bnd H
          dsimp only at H
          try simp -implicitDefEqProofs (maxSteps := 2000000) [-selQ_sel, h_1, h_2, k_3, h_4, k_5, h_6, h_7, h_8, h_9, h_10, h_24, h_25, h_26, h_27, h_28, h_29, h_30, h_31]
          obtain ⟨⟨w69, w70⟩, h_32, H⟩ := HS.bnd H
          dsimp only at H
          try simp -implicitDefEqProofs (maxSteps := 2000000) [-selQ_sel, h_1, h_2, k_3, h_4, k_5, h_6, h_7, h_8, h_9, h_10, h_24, h_25, h_26, h_27, h_28, h_29, h_30, h_31, h_32]
          refine Hid.brV (fun h_33 => ?_) (fun h_33 => ?_)
          · replace H := HS.cnd_t h_33 H
            try simp -implicitDefEqProofs (maxSteps := 2000000) [-selQ_sel, h_1, h_2, k_3, h_4, k_5, h_6, h_7, h_8, h_9, h_10, h_24, h_25, h_26, h_27, h_28, h_29, h_30, h_31, h_32, h_33]
            obtain ⟨⟨w72, w73⟩, h_34, H⟩ := HS.bnd H
            dsimp only at H
            try simp -implicitDefEqProofs (maxSteps := 2000000) [-selQ_sel, h_1, h_2, k_3, h_4, k_5, h_6, h_7, h_8, h_9, h_10, h_24, h_25, h_26, h_27, h_28, h_29, h_30, h_31, h_32, h_33, h_34]
            obtain ⟨⟨w75, w76⟩, h_35, H⟩ := HS.bnd H
            dsimp only at H
            try simp -implicitDefEqProofs (maxSteps := 2000000) [-selQ_sel, h_1, h_2, k_3, h_4, k_5, h_6, h_7, h_8, h_9, h_10, h_24, h_25, h_26, h_27, h_28, h_29, h_30, h_31, h_32, h_33, h_34, h_35]
            have hr := (HS.some H).symm; subst hr
            refine Hid.mk ⟨_, Wk.refl _, ?_⟩
            try simp -implicitDefEqProofs (maxSteps := 2000000) [-selQ_sel, h_1, h_2, k_3, h_4, k_5, h_6, h_7, h_8, h_9, h_10, h_24, h_25, h_26, h_27, h_28, h_29, h_30, h_31, h_32, h_33, h_34, h_35]
          · replace H := HS.cnd_f h_33 H
            try simp -implicitDefEqProofs (maxSteps := 2000000) [-selQ_sel, h_1, h_2, k_3, h_4, k_5, h_6, h_7, h_8, h_9, h_10, h_24, h_25, h_26, h_27, h_28, h_29, h_30, h_31, h_32, h_33]
            have hr := (HS.some H).symm; subst hr
            refine Hid.mk ⟨_, Wk.refl _, ?_⟩
            try simp -implicitDefEqProofs (maxSteps := 2000000) [-selQ_sel, h_1, h_2, k_3, h_4, k_5, h_6, h_7, h_8, h_9, h_10, h_24, h_25, h_26, h_27, h_28, h_29, h_30, h_31, h_32, h_33]
        · replace H := HS.cnd_f h_30 H
          try simp -implicitDefEqProofs (maxSteps := 2000000) [-selQ_sel, h_1, h_2, k_3, h_4, k_5, h_6, h_7, h_8, h_9, h_10, h_24, h_25, h_26, h_27, h_28, h_29, h_30]
          have hr := (HS.some H).symm; subst hr
          refine Hid.mk ⟨_, Wk.refl _, ?_⟩
          try simp -implicitDefEqProofs (maxSteps := 2000000) [-selQ_sel, h_1, h_2, k_3, h_4, k_5, h_6, h_7, h_8, h_9, h_10, h_24, h_25, h_26, h_27, h_28, h_29, h_30]
  · replace H := HS.cnd_f h_7 H
    try simp -implicitDefEqProofs (maxSteps := 2000000) [-selQ_sel, h_1, h_2, k_3, h_4, k_5, h_6, h_7]
    obtain ⟨⟨w78, w79⟩, h_36, H⟩ := HS.bnd H
    dsimp only at H
    try simp -implicitDefEqProofs (maxSteps := 2000000) [-selQ_sel, h_1, h_2, k_3, h_4, k_5, h_6, h_7, h_36]
    refine Hid.brV (fun h_37 => ?_) (fun h_37 => ?_)
    · replace H := HS.cnd_t h_37 H
      try simp -implicitDefEqProofs (maxSteps := 2000000) [-selQ_sel, h_1, h_2, k_3, h_4, k_5, h_6, h_7, h_36, h_37]
      obtain ⟨⟨w81, w82, w83⟩, h_38, H⟩ := HS.bnd H
      dsimp only at H
      try simp -implicitDefEqProofs (maxSteps := 2000000) [-selQ_sel, h_1, h_2, k_3, h_4, k_5, h_6, h_7, h_36, h_37, h_38]
      obtain ⟨⟨w85, w86⟩, h_39, H⟩ := HS.bnd H
      dsimp only at H
      try simp -implicitDefEqProofs (maxSteps := 2000000) [-selQ_sel, h_1, h_2, k_3, h_4, k_5, h_6, h_7, h_36, h_37, h_38, h_39]
      refine Hid.brV (fun h_40 => ?_) (fun h_40 => ?_)
      · replace H := HS.cnd_t h_40 H
        try simp -implicitDefEqProofs (maxSteps := 2000000) [-selQ_sel, h_1, h_2, k_3, h_4, k_5, h_6, h_7, h_36, h_37, h_38, h_39, h_40]
        have hr := (HS.some H).symm; subst hr
        refine Hid.mk ⟨_, Wk.refl _, ?_⟩
        try simp -implicitDefEqProofs (maxSteps := 2000000) [-selQ_sel, h_1, h_2, k_3, h_4, k_5, h_6, h_7, h_36, h_37, h_38, h_39, h_40]
      · replace H := HS.cnd_f h_40 H
        try simp -implicitDefEqProofs (maxSteps := 2000000) [-selQ_sel, h_1, h_2, k_3, h_4, k_5, h_6, h_7, h_36, h_37, h_38, h_39, h_40]
        obtain ⟨⟨w88, w89, w90⟩, h_41, H⟩ := HS.bnd H
        dsimp only at H
        try simp -implicitDefEqProofs (maxSteps := 2000000) [-selQ_sel, h_1, h_2, k_3, h_4, k_5, h_6, h_7, h_36, h_37, h_38, h_39, h_40, h_41]
        obtain ⟨⟨w92, w93⟩, h_42, H⟩ := HS.bnd H
        dsimp only at H
        try simp -implicitDefEqProofs (maxSteps := 2000000) [-selQ_sel, h_1, h_2, k_3, h_4, k_5, h_6, h_7, h_36, h_37, h_38, h_39, h_40, h_41, h_42]
        obtain ⟨⟨w95, w96⟩, h_43, H⟩ := HS.bnd H
        dsimp only at H
        try simp -implicitDefEqProofs (maxSteps := 2000000) [-selQ_sel, h_1, h_2, k_3, h_4, k_5, h_6, h_7, h_36, h_37, h_38, h_39, h_40, h_41, h_42, h_43]
        obtain ⟨⟨w98, w99⟩, h_44, H⟩ := HS.bnd H
        dsimp only at H
        try simp -implicitDefEqProofs (maxSteps := 2000000) [-selQ_sel, h_1, h_2, k_3, h_4, k_5, h_6, h_7, h_36, h_37, h_38, h_39, h_40, h_41, h_42, h_43, h_44]
        refine Hid.brV (fun h_45 => ?_) (fun h_45 => ?_)
        · replace H := HS.cnd_t h_45 H
          try simp -implicitDefEqProofs (maxSteps := 2000000) [-selQ_sel, h_1, h_2, k_3, h_4, k_5, h_6, h_7, h_36, h_37, h_38, h_39, h_40, h_41, h_42, h_43, h_44, h_45]
          obtain ⟨⟨w101, w102⟩, h_46, H⟩ := HS.bnd H
          dsimp only at H
          try simp -implicitDefEqProofs (maxSteps := 2000000) [-selQ_sel, h_1, h_2, k_3, h_4, k_5, h_6, h_7, h_36, h_37, h_38, h_39, h_40, h_41, h_42, h_43, h_44, h_45, h_46]
          obtain ⟨⟨w104, w105⟩, h_47, H⟩ := HS.bnd H
          dsimp only at H
          try simp -implicitDefEqProofs (maxSteps := 2000000) [-selQ_sel, h_1, h_2, k_3, h_4, k_5, h_6, h_7, h_36, h_37, h_38, h_39, h_40, h_41, h_42, h_43, h_44, h_45, h_46, h_47]
          refine Hid.brV (fun h_48 => ?_) (fun h_48 => ?_)
          · replace H := HS.cnd_t h_48 H
            try simp -implicitDefEqProofs (maxSteps := 2000000) [-selQ_sel, h_1, h_2, k_3, h_4, k_5, h_6, h_7, h_36, h_37, h_38, h_39, h_40, h_41, h_42, h_43, h_44, h_45, h_46, h_47, h_48]
            obtain ⟨⟨w107, w108⟩, h_49, H⟩ := HS.bnd H
            dsimp only at H
            try simp -implicitDefEqProofs (maxSteps := 2000000) [-selQ_sel, h_1, h_2, k_3, h_4, k_5, h_6, h_7, h_36, h_37, h_38, h_39, h_40, h_41, h_42, h_43, h_44, h_45, h_46, h_47, h_48, h_49]
            obtain ⟨⟨w110, w111⟩, h_50, H⟩ := HS.bnd H
            dsimp only at H
            try simp -implicitDefEqProofs (maxSteps := 2000000) [-selQ_sel, h_1, h_2, k_3, h_4, k_5, h_6, h_7, h_36, h_37, h_38, h_39, h_40, h_41, h_42, h_43, h_44, h_45, h_46, h_47, h_48, h_49, h_50]
            have hr := (HS.some H).symm; subst hr
            refine Hid.mk ⟨_, Wk.refl _, ?_⟩
            try simp -implicitDefEqProofs (maxSteps := 2000000) [-selQ_sel, h_1, h_2, k_3, h_4, k_5, h_6, h_7, h_36, h_37, h_38, h_39, h_40, h_41, h_42, h_43, h_44, h_45, h_46, h_47, h_48, h_49, h_50]
          · replace H := HS.cnd_f h_48 H
            try simp -implicitDefEqProofs (maxSteps := 2000000) [-selQ_sel, h_1, h_2, k_3, h_4, k_5, h_6, h_7, h_36, h_37, h_38, h_39, h_40, h_41, h_42, h_43, h_44, h_45, h_46, h_47, h_48]
            have hr := (HS.some H).symm; subst hr
            refine Hid.mk ⟨_, Wk.refl _, ?_⟩
            try simp -implicitDefEqProofs (maxSteps := 2000000) [-selQ_sel, h_1, h_2, k_3, h_4, k_5, h_6, h_7, h_36, h_37, h_38, h_39, h_40, h_41, h_42, h_43, h_44, h_45, h_46, h_47, h_48]
        · replace H := HS.cnd_f h_45 H
          try simp -implicitDefEqProofs (maxSteps := 2000000) [-selQ_sel, h_1, h_2, k_3, h_4, k_5, h_6, h_7, h_36, h_37, h_38, h_39, h_40, h_41, h_42, h_43, h_44, h_45]
          have hr := (HS.some H).symm; subst hr
          refine Hid.mk ⟨_, Wk.refl _, ?_⟩
          try simp -implicitDefEqProofs (maxSteps := 2000000) [-selQ_sel, h_1, h_2, k_3, h_4, k_5, h_6, h_7, h_36, h_37, h_38, h_39, h_40, h_41, h_42, h_43, h_44, h_45]
    · replace H := HS.cnd_f h_37 H
      try simp -implicitDefEqProofs (maxSteps := 2000000) [-selQ_sel, h_1, h_2, k_3, h_4, k_5, h_6, h_7, h_36, h_37]
      obtain ⟨⟨w113, w114⟩, h_51, H⟩ := HS.bnd H
      dsimp only at H
      try simp -implicitDefEqProofs (maxSteps := 2000000) [-selQ_sel, h_1, h_2, k_3, h_4, k_5, h_6, h_7, h_36, h_37, h_51]
      refine Hid.brV (fun h_52 => ?_) (fun h_52 => ?_)
      · replace H := HS.cnd_t h_52 H
        try simp -implicitDefEqProofs (maxSteps := 2000000) [-selQ_sel, h_1, h_2, k_3, h_4, k_5, h_6, h_7, h_36, h_37, h_51, h_52]
        have hr := (HS.some H).symm; subst hr
        refine Hid.mk ⟨_, Wk.refl _, ?_⟩
        try simp -implicitDefEqProofs (maxSteps := 2000000) [-selQ_sel, h_1, h_2, k_3, h_4, k_5, h_6, h_7, h_36, h_37, h_51, h_52]
      · replace H := HS.cnd_f h_52 H
        try simp -implicitDefEqProofs (maxSteps := 2000000) [-selQ_sel, h_1, h_2, k_3, h_4, k_5, h_6, h_7, h_36, h_37, h_51, h_52]
        obtain ⟨⟨w116, w117, w118⟩, h_53, H⟩ := HS.bnd H
        dsimp only at H
        try simp -implicitDefEqProofs (maxSteps := 2000000) [-selQ_sel, h_1, h_2, k_3, h_4, k_5, h_6, h_7, h_36, h_37, h_51, h_52, h_53]
        obtain ⟨⟨w120, w121⟩, h_54, H⟩ := HS.bnd H
        dsimp only at H
        try simp -implicitDefEqProofs (maxSteps := 2000000) [-selQ_sel, h_1, h_2, k_3, h_4, k_5, h_6, h_7, h_36, h_37, h_51, h_52, h_53, h_54]
        obtain ⟨⟨w123, w124⟩, h_55, H⟩ := HS.bnd H
        dsimp only at H
        try simp -implicitDefEqProofs (maxSteps := 2000000) [-selQ_sel, h_1, h_2, k_3, h_4, k_5, h_6, h_7, h_36, h_37, h_51, h_52, h_53, h_54, h_55]
        obtain ⟨⟨w126, w127⟩, h_56, H⟩ := HS.bnd H
        dsimp only at H
        try simp -implicitDefEqProofs (maxSteps := 2000000) [-selQ_sel, h_1, h_2, k_3, h_4, k_5, h_6, h_7, h_36, h_37, h_51, h_52, h_53, h_54, h_55, h_56]
        refine Hid.brV (fun h_57 => ?_) (fun h_57 => ?_)
        · replace H := HS.cnd_t h_57 H
          try simp -implicitDefEqProofs (maxSteps := 2000000) [-selQ_sel, h_1, h_2, k_3, h_4, k_5, h_6, h_7, h_36, h_37, h_51, h_52, h_53, h_54, h_55, h_56, h_57]
          obtain ⟨⟨w129, w130⟩, h_58, H⟩ := HS.bnd H
          dsimp only at H
          try simp -implicitDefEqProofs (maxSteps := 2000000) [-selQ_sel, h_1, h_2, k_3, h_4, k_5, h_6, h_7, h_36, h_37, h_51, h_52, h_53, h_54, h_55, h_56, h_57, h_58]
          obtain ⟨⟨w132, w133⟩, h_59, H⟩ := HS.bnd H
          dsimp only at H
          try simp -implicitDefEqProofs (maxSteps := 2000000) [-selQ_sel, h_1, h_2, k_3, h_4, k_5, h_6, h_7, h_36, h_37, h_51, h_52, h_53, h_54, h_55, h_56, h_57, h_58, h_59]
          refine Hid.brV (fun h_60 => ?_) (fun h_60 => ?_)
          · replace H := HS.cnd_t h_60 H
            try simp -implicitDefEqProofs (maxSteps := 2000000) [-selQ_sel, h_1, h_2, k_3, h_4, k_5, h_6, h_7, h_36, h_37, h_51, h_52, h_53, h_54, h_55, h_56, h_57, h_58, h_59, h_60]
            obtain ⟨⟨w135, w136⟩, h_61, H⟩ := HS.bnd H
            dsimp only at H
            try simp -implicitDefEqProofs (maxSteps := 2000000) [-selQ_sel, h_1, h_2, k_3, h_4, k_5, h_6, h_7, h_36, h_37, h_51, h_52, h_53, h_54, h_55, h_56, h_57, h_58, h_59, h_60, h_61]
            obtain ⟨⟨w138, w139⟩, h_62, H⟩ := HS.bnd H
            dsimp only at H
            try simp -implicitDefEqProofs (maxSteps := 2000000) [-selQ_sel, h_1, h_2, k_3, h_4, k_5, h_6, h_7, h_36, h_37, h_51, h_52, h_53, h_54, h_55, h_56, h_57, h_58, h_59, h_60, h_61, h_62]
            have hr := (HS.some H).symm; subst hr
            refine Hid.mk ⟨_, Wk.refl _, ?_⟩
            try simp -implicitDefEqProofs (maxSteps := 2000000) [-selQ_sel, h_1, h_2, k_3, h_4, k_5, h_6, h_7, h_36, h_37, h_51, h_52, h_53, h_54, h_55, h_56, h_57, h_58, h_59, h_60, h_61, h_62]
          · replace H := HS.cnd_f h_60 H
            try simp -implicitDefEqProofs (maxSteps := 2000000) [-selQ_sel, h_1, h_2, k_3, h_4, k_5, h_6, h_7, h_36, h_37, h_51, h_52, h_53, h_54, h_55, h_56, h_57, h_58, h_59, h_60]
            have hr := (HS.some H).symm; subst hr
            refine Hid.mk ⟨_, Wk.refl _, ?_⟩
            try simp -implicitDefEqProofs (maxSteps := 2000000) [-selQ_sel, h_1, h_2, k_3, h_4, k_5, h_6, h_7, h_36, h_37, h_51, h_52, h_53, h_54, h_55, h_56, h_57, h_58, h_59, h_60]
        · replace H := HS.cnd_f h_57 H
          try simp -implicitDefEqProofs (maxSteps := 2000000) [-selQ_sel, h_1, h_2, k_3, h_4, k_5, h_6, h_7, h_36, h_37, h_51, h_52, h_53, h_54, h_55, h_56, h_57]
          have hr := (HS.some H).symm; subst hr
          refine Hid.mk ⟨_, Wk.refl _, ?_⟩
          try simp -implicitDefEqProofs (maxSteps := 2000000) [-selQ_sel, h_1, h_2, k_3, h_4, k_5, h_6, h_7, h_36, h_37, h_51, h_52, h_53, h_54, h_55, h_56, h_57]
theorem spec_NodeOk_ok0 (hm : Try.prog.follows .mixedOrders = true) (k_spec_l01In : Sound Try.prog 58 spec_l01In_x) (k_spec_MatOk : Sound Try.prog 92 spec_MatOk_x) (k_spec_PathOk : Sound Try.prog 93 spec_PathOk_x) (k_spec_DashOk : Sound Try.prog 94 spec_DashOk_x) (k_spec_l15NoPath : Sound Try.prog 95 spec_l15NoPath_x) (k_spec_l15NoPaint : Sound Try.prog 96 spec_l15NoPaint_x) (k_spec_PaintOk : Sound Try.prog 97 spec_PaintOk_x) : Sound Try.prog 50 spec_NodeOk_x := by
  refine xOf_sound fun q r h => ?_
  revert h; revert r; revert q; intro a0 r h
  refine fn_ok E0 hm Try.func50 rfl (by decide +kernel) (by rfl) fun Γ hn hk => ?_
  dsimp only [spec_NodeOk_e, spec_NodeOk_v]
  replace hn : Γ.n = 91 := hn
  replace hk : Γ.k = 0 := hk
  have H : HS (spec_NodeOk a0) r := h
  clear h; unfold spec_NodeOk at H
  try simp -implicitDefEqProofs at H
  refine Tr.of_vc (cl := tabC [(58, spec_l01In_x), (92, spec_MatOk_x), (93, spec_PathOk_x), (94, spec_DashOk_x), (95, spec_l15NoPath_x), (96, spec_l15NoPaint_x), (97, spec_PaintOk_x)]) (E := E0) [] (tab_cons k_spec_l01In (tab_cons k_spec_MatOk (tab_cons k_spec_PathOk (tab_cons k_spec_DashOk (tab_cons k_spec_l15NoPath (tab_cons k_spec_l15NoPaint (tab_cons k_spec_PaintOk tab_nil))))))) hm (by rw [hn]; decide +kernel) ?_
  try simp -implicitDefEqProofs (maxSteps := 2000000) [-selQ_sel]
  obtain ⟨v1, h_1, H⟩ := HS.bnd H
  try simp -implicitDefEqProofs (maxSteps := 2000000) [-selQ_sel, h_1]
  refine Hid.selQ (fun h_2 => ?_) (fun h_2 => ?_)
  · replace H := HS.cnd_t h_2 H
    try simp -implicitDefEqProofs (maxSteps := 2000000) [-selQ_sel, h_1, h_2]
    obtain ⟨v2, h_3, H⟩ := HS.bnd H
    try simp -implicitDefEqProofs (maxSteps := 2000000) [-selQ_sel, h_1, h_2, h_3]
    refine Hid.selQ (fun h_4 => ?_) (fun h_4 => ?_)
    · replace H := HS.cnd_t h_4 H
      try simp -implicitDefEqProofs (maxSteps := 2000000) [-selQ_sel, h_1, h_2, h_3, h_4]
      refine Hid.selQ (fun h_5 => ?_) (fun h_5 => ?_)
      · replace H := HS.cnd_t h_5 H
        try simp -implicitDefEqProofs (maxSteps := 2000000) [-selQ_sel, h_1, h_2, h_3, h_4, h_5]
        have hr := (HS.some H).symm; subst hr
        refine Hid.mk ⟨_, Wk.refl _, ?_⟩
        try simp -implicitDefEqProofs (maxSteps := 2000000) [-selQ_sel, h_1, h_2, h_3, h_4, h_5]
      · replace H := HS.cnd_f h_5 H
        try simp -implicitDefEqProofs (maxSteps := 2000000) [-selQ_sel, h_1, h_2, h_3, h_4, h_5]
        obtain ⟨v3, h_6, H⟩ := HS.bnd H
        try simp -implicitDefEqProofs (maxSteps := 2000000) [-selQ_sel, h_1, h_2, h_3, h_4, h_5, h_6]
        refine Hid.selQ (fun h_7 => ?_) (fun h_7 => ?_)
        · replace H := HS.cnd_t h_7 H
          try simp -implicitDefEqProofs (maxSteps := 2000000) [-selQ_sel, h_1, h_2, h_3, h_4, h_5, h_6, h_7]
          obtain ⟨v4, h_8, H⟩ := HS.bnd H
          try simp -implicitDefEqProofs (maxSteps := 2000000) [-selQ_sel, h_1, h_2, h_3, h_4, h_5, h_6, h_7, h_8]
          refine Hid.selQ (fun h_9 => ?_) (fun h_9 => ?_)
          · replace H := HS.cnd_t h_9 H
            try simp -implicitDefEqProofs (maxSteps := 2000000) [-selQ_sel, h_1, h_2, h_3, h_4, h_5, h_6, h_7, h_8, h_9]
            obtain ⟨v5, h_10, H⟩ := HS.bnd H
            try simp -implicitDefEqProofs (maxSteps := 2000000) [-selQ_sel, h_1, h_2, h_3, h_4, h_5, h_6, h_7, h_8, h_9, h_10]
            refine Hid.selQ (fun h_11 => ?_) (fun h_11 => ?_)
            · replace H := HS.cnd_t h_11 H
              try simp -implicitDefEqProofs (maxSteps := 2000000) [-selQ_sel, h_1, h_2, h_3, h_4, h_5, h_6, h_7, h_8, h_9, h_10, h_11]
              obtain ⟨v6, h_12, H⟩ := HS.bnd H
              try simp -implicitDefEqProofs (maxSteps := 2000000) [-selQ_sel, h_1, h_2, h_3, h_4, h_5, h_6, h_7, h_8, h_9, h_10, h_11, h_12]
              refine Hid.selQ (fun h_13 => ?_) (fun h_13 => ?_)
              · replace H := HS.cnd_t h_13 H
                try simp -implicitDefEqProofs (maxSteps := 2000000) [-selQ_sel, h_1, h_2, h_3, h_4, h_5, h_6, h_7, h_8, h_9, h_10, h_11, h_12, h_13]
                obtain ⟨v7, h_14, H⟩ := HS.bnd H
                try simp -implicitDefEqProofs (maxSteps := 2000000) [-selQ_sel, h_1, h_2, h_3, h_4, h_5, h_6, h_7, h_8, h_9, h_10, h_11, h_12, h_13, h_14]
                refine Hid.selQ (fun h_15 => ?_) (fun h_15 => ?_)
                · replace H := HS.cnd_t h_15 H
                  try simp -implicitDefEqProofs (maxSteps := 2000000) [-selQ_sel, h_1, h_2, h_3, h_4, h_5, h_6, h_7, h_8, h_9, h_10, h_11, h_12, h_13, h_14, h_15]
                  obtain ⟨v8, h_16, H⟩ := HS.bnd H
                  try simp -implicitDefEqProofs (maxSteps := 2000000) [-selQ_sel, h_1, h_2, h_3, h_4, h_5, h_6, h_7, h_8, h_9, h_10, h_11, h_12, h_13, h_14, h_15, h_16]
                  refine Hid.selQ (fun h_17 => ?_) (fun h_17 => ?_)
                  · replace H := HS.cnd_t h_17 H
                    try simp -implicitDefEqProofs (maxSteps := 2000000) [-selQ_sel, h_1, h_2, h_3, h_4, h_5, h_6, h_7, h_8, h_9, h_10, h_11, h_12, h_13, h_14, h_15, h_16, h_17]
                    obtain ⟨v9, h_18, H⟩ := HS.bnd H
                    try simp -implicitDefEqProofs (maxSteps := 2000000) [-selQ_sel, h_1, h_2, h_3, h_4, h_5, h_6, h_7, h_8, h_9, h_10, h_11, h_12, h_13, h_14, h_15, h_16, h_17, h_18]
                    refine Hid.brV (fun h_19 => ?_) (fun h_19 => ?_)
                    · replace H := HS.cnd_t h_19 H
                      try simp -implicitDefEqProofs (maxSteps := 2000000) [-selQ_sel, h_1, h_2, h_3, h_4, h_5, h_6, h_7, h_8, h_9, h_10, h_11, h_12, h_13, h_14, h_15, h_16, h_17, h_18, h_19]
                      refine Hid.brV (fun h_20 => ?_) (fun h_20 => ?_)
                      · replace H := HS.cnd_t h_20 H
                        try simp -implicitDefEqProofs (maxSteps := 2000000) [-selQ_sel, h_1, h_2, h_3, h_4, h_5, h_6, h_7, h_8, h_9, h_10, h_11, h_12, h_13, h_14, h_15, h_16, h_17, h_18, h_19, h_20]
                        obtain ⟨v10, h_21, H⟩ := HS.bnd H
                        try simp -implicitDefEqProofs (maxSteps := 2000000) [-selQ_sel, h_1, h_2, h_3, h_4, h_5, h_6, h_7, h_8, h_9, h_10, h_11, h_12, h_13, h_14, h_15, h_16, h_17, h_18, h_19, h_20, h_21]
                        refine Hid.selQ (fun h_22 => ?_) (fun h_22 => ?_)
                        · replace H := HS.cnd_t h_22 H
                          try simp -implicitDefEqProofs (maxSteps := 2000000) [-selQ_sel, h_1, h_2, h_3, h_4, h_5, h_6, h_7, h_8, h_9, h_10, h_11, h_12, h_13, h_14, h_15, h_16, h_17, h_18, h_19, h_20, h_21, h_22]
                          obtain ⟨v11, h_23, H⟩ := HS.bnd H
                          try simp -implicitDefEqProofs (maxSteps := 2000000) [-selQ_sel, h_1, h_2, h_3, h_4, h_5, h_6, h_7, h_8, h_9, h_10, h_11, h_12, h_13, h_14, h_15, h_16, h_17, h_18, h_19, h_20, h_21, h_22, h_23]
                          refine Hid.selQ (fun h_24 => ?_) (fun h_24 => ?_)
                          · replace H := HS.cnd_t h_24 H
                            try simp -implicitDefEqProofs (maxSteps := 2000000) [-selQ_sel, h_1, h_2, h_3, h_4, h_5, h_6, h_7, h_8, h_9, h_10, h_11, h_12, h_13, h_14, h_15, h_16, h_17, h_18, h_19, h_20, h_21, h_22, h_23, h_24]
                            refine Hid.selQ (fun h_25 => ?_) (fun h_25 => ?_)
                            · replace H := HS.cnd_t h_25 H
                              try simp -implicitDefEqProofs (maxSteps := 2000000) [-selQ_sel, h_1, h_2, h_3, h_4, h_5, h_6, h_7, h_8, h_9, h_10, h_11, h_12, h_13, h_14, h_15, h_16, h_17, h_18, h_19, h_20, h_21, h_22, h_23, h_24, h_25]
                              refine Hid.selQ (fun h_26 => ?_) (fun h_26 => ?_)
                              · replace H := HS.cnd_t h_26 H
                                try simp -implicitDefEqProofs (maxSteps := 2000000) [-selQ_sel, h_1, h_2, h_3, h_4, h_5, h_6, h_7, h_8, h_9, h_10, h_11, h_12, h_13, h_14, h_15, h_16, h_17, h_18, h_19, h_20, h_21, h_22, h_23, h_24, h_25, h_26]
                                have hr := (HS.some H).symm; subst hr
                                refine Hid.mk ⟨_, Wk.refl _, ?_⟩
                                try simp -implicitDefEqProofs (maxSteps := 2000000) [-selQ_sel, h_1, h_2, h_3, h_4, h_5, h_6, h_7, h_8, h_9, h_10, h_11, h_12, h_13, h_14, h_15, h_16, h_17, h_18, h_19, h_20, h_21, h_22, h_23, h_24, h_25, h_26]
                              · replace H := HS.cnd_f h_26 H
                                try simp -implicitDefEqProofs (maxSteps := 2000000) [-selQ_sel, h_1, h_2, h_3, h_4, h_5, h_6, h_7, h_8, h_9, h_10, h_11, h_12, h_13, h_14, h_15, h_16, h_17, h_18, h_19, h_20, h_21, h_22, h_23, h_24, h_25, h_26]
                                have hr := (HS.some H).symm; subst hr
                                refine Hid.mk ⟨_, Wk.refl _, ?_⟩
                                try simp -implicitDefEqProofs (maxSteps := 2000000) [-selQ_sel, h_1, h_2, h_3, h_4, h_5, h_6, h_7, h_8, h_9, h_10, h_11, h_12, h_13, h_14, h_15, h_16, h_17, h_18, h_19, h_20, h_21, h_22, h_23, h_24, h_25, h_26]
                            · replace H := HS.cnd_f h_25 H
                              try simp -implicitDefEqProofs (maxSteps := 2000000) [-selQ_sel, h_1, h_2, h_3, h_4, h_5, h_6, h_7, h_8, h_9, h_10, h_11, h_12, h_13, h_14, h_15, h_16, h_17, h_18, h_19, h_20, h_21, h_22, h_23, h_24, h_25]
                              have hr := (HS.some H).symm; subst hr
                              refine Hid.mk ⟨_, Wk.refl _, ?_⟩
                              try simp -implicitDefEqProofs (maxSteps := 2000000) [-selQ_sel, h_1, h_2, h_3, h_4, h_5, h_6, h_7, h_8, h_9, h_10, h_11, h_12, h_13, h_14, h_15, h_16, h_17, h_18, h_19, h_20, h_21, h_22, h_23, h_24, h_25]
                          · replace H := HS.cnd_f h_24 H
                            try simp -implicitDefEqProofs (maxSteps := 2000000) [-selQ_sel, h_1, h_2, h_3, h_4, h_5, h_6, h_7, h_8, h_9, h_10, h_11, h_12, h_13, h_14, h_15, h_16, h_17, h_18, h_19, h_20, h_21, h_22, h_23, h_24]
                            have hr := (HS.some H).symm; subst hr
                            refine Hid.mk ⟨_, Wk.refl _, ?_⟩
                            try simp -implicitDefEqProofs (maxSteps := 2000000) [-selQ_sel, h_1, h_2, h_3, h_4, h_5, h_6, h_7, h_8, h_9, h_10, h_11, h_12, h_13, h_14, h_15, h_16, h_17, h_18, h_19, h_20, h_21, h_22, h_23, h_24]
                        · replace H := HS.cnd_f h_22 H
                          try simp -implicitDefEqProofs (maxSteps := 2000000) [-selQ_sel, h_1, h_2, h_3, h_4, h_5, h_6, h_7, h_8, h_9, h_10, h_11, h_12, h_13, h_14, h_15, h_16, h_17, h_18, h_19, h_20, h_21, h_22]
                          have hr := (HS.some H).symm; subst hr
                          refine Hid.mk ⟨_, Wk.refl _, ?_⟩
                          try simp -implicitDefEqProofs (maxSteps := 2000000) [-selQ_sel, h_1, h_2, h_3, h_4, h_5, h_6, h_7, h_8, h_9, h_10, h_11, h_12, h_13, h_14, h_15, h_16, h_17, h_18, h_19, h_20, h_21, h_22]
                      · replace H := HS.cnd_f h_20 H
                        try simp -implicitDefEqProofs (maxSteps := 2000000) [-selQ_sel, h_1, h_2, h_3, h_4, h_5, h_6, h_7, h_8, h_9, h_10, h_11, h_12, h_13, h_14, h_15, h_16, h_17, h_18, h_19, h_20]
                        obtain ⟨v12, h_27, H⟩ := HS.bnd H
                        try simp -implicitDefEqProofs (maxSteps := 2000000) [-selQ_sel, h_1, h_2, h_3, h_4, h_5, h_6, h_7, h_8, h_9, h_10, h_11, h_12, h_13, h_14, h_15, h_16, h_17, h_18, h_19, h_20, h_27]
                        have hr := (HS.some H).symm; subst hr
                        refine Hid.mk ⟨_, Wk.refl _, ?_⟩
                        try simp -implicitDefEqProofs (maxSteps := 2000000) [-selQ_sel, h_1, h_2, h_3, h_4, h_5, h_6, h_7, h_8, h_9, h_10, h_11, h_12, h_13, h_14, h_15, h_16, h_17, h_18, h_19, h_20, h_27]
                    · replace H := HS.cnd_f h_19 H
                      try simp -implicitDefEqProofs (maxSteps := 2000000) [-selQ_sel, h_1, h_2, h_3, h_4, h_5, h_6, h_7, h_8, h_9, h_10, h_11, h_12, h_13, h_14, h_15, h_16, h_17, h_18, h_19]
                      have hr := (HS.some H).symm; subst hr
                      refine Hid.mk ⟨_, Wk.refl _, ?_⟩
                      try simp -implicitDefEqProofs (maxSteps := 2000000) [-selQ_sel, h_1, h_2, h_3, h_4, h_5, h_6, h_7, h_8, h_9, h_10, h_11, h_12, h_13, h_14, h_15, h_16, h_17, h_18, h_19]
                  · replace H := HS.cnd_f h_17 H
                    try simp -implicitDefEqProofs (maxSteps := 2000000) [-selQ_sel, h_1, h_2, h_3, h_4, h_5, h_6, h_7, h_8, h_9, h_10, h_11, h_12, h_13, h_14, h_15, h_16, h_17]
                    have hr := (HS.some H).symm; subst hr
                    refine Hid.mk ⟨_, Wk.refl _, ?_⟩
                    try simp -implicitDefEqProofs (maxSteps := 2000000) [-selQ_sel, h_1, h_2, h_3, h_4, h_5, h_6, h_7, h_8, h_9, h_10, h_11, h_12, h_13, h_14, h_15, h_16, h_17]
                · replace H := HS.cnd_f h_15 H
                  try simp -implicitDefEqProofs (maxSteps := 2000000) [-selQ_sel, h_1, h_2, h_3, h_4, h_5, h_6, h_7, h_8, h_9, h_10, h_11, h_12, h_13, h_14, h_15]
                  have hr := (HS.some H).symm; subst hr
                  refine Hid.mk ⟨_, Wk.refl _, ?_⟩
                  try simp -implicitDefEqProofs (maxSteps := 2000000) [-selQ_sel, h_1, h_2, h_3, h_4, h_5, h_6, h_7, h_8, h_9, h_10, h_11, h_12, h_13, h_14, h_15]
              · replace H := HS.cnd_f h_13 H
                try simp -implicitDefEqProofs (maxSteps := 2000000) [-selQ_sel, h_1, h_2, h_3, h_4, h_5, h_6, h_7, h_8, h_9, h_10, h_11, h_12, h_13]
                have hr := (HS.some H).symm; subst hr
                refine Hid.mk ⟨_, Wk.refl _, ?_⟩
                try simp -implicitDefEqProofs (maxSteps := 2000000) [-selQ_sel, h_1, h_2, h_3, h_4, h_5, h_6, h_7, h_8, h_9, h_10, h_11, h_12, h_13]
            · replace H := HS.cnd_f h_11 H
              try simp -implicitDefEqProofs (maxSteps := 2000000) [-selQ_sel, h_1, h_2, h_3, h_4, h_5, h_6, h_7, h_8, h_9, h_10, h_11]
              have hr := (HS.some H).symm; subst hr
              refine Hid.mk ⟨_, Wk.refl _, ?_⟩
              try simp -implicitDefEqProofs (maxSteps := 2000000) [-selQ_sel, h_1, h_2, h_3, h_4, h_5, h_6, h_7, h_8, h_9, h_10, h_11]
          · replace H := HS.cnd_f h_9 H
            try simp -implicitDefEqProofs (maxSteps := 2000000) [-selQ_sel, h_1, h_2, h_3, h_4, h_5, h_6, h_7, h_8, h_9]
            have hr := (HS.some H).symm; subst hr
            refine Hid.mk ⟨_, Wk.refl _, ?_⟩
            try simp -implicitDefEqProofs (maxSteps := 2000000) [-selQ_sel, h_1, h_2, h_3, h_4, h_5, h_6, h_7, h_8, h_9]
        · replace H := HS.cnd_f h_7 H
          try simp -implicitDefEqProofs (maxSteps := 2000000) [-selQ_sel, h_1, h_2, h_3, h_4, h_5, h_6, h_7]
          have hr := (HS.some H).symm; subst hr
          refine Hid.mk ⟨_, Wk.refl _, ?_⟩
          try simp -implicitDefEqProofs (maxSteps := 2000000) [-selQ_sel, h_1, h_2, h_3, h_4, h_5, h_6, h_7]
    · replace H := HS.cnd_f h_4 H
      try simp -implicitDefEqProofs (maxSteps := 2000000) [-selQ_sel, h_1, h_2, h_3, h_4]
      have hr := (HS.some H).symm; subst hr
      refine Hid.mk ⟨_, Wk.refl _, ?_⟩
      try simp -implicitDefEqProofs (maxSteps := 2000000) [-selQ_sel, h_1, h_2, h_3, h_4]
  · replace H := HS.cnd_f h_2 H
    try simp -implicitDefEqProofs (maxSteps := 2000000) [-selQ_sel, h_1, h_2]
    have hr := (HS.some H).symm; subst hr
    refine Hid.mk ⟨_, Wk.refl _, ?_⟩
    try simp -implicitDefEqProofs (maxSteps := 2000000) [-selQ_sel, h_1, h_2]
theorem spec_l15Scene_ok0 (hm : Try.prog.follows .mixedOrders = true) (k_spec_l01Below : Sound Try.prog 42 spec_l01Below_x) (k_spec_l15Node : Sound Try.prog 41 spec_l15Node_x) (k_spec_DepthOf : Sound Try.prog 91 spec_DepthOf_x) (k_spec_l01Once : Sound Try.prog 40 spec_l01Once_x) : Sound Try.prog 71 spec_l15Scene_x := by
  refine xOf_sound fun q r h => ?_
  revert h; revert r; revert q; intro a0 r h
  refine fn_ok E0 hm Try.func71 rfl (by decide +kernel) (by rfl) fun Γ hn hk => ?_
  dsimp only [spec_l15Scene_e, spec_l15Scene_v]
  replace hn : Γ.n = 81 := hn
  replace hk : Γ.k = 1 := hk
  have H : HS (spec_l15Scene a0) r := h
  clear h; unfold spec_l15Scene at H
  try simp -implicitDefEqProofs at H
  refine Tr.of_vc (cl := tabC [(42, spec_l01Below_x), (41, spec_l15Node_x), (91, spec_DepthOf_x), (40, spec_l01Once_x)]) (E := E0) [] (tab_cons k_spec_l01Below (tab_cons k_spec_l15Node (tab_cons k_spec_DepthOf (tab_cons k_spec_l01Once tab_nil)))) hm (by rw [hn]; decide +kernel) ?_
  try simp -implicitDefEqProofs +decide (maxSteps := 2000000) [-selQ_sel, hokQ_of]
  obtain ⟨q, h_1, H⟩ := HS.bnd H
  refine Hid.mk (Tr.weak (s' := spec_l15Scene_l1_S (0, a0.b, a0.i, a0.h, [])) (Wk.ofk [0, 1, 2, 3] hk (by rfl) (by simp -implicitDefEqProofs [spec_l15Scene_l1_S]) (by simp -implicitDefEqProofs [spec_l15Scene_l1_S])) ?_)
  refine wp_loop_of (S := spec_l15Scene_l1_S) (f := spec_l15Scene_l1) (xt := spec_l15Scene_l1_X) ?_ ?_ h_1 ?_
  · intro q; rcases q with ⟨y38, y39, y40, y41⟩ <;> simp [spec_l15Scene_l1_X]
  · clear H h_1 q
    rintro ⟨x7, x8, x9, x10, x11⟩ o R hf hR
    have H : HS (spec_l15Scene_l1 (x7, x8, x9, x10, x11)) o := hf
    clear hf; unfold spec_l15Scene_l1 at H
    try simp -implicitDefEqProofs at H
    refine Tr.of_vc (cl := tabC [(42, spec_l01Below_x), (41, spec_l15Node_x), (91, spec_DepthOf_x), (40, spec_l01Once_x)]) (E := E0) [] (tab_cons k_spec_l01Below (tab_cons k_spec_l15Node (tab_cons k_spec_DepthOf (tab_cons k_spec_l01Once tab_nil)))) hm (by rw [hn]; decide +kernel) ?_
    try simp -implicitDefEqProofs +decide (maxSteps := 2000000) [-selQ_sel, hokQ_of, spec_l15Scene_l1_S]
    obtain ⟨⟨w13, w14⟩, h_2, H⟩ := HS.bnd H
    dsimp only at H
    have k_3 := spec_l01Below_k 6 ((TL01Cur.mk x8 x9 x10).b) ((TL01Cur.mk x8 x9 x10).i) ((TL01Cur.mk x8 x9 x10).h)
    simp -implicitDefEqProofs [-spec_l01Below_k] at k_3
    try simp -implicitDefEqProofs +decide (maxSteps := 2000000) [-selQ_sel, hokQ_of, h_2, k_3]
    refine Hid.brV (fun h_4 => ?_) (fun h_4 => ?_)
    · replace H := HS.cnd_t h_4 H
      try simp -implicitDefEqProofs +decide (maxSteps := 2000000) [-selQ_sel, hokQ_of, h_2, k_3, h_4]
      have hr := (HS.some H).symm; subst hr
      exact Hid.mk ⟨(spec_l15Scene_l1_X (w14.b, w14.i, w14.h, x11)).2, Wk.ofk [0, 1, 2, 3] hk (by rfl) (by simp -implicitDefEqProofs [spec_l15Scene_l1_X, h_2, k_3, h_4]) (by simp -implicitDefEqProofs [spec_l15Scene_l1_X, h_2, k_3, h_4]), hR⟩
    · replace H := HS.cnd_f h_4 H
      try simp -implicitDefEqProofs +decide (maxSteps := 2000000) [-selQ_sel, hokQ_of, h_2, k_3, h_4]
      obtain ⟨q, h_5, H⟩ := HS.bnd H
      refine Hid.mk (Tr.weak (s' := (spec_l15Scene_l0_S x7 x11) (0, 0, w14.b, w14.i, w14.h)) (Wk.ofk [0, 1, 2, 3] hk (by rfl) (by simp -implicitDefEqProofs [spec_l15Scene_l0_S, h_2, k_3, h_4]) (by simp -implicitDefEqProofs [spec_l15Scene_l0_S, h_2, k_3, h_4])) ?_)
      refine wp_loop_of (S := (spec_l15Scene_l0_S x7 x11)) (f := (spec_l15Scene_l0 x7 x11)) (xt := (spec_l15Scene_l0_X x7 x11)) ?_ ?_ h_5 ?_
      · intro q; rcases q with ⟨y30, y31, y32, y33⟩ <;> simp [spec_l15Scene_l0_X]
      · clear H h_5 q
        rintro ⟨x20, x21, x22, x23, x24⟩ o R hf hR
        have H : HS (spec_l15Scene_l0 x7 x11 (x20, x21, x22, x23, x24)) o := hf
        clear hf; unfold spec_l15Scene_l0 at H
        try simp -implicitDefEqProofs at H
        refine Tr.of_vc (cl := tabC [(42, spec_l01Below_x), (41, spec_l15Node_x), (91, spec_DepthOf_x), (40, spec_l01Once_x)]) (E := E0) [] (tab_cons k_spec_l01Below (tab_cons k_spec_l15Node (tab_cons k_spec_DepthOf (tab_cons k_spec_l01Once tab_nil)))) hm (by rw [hn]; decide +kernel) ?_
        try simp -implicitDefEqProofs +decide (maxSteps := 2000000) [-selQ_sel, hokQ_of, spec_l15Scene_l0_S]
        refine Hid.brV (fun h_6 => ?_) (fun h_6 => ?_)
        · replace H := HS.cnd_t h_6 H
          try simp -implicitDefEqProofs +decide (maxSteps := 2000000) [-selQ_sel, hokQ_of, h_6]
          have hr := (HS.some H).symm; subst hr
          exact Hid.mk ⟨(spec_l15Scene_l0_X x7 x11 (x22, x23, x24, x21)).2, Wk.ofk [0, 1, 2, 3] hk (by rfl) (by simp -implicitDefEqProofs [spec_l15Scene_l0_X, h_6]) (by simp -implicitDefEqProofs [spec_l15Scene_l0_X, h_6]), hR⟩
        · replace H := HS.cnd_f h_6 H
          try simp -implicitDefEqProofs +decide (maxSteps := 2000000) [-selQ_sel, hokQ_of, h_6]
          obtain ⟨v25, h_7, H⟩ := HS.bnd H
          have g_8 := idx_get h_7
          try simp -implicitDefEqProofs +decide (maxSteps := 2000000) [-selQ_sel, hokQ_of, h_6, h_7, g_8]
          refine Hid.selQ (fun h_9 => ?_) (fun h_9 => ?_)
          · replace H := HS.cnd_t h_9 H
            try simp -implicitDefEqProofs +decide (maxSteps := 2000000) [-selQ_sel, hokQ_of, h_6, h_7, g_8, h_9]
            obtain ⟨v26, h_10, H⟩ := HS.bnd H
            have k_11 := spec_DepthOf_k ((TScene.mk x11).nodes) v25.id
            simp -implicitDefEqProofs [-spec_DepthOf_k] at k_11
            try simp -implicitDefEqProofs +decide (maxSteps := 2000000) [-selQ_sel, hokQ_of, h_6, h_7, g_8, h_9, h_10, k_11]
            refine Hid.selQ (fun h_12 => ?_) (fun h_12 => ?_)
            · replace H := HS.cnd_t h_12 H
              try simp -implicitDefEqProofs +decide (maxSteps := 2000000) [-selQ_sel, hokQ_of, h_6, h_7, g_8, h_9, h_10, k_11, h_12]
              have hr := (HS.some H).symm; subst hr
              exact Hid.mk ⟨spec_l15Scene_l0_S x7 x11 ((IntKind.i64.wrap (x20 + 1)), x21, x22, x23, x24), Wk.ofk [0, 1, 2, 3] hk (by rfl) (by simp -implicitDefEqProofs [spec_l15Scene_l0_S, h_6, h_7, g_8, h_9, h_10, k_11, h_12]) (by simp -implicitDefEqProofs [spec_l15Scene_l0_S, h_6, h_7, g_8, h_9, h_10, k_11, h_12]), hR⟩
            · replace H := HS.cnd_f h_12 H
              try simp -implicitDefEqProofs +decide (maxSteps := 2000000) [-selQ_sel, hokQ_of, h_6, h_7, g_8, h_9, h_10, k_11, h_12]
              obtain ⟨⟨w28, w29⟩, h_13, H⟩ := HS.bnd H
              dsimp only at H
              have k_14 := spec_l01Once_k 2 ((TL01Cur.mk x22 x23 x24).b) ((TL01Cur.mk x22 x23 x24).i) ((TL01Cur.mk x22 x23 x24).h)
              simp -implicitDefEqProofs [-spec_l01Once_k] at k_14
              try simp -implicitDefEqProofs +decide (maxSteps := 2000000) [-selQ_sel, hokQ_of, h_6, h_7, g_8, h_9, h_10, k_11, h_12, h_13, k_14]
              refine Hid.brV (fun h_15 => ?_) (fun h_15 => ?_)
              · replace H := HS.cnd_t h_15 H
                try simp -implicitDefEqProofs +decide (maxSteps := 2000000) [-selQ_sel, hokQ_of, h_6, h_7, g_8, h_9, h_10, k_11, h_12, h_13, k_14, h_15]
                have hr := (HS.some H).symm; subst hr
                exact Hid.mk ⟨spec_l15Scene_l0_S x7 x11 ((IntKind.i64.wrap (x20 + 1)), v25.id, w29.b, w29.i, w29.h), Wk.ofk [0, 1, 2, 3] hk (by rfl) (by simp -implicitDefEqProofs [spec_l15Scene_l0_S, h_6, h_7, g_8, h_9, h_10, k_11, h_12, h_13, k_14, h_15]) (by simp -implicitDefEqProofs [spec_l15Scene_l0_S, h_6, h_7, g_8, h_9, h_10, k_11, h_12, h_13, k_14, h_15]), hR⟩
              · replace H := HS.cnd_f h_15 H
                try simp -implicitDefEqProofs +decide (maxSteps := 2000000) [-selQ_sel, hokQ_of, h_6, h_7, g_8, h_9, h_10, k_11, h_12, h_13, k_14, h_15]
                have hr := (HS.some H).symm; subst hr
                exact Hid.mk ⟨spec_l15Scene_l0_S x7 x11 ((IntKind.i64.wrap (x20 + 1)), x21, w29.b, w29.i, w29.h), Wk.ofk [0, 1, 2, 3] hk (by rfl) (by simp -implicitDefEqProofs [spec_l15Scene_l0_S, h_6, h_7, g_8, h_9, h_10, k_11, h_12, h_13, k_14, h_15]) (by simp -implicitDefEqProofs [spec_l15Scene_l0_S, h_6, h_7, g_8, h_9, h_10, k_11, h_12, h_13, k_14, h_15]), hR⟩
          · replace H := HS.cnd_f h_9 H
            try simp -implicitDefEqProofs +decide (maxSteps := 2000000) [-selQ_sel, hokQ_of, h_6, h_7, g_8, h_9]
            have hr := (HS.some H).symm; subst hr
            exact Hid.mk ⟨spec_l15Scene_l0_S x7 x11 ((IntKind.i64.wrap (x20 + 1)), x21, x22, x23, x24), Wk.ofk [0, 1, 2, 3] hk (by rfl) (by simp -implicitDefEqProofs [spec_l15Scene_l0_S, h_6, h_7, g_8, h_9]) (by simp -implicitDefEqProofs [spec_l15Scene_l0_S, h_6, h_7, g_8, h_9]), hR⟩
      · obtain ⟨y30, y31, y32, y33⟩ := q
        try dsimp only at H
        try simp -implicitDefEqProofs +decide (maxSteps := 2000000) [-selQ_sel, hokQ_of, h_2, k_3, h_4, spec_l15Scene_l0_X]
        obtain ⟨⟨w35, w36⟩, h_16, H⟩ := HS.bnd H
        dsimp only at H
        have k_17 := spec_l15Node_k (IntKind.i64.wrap (x7 + 1)) y33 ((TL01Cur.mk y30 y31 y32).b) ((TL01Cur.mk y30 y31 y32).i) ((TL01Cur.mk y30 y31 y32).h)
        simp -implicitDefEqProofs [-spec_l15Node_k] at k_17
        try simp -implicitDefEqProofs +decide (maxSteps := 2000000) [-selQ_sel, hokQ_of, h_2, k_3, h_4, h_16, k_17]
        obtain ⟨h_18, H⟩ := HS.chkP H
        try simp -implicitDefEqProofs +decide (maxSteps := 2000000) [-selQ_sel, hokQ_of, h_2, k_3, h_4, h_16, k_17, h_18]
        obtain ⟨l37, h_19, H⟩ := HS.nam H
        have m_20 := congrArg (List.map eNode) h_19
        have q_21 := congrArg List.length h_19
        simp -implicitDefEqProofs at m_20 q_21
        try simp only [q_21] at m_20
        try simp only [q_21] at h_18
        try simp -implicitDefEqProofs +decide (maxSteps := 2000000) [-selQ_sel, hokQ_of, h_2, k_3, h_4, h_16, k_17, h_18, m_20, q_21]
        have hr := (HS.some H).symm; subst hr
        exact Hid.mk ⟨spec_l15Scene_l1_S ((IntKind.i64.wrap (x7 + 1)), w36.b, w36.i, w36.h, l37), Wk.ofk [0, 1, 2, 3] hk (by rfl) (by simp -implicitDefEqProofs [spec_l15Scene_l1_S, h_2, k_3, h_4, h_16, k_17, h_18, m_20, q_21]) (by simp -implicitDefEqProofs [spec_l15Scene_l1_S, h_2, k_3, h_4, h_16, k_17, h_18, m_20, q_21]), hR⟩
  · obtain ⟨y38, y39, y40, y41⟩ := q
    try dsimp only at H
    try simp -implicitDefEqProofs +decide (maxSteps := 2000000) [-selQ_sel, hokQ_of, spec_l15Scene_l1_X]
    refine Hid.selQ (fun h_22 => ?_) (fun h_22 => ?_)
    · replace H := HS.cnd_t h_22 H
      try simp -implicitDefEqProofs +decide (maxSteps := 2000000) [-selQ_sel, hokQ_of, h_22]
      have hr := (HS.some H).symm; subst hr
      refine Hid.mk ⟨_, Wk.refl _, ?_⟩
      try simp -implicitDefEqProofs +decide (maxSteps := 2000000) [-selQ_sel, hokQ_of, h_22]
    · replace H := HS.cnd_f h_22 H
      try simp -implicitDefEqProofs +decide (maxSteps := 2000000) [-selQ_sel, hokQ_of, h_22]
      obtain ⟨⟨w43, w44⟩, h_23, H⟩ := HS.bnd H
      dsimp only at H
      have k_24 := spec_l01Once_k 3 ((TL01Cur.mk y38 y39 y40).b) ((TL01Cur.mk y38 y39 y40).i) ((TL01Cur.mk y38 y39 y40).h)
      simp -implicitDefEqProofs [-spec_l01Once_k] at k_24
      try simp -implicitDefEqProofs +decide (maxSteps := 2000000) [-selQ_sel, hokQ_of, h_22, h_23, k_24]
      refine Hid.brV (fun h_25 => ?_) (fun h_25 => ?_)
      · replace H := HS.cnd_t h_25 H
        try simp -implicitDefEqProofs +decide (maxSteps := 2000000) [-selQ_sel, hokQ_of, h_22, h_23, k_24, h_25]
        obtain ⟨v45, h_26, H⟩ := HS.bnd H
        have g_27 := idx_get h_26
        simp only [Int.reduceToNat] at g_27
        try simp -implicitDefEqProofs +decide (maxSteps := 2000000) [-selQ_sel, hokQ_of, h_22, h_23, k_24, h_25, h_26, g_27]
        obtain ⟨v46, h_28, H⟩ := HS.bnd H
        have s_29 := (slc_spec h_28).1
        have s_30 := slc_fit h_28
        have s_31 := slc_map (e := eNode) h_28
        have s_32 := (slc_spec h_28).2.1
        simp -implicitDefEqProofs at s_29 s_30 s_31 s_32
        try simp only [s_32] at s_30 s_31
        try simp -implicitDefEqProofs +decide (maxSteps := 2000000) [-selQ_sel, hokQ_of, h_22, h_23, k_24, h_25, h_26, g_27, h_28, s_29, s_30, s_31, s_32]
        obtain ⟨h_33, H⟩ := HS.chkP H
        try simp -implicitDefEqProofs +decide (maxSteps := 2000000) [-selQ_sel, hokQ_of, h_22, h_23, k_24, h_25, h_26, g_27, h_28, s_29, s_30, s_31, s_32, h_33]
        obtain ⟨l47, h_34, H⟩ := HS.nam H
        have m_35 := congrArg (List.map eNode) h_34
        have q_36 := congrArg List.length h_34
        simp -implicitDefEqProofs at m_35 q_36
        try simp only [q_36] at m_35
        try simp only [q_36] at h_33
        try simp only [q_36] at s_29
        try simp only [q_36] at s_30
        try simp only [q_36] at s_31
        try simp only [q_36] at s_32
        try simp -implicitDefEqProofs +decide (maxSteps := 2000000) [-selQ_sel, hokQ_of, h_22, h_23, k_24, h_25, h_26, g_27, h_28, s_29, s_30, s_31, s_32, h_33, m_35, q_36]
        obtain ⟨h_37, H⟩ := HS.chkP H
        try simp -implicitDefEqProofs +decide (maxSteps := 2000000) [-selQ_sel, hokQ_of, h_22, h_23, k_24, h_25, h_26, g_27, h_28, s_29, s_30, s_31, s_32, h_33, m_35, q_36, h_37]
        obtain ⟨l48, h_38, H⟩ := HS.nam H
        have m_39 := congrArg (List.map eNode) h_38
        have q_40 := congrArg List.length h_38
        simp -implicitDefEqProofs at m_39 q_40
        try simp only [q_40] at m_39
        try simp only [q_40] at h_37
        try simp only [q_40] at s_29
        try simp only [q_40] at s_30
        try simp only [q_40] at s_31
        try simp only [q_40] at s_32
        try simp -implicitDefEqProofs +decide (maxSteps := 2000000) [-selQ_sel, hokQ_of, h_22, h_23, k_24, h_25, h_26, g_27, h_28, s_29, s_30, s_31, s_32, h_33, m_35, q_36, h_37, m_39, q_40]
        have hr := (HS.some H).symm; subst hr
        refine Hid.mk ⟨_, Wk.refl _, ?_⟩
        try simp -implicitDefEqProofs +decide (maxSteps := 2000000) [-selQ_sel, hokQ_of, h_22, h_23, k_24, h_25, h_26, g_27, h_28, s_29, s_30, s_31, s_32, h_33, m_35, q_36, h_37, m_39, q_40]
      · replace H := HS.cnd_f h_25 H
        try simp -implicitDefEqProofs +decide (maxSteps := 2000000) [-selQ_sel, hokQ_of, h_22, h_23, k_24, h_25]
        have hr := (HS.some H).symm; subst hr
        refine Hid.mk ⟨_, Wk.refl _, ?_⟩
        try simp -implicitDefEqProofs +decide (maxSteps := 2000000) [-selQ_sel, hokQ_of, h_22, h_23, k_24, h_25]
theorem impl_PathOk_ok0 (hm : Try.prog.follows .mixedOrders = true) (k_impl_pointsOk : Sound Try.prog 112 impl_pointsOk_x) (k_impl_NeedOf : Sound Try.prog 113 impl_NeedOf_x) : Sound Try.prog 83 impl_PathOk_x := by
  refine xOf_sound fun q r h => ?_
  revert h; revert r; revert q; intro a0 r h
  refine fn_ok E0 hm Try.func83 rfl (by decide +kernel) (by rfl) fun Γ hn hk => ?_
  dsimp only [impl_PathOk_e, impl_PathOk_v]
  replace hn : Γ.n = 63 := hn
  replace hk : Γ.k = 0 := hk
  have H : HS (impl_PathOk a0) r := h
  clear h; unfold impl_PathOk at H
  try simp -implicitDefEqProofs at H
  refine Tr.of_vc (cl := tabC [(112, impl_pointsOk_x), (113, impl_NeedOf_x)]) (E := E0) [] (tab_cons k_impl_pointsOk (tab_cons k_impl_NeedOf tab_nil)) hm (by rw [hn]; decide +kernel) ?_
  try simp -implicitDefEqProofs (maxSteps := 2000000) [-selQ_sel]
  refine Hid.selQ (fun h_1 => ?_) (fun h_1 => ?_)
  · replace H := HS.cnd_t h_1 H
    try simp -implicitDefEqProofs (maxSteps := 2000000) [-selQ_sel, h_1]
    refine Hid.selQ (fun h_2 => ?_) (fun h_2 => ?_)
    · replace H := HS.cnd_t h_2 H
      try simp -implicitDefEqProofs (maxSteps := 2000000) [-selQ_sel, h_1, h_2]
      obtain ⟨v1, h_3, H⟩ := HS.bnd H
      try simp -implicitDefEqProofs (maxSteps := 2000000) [-selQ_sel, h_1, h_2, h_3]
      refine Hid.brV (fun h_4 => ?_) (fun h_4 => ?_)
      · replace H := HS.cnd_t h_4 H
        try simp -implicitDefEqProofs (maxSteps := 2000000) [-selQ_sel, h_1, h_2, h_3, h_4]
        obtain ⟨q, h_5, H⟩ := HS.bnd H
        refine Hid.mk (Tr.weak (s' := (impl_PathOk_l0_S a0) (0, 0)) (Wk.ofk [0] hk (by rfl) (by simp -implicitDefEqProofs [impl_PathOk_l0_S, h_1, h_2, h_3, h_4]) (by simp -implicitDefEqProofs [impl_PathOk_l0_S, h_1, h_2, h_3, h_4])) ?_)
        refine wp_loop_of (S := (impl_PathOk_l0_S a0)) (f := (impl_PathOk_l0 a0)) (xt := (impl_PathOk_l0_X a0)) ?_ ?_ h_5 ?_
        · intro q; rcases q with y9 | ⟨⟩ <;> simp [impl_PathOk_l0_X]
        · clear H h_5 q
          rintro ⟨x4, x5⟩ o R hf hR
          have H : HS (impl_PathOk_l0 a0 (x4, x5)) o := hf
          clear hf; unfold impl_PathOk_l0 at H
          try simp -implicitDefEqProofs at H
          refine Tr.of_vc (cl := tabC [(112, impl_pointsOk_x), (113, impl_NeedOf_x)]) (E := E0) [] (tab_cons k_impl_pointsOk (tab_cons k_impl_NeedOf tab_nil)) hm (by rw [hn]; decide +kernel) ?_
          try simp -implicitDefEqProofs (maxSteps := 2000000) [-selQ_sel, impl_PathOk_l0_S]
          refine Hid.brV (fun h_6 => ?_) (fun h_6 => ?_)
          · replace H := HS.cnd_t h_6 H
            try simp -implicitDefEqProofs (maxSteps := 2000000) [-selQ_sel, h_6]
            have hr := (HS.some H).symm; subst hr
            exact Hid.mk ⟨(impl_PathOk_l0_X a0 (.inl x4)).2, Wk.ofk [0] hk (by rfl) (by simp -implicitDefEqProofs [impl_PathOk_l0_X, h_6]) (by simp -implicitDefEqProofs [impl_PathOk_l0_X, h_6]), hR⟩
          · replace H := HS.cnd_f h_6 H
            try simp -implicitDefEqProofs (maxSteps := 2000000) [-selQ_sel, h_6]
            obtain ⟨v6, h_7, H⟩ := HS.bnd H
            try simp -implicitDefEqProofs (maxSteps := 2000000) [-selQ_sel, h_6, h_7]
            obtain ⟨v7, h_8, H⟩ := HS.bnd H
            try simp -implicitDefEqProofs (maxSteps := 2000000) [-selQ_sel, h_6, h_7, h_8]
            refine Hid.selQ (fun h_9 => ?_) (fun h_9 => ?_)
            · replace H := HS.cnd_t h_9 H
              try simp -implicitDefEqProofs (maxSteps := 2000000) [-selQ_sel, h_6, h_7, h_8, h_9]
              refine Hid.selQ (fun h_10 => ?_) (fun h_10 => ?_)
              · replace H := HS.cnd_t h_10 H
                try simp -implicitDefEqProofs (maxSteps := 2000000) [-selQ_sel, h_6, h_7, h_8, h_9, h_10]
                refine Hid.brV (fun h_11 => ?_) (fun h_11 => ?_)
                · replace H := HS.cnd_t h_11 H
                  try simp -implicitDefEqProofs (maxSteps := 2000000) [-selQ_sel, h_6, h_7, h_8, h_9, h_10, h_11]
                  have hr := (HS.some H).symm; subst hr
                  exact Hid.mk ⟨impl_PathOk_l0_S a0 ((IntKind.i64.wrap (x4 + v7)), (IntKind.i64.wrap (x5 + 1))), Wk.ofk [0] hk (by rfl) (by simp -implicitDefEqProofs [impl_PathOk_l0_S, h_6, h_7, h_8, h_9, h_10, h_11]) (by simp -implicitDefEqProofs [impl_PathOk_l0_S, h_6, h_7, h_8, h_9, h_10, h_11]), hR⟩
                · replace H := HS.cnd_f h_11 H
                  try simp -implicitDefEqProofs (maxSteps := 2000000) [-selQ_sel, h_6, h_7, h_8, h_9, h_10, h_11]
                  have hr := (HS.some H).symm; subst hr
                  exact Hid.mk ⟨(impl_PathOk_l0_X a0 (.inr ())).2, Wk.ofk [] hk (by rfl) (by simp -implicitDefEqProofs [impl_PathOk_l0_X, h_6, h_7, h_8, h_9, h_10, h_11]) (by simp -implicitDefEqProofs [impl_PathOk_l0_X, h_6, h_7, h_8, h_9, h_10, h_11]), hR⟩
              · replace H := HS.cnd_f h_10 H
                try simp -implicitDefEqProofs (maxSteps := 2000000) [-selQ_sel, h_6, h_7, h_8, h_9, h_10]
                have hr := (HS.some H).symm; subst hr
                exact Hid.mk ⟨(impl_PathOk_l0_X a0 (.inr ())).2, Wk.ofk [] hk (by rfl) (by simp -implicitDefEqProofs [impl_PathOk_l0_X, h_6, h_7, h_8, h_9, h_10]) (by simp -implicitDefEqProofs [impl_PathOk_l0_X, h_6, h_7, h_8, h_9, h_10]), hR⟩
            · replace H := HS.cnd_f h_9 H
              try simp -implicitDefEqProofs (maxSteps := 2000000) [-selQ_sel, h_6, h_7, h_8, h_9]
              obtain ⟨v8, h_12, H⟩ := HS.bnd H
              try simp -implicitDefEqProofs (maxSteps := 2000000) [-selQ_sel, h_6, h_7, h_8, h_9, h_12]
              refine Hid.selQ (fun h_13 => ?_) (fun h_13 => ?_)
              · replace H := HS.cnd_t h_13 H
                try simp -implicitDefEqProofs (maxSteps := 2000000) [-selQ_sel, h_6, h_7, h_8, h_9, h_12, h_13]
                refine Hid.selQ (fun h_14 => ?_) (fun h_14 => ?_)
                · replace H := HS.cnd_t h_14 H
                  try simp -implicitDefEqProofs (maxSteps := 2000000) [-selQ_sel, h_6, h_7, h_8, h_9, h_12, h_13, h_14]
                  refine Hid.brV (fun h_15 => ?_) (fun h_15 => ?_)
                  · replace H := HS.cnd_t h_15 H
                    try simp -implicitDefEqProofs (maxSteps := 2000000) [-selQ_sel, h_6, h_7, h_8, h_9, h_12, h_13, h_14, h_15]
                    have hr := (HS.some H).symm; subst hr
                    exact Hid.mk ⟨impl_PathOk_l0_S a0 ((IntKind.i64.wrap (x4 + v7)), (IntKind.i64.wrap (x5 + 1))), Wk.ofk [0] hk (by rfl) (by simp -implicitDefEqProofs [impl_PathOk_l0_S, h_6, h_7, h_8, h_9, h_12, h_13, h_14, h_15]) (by simp -implicitDefEqProofs [impl_PathOk_l0_S, h_6, h_7, h_8, h_9, h_12, h_13, h_14, h_15]), hR⟩
                  · replace H := HS.cnd_f h_15 H
                    try simp -implicitDefEqProofs (maxSteps := 2000000) [-selQ_sel, h_6, h_7, h_8, h_9, h_12, h_13, h_14, h_15]
                    have hr := (HS.some H).symm; subst hr
                    exact Hid.mk ⟨(impl_PathOk_l0_X a0 (.inr ())).2, Wk.ofk [] hk (by rfl) (by simp -implicitDefEqProofs [impl_PathOk_l0_X, h_6, h_7, h_8, h_9, h_12, h_13, h_14, h_15]) (by simp -implicitDefEqProofs [impl_PathOk_l0_X, h_6, h_7, h_8, h_9, h_12, h_13, h_14, h_15]), hR⟩
                · replace H := HS.cnd_f h_14 H
                  try simp -implicitDefEqProofs (maxSteps := 2000000) [-selQ_sel, h_6, h_7, h_8, h_9, h_12, h_13, h_14]
                  have hr := (HS.some H).symm; subst hr
                  exact Hid.mk ⟨impl_PathOk_l0_S a0 ((IntKind.i64.wrap (x4 + v7)), (IntKind.i64.wrap (x5 + 1))), Wk.ofk [0] hk (by rfl) (by simp -implicitDefEqProofs [impl_PathOk_l0_S, h_6, h_7, h_8, h_9, h_12, h_13, h_14]) (by simp -implicitDefEqProofs [impl_PathOk_l0_S, h_6, h_7, h_8, h_9, h_12, h_13, h_14]), hR⟩
              · replace H := HS.cnd_f h_13 H
                try simp -implicitDefEqProofs (maxSteps := 2000000) [-selQ_sel, h_6, h_7, h_8, h_9, h_12, h_13]
                have hr := (HS.some H).symm; subst hr
                exact Hid.mk ⟨(impl_PathOk_l0_X a0 (.inr ())).2, Wk.ofk [] hk (by rfl) (by simp -implicitDefEqProofs [impl_PathOk_l0_X, h_6, h_7, h_8, h_9, h_12, h_13]) (by simp -implicitDefEqProofs [impl_PathOk_l0_X, h_6, h_7, h_8, h_9, h_12, h_13]), hR⟩
        · rcases q with y9 | ⟨⟩
          · dsimp only at H
            try simp -implicitDefEqProofs (maxSteps := 2000000) [-selQ_sel, h_1, h_2, h_3, h_4, impl_PathOk_l0_X]
            have hr := (HS.some H).symm; subst hr
            refine Hid.mk ⟨_, Wk.refl _, ?_⟩
            try simp -implicitDefEqProofs (maxSteps := 2000000) [-selQ_sel, h_1, h_2, h_3, h_4]
          · dsimp only at H
            try simp -implicitDefEqProofs (maxSteps := 2000000) [-selQ_sel, h_1, h_2, h_3, h_4, impl_PathOk_l0_X]
            have hr := (HS.some H).symm; subst hr
            refine Hid.mk ⟨_, Wk.refl _, ?_⟩
            try simp -implicitDefEqProofs (maxSteps := 2000000) [-selQ_sel, h_1, h_2, h_3, h_4]
      · replace H := HS.cnd_f h_4 H
        try simp -implicitDefEqProofs (maxSteps := 2000000) [-selQ_sel, h_1, h_2, h_3, h_4]
        have hr := (HS.some H).symm; subst hr
        refine Hid.mk ⟨_, Wk.refl _, ?_⟩
        try simp -implicitDefEqProofs (maxSteps := 2000000) [-selQ_sel, h_1, h_2, h_3, h_4]
    · replace H := HS.cnd_f h_2 H
      try simp -implicitDefEqProofs (maxSteps := 2000000) [-selQ_sel, h_1, h_2]
      have hr := (HS.some H).symm; subst hr
      refine Hid.mk ⟨_, Wk.refl _, ?_⟩
      try simp -implicitDefEqProofs (maxSteps := 2000000) [-selQ_sel, h_1, h_2]
  · replace H := HS.cnd_f h_1 H
    try simp -implicitDefEqProofs (maxSteps := 2000000) [-selQ_sel, h_1]
    have hr := (HS.some H).symm; subst hr
    refine Hid.mk ⟨_, Wk.refl _, ?_⟩
    try simp -implicitDefEqProofs (maxSteps := 2000000) [-selQ_sel, h_1]
theorem laws_sameNode_ok0 (hm : Try.prog.follows .mixedOrders = true) (k_laws_samePath : Sound Try.prog 53 laws_samePath_x) (k_laws_sameInts : Sound Try.prog 54 laws_sameInts_x) : Sound Try.prog 16 laws_sameNode_x := by
  refine xOf_sound fun q r h => ?_
  obtain ⟨a0, a1⟩ := q
  refine fn_ok E0 hm Try.func16 rfl (by decide +kernel) (by rfl) fun Γ hn hk => ?_
  dsimp only [laws_sameNode_e, laws_sameNode_v]
  replace hn : Γ.n = 87 := hn
  replace hk : Γ.k = 0 := hk
  have H : HS (laws_sameNode a0 a1) r := h
  clear h; unfold laws_sameNode at H
  try simp -implicitDefEqProofs at H
  refine Tr.of_vc (cl := tabC [(53, laws_samePath_x), (54, laws_sameInts_x)]) (E := E0) [] (tab_cons k_laws_samePath (tab_cons k_laws_sameInts tab_nil)) hm (by rw [hn]; decide +kernel) ?_
  try simp -implicitDefEqProofs (maxSteps := 2000000) [-selQ_sel]
  refine Hid.selQ (fun h_1 => ?_) (fun h_1 => ?_)
  · replace H := HS.cnd_t h_1 H
    try simp -implicitDefEqProofs (maxSteps := 2000000) [-selQ_sel, h_1]
    refine Hid.selQ (fun h_2 => ?_) (fun h_2 => ?_)
    · replace H := HS.cnd_t h_2 H
      try simp -implicitDefEqProofs (maxSteps := 2000000) [-selQ_sel, h_1, h_2]
      refine Hid.selQ (fun h_3 => ?_) (fun h_3 => ?_)
      · replace H := HS.cnd_t h_3 H
        try simp -implicitDefEqProofs (maxSteps := 2000000) [-selQ_sel, h_1, h_2, h_3]
        refine Hid.selQ (fun h_4 => ?_) (fun h_4 => ?_)
        · replace H := HS.cnd_t h_4 H
          try simp -implicitDefEqProofs (maxSteps := 2000000) [-selQ_sel, h_1, h_2, h_3, h_4]
          obtain ⟨v1, h_5, H⟩ := HS.bnd H
          try simp -implicitDefEqProofs (maxSteps := 2000000) [-selQ_sel, h_1, h_2, h_3, h_4, h_5]
          refine Hid.selQ (fun h_6 => ?_) (fun h_6 => ?_)
          · replace H := HS.cnd_t h_6 H
            try simp -implicitDefEqProofs (maxSteps := 2000000) [-selQ_sel, h_1, h_2, h_3, h_4, h_5, h_6]
            refine Hid.selQ (fun h_7 => ?_) (fun h_7 => ?_)
            · replace H := HS.cnd_t h_7 H
              try simp -implicitDefEqProofs (maxSteps := 2000000) [-selQ_sel, h_1, h_2, h_3, h_4, h_5, h_6, h_7]
              refine Hid.selQ (fun h_8 => ?_) (fun h_8 => ?_)
              · replace H := HS.cnd_t h_8 H
                try simp -implicitDefEqProofs (maxSteps := 2000000) [-selQ_sel, h_1, h_2, h_3, h_4, h_5, h_6, h_7, h_8]
                obtain ⟨v2, h_9, H⟩ := HS.bnd H
                try simp -implicitDefEqProofs (maxSteps := 2000000) [-selQ_sel, h_1, h_2, h_3, h_4, h_5, h_6, h_7, h_8, h_9]
                refine Hid.selQ (fun h_10 => ?_) (fun h_10 => ?_)
                · replace H := HS.cnd_t h_10 H
                  try simp -implicitDefEqProofs (maxSteps := 2000000) [-selQ_sel, h_1, h_2, h_3, h_4, h_5, h_6, h_7, h_8, h_9, h_10]
                  refine Hid.selQ (fun h_11 => ?_) (fun h_11 => ?_)
                  · replace H := HS.cnd_t h_11 H
                    try simp -implicitDefEqProofs (maxSteps := 2000000) [-selQ_sel, h_1, h_2, h_3, h_4, h_5, h_6, h_7, h_8, h_9, h_10, h_11]
                    refine Hid.selQ (fun h_12 => ?_) (fun h_12 => ?_)
                    · replace H := HS.cnd_t h_12 H
                      try simp -implicitDefEqProofs (maxSteps := 2000000) [-selQ_sel, h_1, h_2, h_3, h_4, h_5, h_6, h_7, h_8, h_9, h_10, h_11, h_12]
                      refine Hid.selQ (fun h_13 => ?_) (fun h_13 => ?_)
                      · replace H := HS.cnd_t h_13 H
                        try simp -implicitDefEqProofs (maxSteps := 2000000) [-selQ_sel, h_1, h_2, h_3, h_4, h_5, h_6, h_7, h_8, h_9, h_10, h_11, h_12, h_13]
                        obtain ⟨v3, h_14, H⟩ := HS.bnd H
                        try simp -implicitDefEqProofs (maxSteps := 2000000) [-selQ_sel, h_1, h_2, h_3, h_4, h_5, h_6, h_7, h_8, h_9, h_10, h_11, h_12, h_13, h_14]
                        have hr := (HS.some H).symm; subst hr
                        refine Hid.mk ⟨_, Wk.refl _, ?_⟩
                        try simp -implicitDefEqProofs (maxSteps := 2000000) [-selQ_sel, h_1, h_2, h_3, h_4, h_5, h_6, h_7, h_8, h_9, h_10, h_11, h_12, h_13, h_14]
                      · replace H := HS.cnd_f h_13 H
                        try simp -implicitDefEqProofs (maxSteps := 2000000) [-selQ_sel, h_1, h_2, h_3, h_4, h_5, h_6, h_7, h_8, h_9, h_10, h_11, h_12, h_13]
                        have hr := (HS.some H).symm; subst hr
                        refine Hid.mk ⟨_, Wk.refl _, ?_⟩
                        try simp -implicitDefEqProofs (maxSteps := 2000000) [-selQ_sel, h_1, h_2, h_3, h_4, h_5, h_6, h_7, h_8, h_9, h_10, h_11, h_12, h_13]
                    · replace H := HS.cnd_f h_12 H
                      try simp -implicitDefEqProofs (maxSteps := 2000000) [-selQ_sel, h_1, h_2, h_3, h_4, h_5, h_6, h_7, h_8, h_9, h_10, h_11, h_12]
                      have hr := (HS.some H).symm; subst hr
                      refine Hid.mk ⟨_, Wk.refl _, ?_⟩
                      try simp -implicitDefEqProofs (maxSteps := 2000000) [-selQ_sel, h_1, h_2, h_3, h_4, h_5, h_6, h_7, h_8, h_9, h_10, h_11, h_12]
                  · replace H := HS.cnd_f h_11 H
                    try simp -implicitDefEqProofs (maxSteps := 2000000) [-selQ_sel, h_1, h_2, h_3, h_4, h_5, h_6, h_7, h_8, h_9, h_10, h_11]
                    have hr := (HS.some H).symm; subst hr
                    refine Hid.mk ⟨_, Wk.refl _, ?_⟩
                    try simp -implicitDefEqProofs (maxSteps := 2000000) [-selQ_sel, h_1, h_2, h_3, h_4, h_5, h_6, h_7, h_8, h_9, h_10, h_11]
                · replace H := HS.cnd_f h_10 H
                  try simp -implicitDefEqProofs (maxSteps := 2000000) [-selQ_sel, h_1, h_2, h_3, h_4, h_5, h_6, h_7, h_8, h_9, h_10]
                  have hr := (HS.some H).symm; subst hr
                  refine Hid.mk ⟨_, Wk.refl _, ?_⟩
                  try simp -implicitDefEqProofs (maxSteps := 2000000) [-selQ_sel, h_1, h_2, h_3, h_4, h_5, h_6, h_7, h_8, h_9, h_10]
              · replace H := HS.cnd_f h_8 H
                try simp -implicitDefEqProofs (maxSteps := 2000000) [-selQ_sel, h_1, h_2, h_3, h_4, h_5, h_6, h_7, h_8]
                have hr := (HS.some H).symm; subst hr
                refine Hid.mk ⟨_, Wk.refl _, ?_⟩
                try simp -implicitDefEqProofs (maxSteps := 2000000) [-selQ_sel, h_1, h_2, h_3, h_4, h_5, h_6, h_7, h_8]
            · replace H := HS.cnd_f h_7 H
              try simp -implicitDefEqProofs (maxSteps := 2000000) [-selQ_sel, h_1, h_2, h_3, h_4, h_5, h_6, h_7]
              have hr := (HS.some H).symm; subst hr
              refine Hid.mk ⟨_, Wk.refl _, ?_⟩
              try simp -implicitDefEqProofs (maxSteps := 2000000) [-selQ_sel, h_1, h_2, h_3, h_4, h_5, h_6, h_7]
          · replace H := HS.cnd_f h_6 H
            try simp -implicitDefEqProofs (maxSteps := 2000000) [-selQ_sel, h_1, h_2, h_3, h_4, h_5, h_6]
            have hr := (HS.some H).symm; subst hr
            refine Hid.mk ⟨_, Wk.refl _, ?_⟩
            try simp -implicitDefEqProofs (maxSteps := 2000000) [-selQ_sel, h_1, h_2, h_3, h_4, h_5, h_6]
        · replace H := HS.cnd_f h_4 H
          try simp -implicitDefEqProofs (maxSteps := 2000000) [-selQ_sel, h_1, h_2, h_3, h_4]
          have hr := (HS.some H).symm; subst hr
          refine Hid.mk ⟨_, Wk.refl _, ?_⟩
          try simp -implicitDefEqProofs (maxSteps := 2000000) [-selQ_sel, h_1, h_2, h_3, h_4]
      · replace H := HS.cnd_f h_3 H
        try simp -implicitDefEqProofs (maxSteps := 2000000) [-selQ_sel, h_1, h_2, h_3]
        have hr := (HS.some H).symm; subst hr
        refine Hid.mk ⟨_, Wk.refl _, ?_⟩
        try simp -implicitDefEqProofs (maxSteps := 2000000) [-selQ_sel, h_1, h_2, h_3]
    · replace H := HS.cnd_f h_2 H
      try simp -implicitDefEqProofs (maxSteps := 2000000) [-selQ_sel, h_1, h_2]
      have hr := (HS.some H).symm; subst hr
      refine Hid.mk ⟨_, Wk.refl _, ?_⟩
      try simp -implicitDefEqProofs (maxSteps := 2000000) [-selQ_sel, h_1, h_2]
  · replace H := HS.cnd_f h_1 H
    try simp -implicitDefEqProofs (maxSteps := 2000000) [-selQ_sel, h_1]
    have hr := (HS.some H).symm; subst hr
    refine Hid.mk ⟨_, Wk.refl _, ?_⟩
    try simp -implicitDefEqProofs (maxSteps := 2000000) [-selQ_sel, h_1]
theorem spec_PaintOk_ok0 (hm : Try.prog.follows .mixedOrders = true) (k_spec_ColorOk : Sound Try.prog 118 spec_ColorOk_x) (k_spec_PointOk : Sound Try.prog 117 spec_PointOk_x) : Sound Try.prog 97 spec_PaintOk_x := by
  refine xOf_sound fun q r h => ?_
  revert h; revert r; revert q; intro a0 r h
  refine fn_ok E0 hm Try.func97 rfl (by decide +kernel) (by rfl) fun Γ hn hk => ?_
  dsimp only [spec_PaintOk_e, spec_PaintOk_v]
  replace hn : Γ.n = 55 := hn
  replace hk : Γ.k = 0 := hk
  have H : HS (spec_PaintOk a0) r := h
  clear h; unfold spec_PaintOk at H
  try simp -implicitDefEqProofs at H
  refine Tr.of_vc (cl := tabC [(118, spec_ColorOk_x), (117, spec_PointOk_x)]) (E := E0) [] (tab_cons k_spec_ColorOk (tab_cons k_spec_PointOk tab_nil)) hm (by rw [hn]; decide +kernel) ?_
  try simp -implicitDefEqProofs (maxSteps := 2000000) [-selQ_sel]
  obtain ⟨v1, h_1, H⟩ := HS.bnd H
  try simp -implicitDefEqProofs (maxSteps := 2000000) [-selQ_sel, h_1]
  refine Hid.brV (fun h_2 => ?_) (fun h_2 => ?_)
  · replace H := HS.cnd_t h_2 H
    try simp -implicitDefEqProofs (maxSteps := 2000000) [-selQ_sel, h_1, h_2]
    refine Hid.brV (fun h_3 => ?_) (fun h_3 => ?_)
    · replace H := HS.cnd_t h_3 H
      try simp -implicitDefEqProofs (maxSteps := 2000000) [-selQ_sel, h_1, h_2, h_3]
      refine Hid.selQ (fun h_4 => ?_) (fun h_4 => ?_)
      · replace H := HS.cnd_t h_4 H
        try simp -implicitDefEqProofs (maxSteps := 2000000) [-selQ_sel, h_1, h_2, h_3, h_4]
        refine Hid.selQ (fun h_5 => ?_) (fun h_5 => ?_)
        · replace H := HS.cnd_t h_5 H
          try simp -implicitDefEqProofs (maxSteps := 2000000) [-selQ_sel, h_1, h_2, h_3, h_4, h_5]
          have hr := (HS.some H).symm; subst hr
          refine Hid.mk ⟨_, Wk.refl _, ?_⟩
          try simp -implicitDefEqProofs (maxSteps := 2000000) [-selQ_sel, h_1, h_2, h_3, h_4, h_5]
        · replace H := HS.cnd_f h_5 H
          try simp -implicitDefEqProofs (maxSteps := 2000000) [-selQ_sel, h_1, h_2, h_3, h_4, h_5]
          have hr := (HS.some H).symm; subst hr
          refine Hid.mk ⟨_, Wk.refl _, ?_⟩
          try simp -implicitDefEqProofs (maxSteps := 2000000) [-selQ_sel, h_1, h_2, h_3, h_4, h_5]
      · replace H := HS.cnd_f h_4 H
        try simp -implicitDefEqProofs (maxSteps := 2000000) [-selQ_sel, h_1, h_2, h_3, h_4]
        have hr := (HS.some H).symm; subst hr
        refine Hid.mk ⟨_, Wk.refl _, ?_⟩
        try simp -implicitDefEqProofs (maxSteps := 2000000) [-selQ_sel, h_1, h_2, h_3, h_4]
    · replace H := HS.cnd_f h_3 H
      try simp -implicitDefEqProofs (maxSteps := 2000000) [-selQ_sel, h_1, h_2, h_3]
      refine Hid.selQ (fun h_6 => ?_) (fun h_6 => ?_)
      · replace H := HS.cnd_t h_6 H
        try simp -implicitDefEqProofs (maxSteps := 2000000) [-selQ_sel, h_1, h_2, h_3, h_6]
        obtain ⟨v2, h_7, H⟩ := HS.bnd H
        try simp -implicitDefEqProofs (maxSteps := 2000000) [-selQ_sel, h_1, h_2, h_3, h_6, h_7]
        refine Hid.selQ (fun h_8 => ?_) (fun h_8 => ?_)
        · replace H := HS.cnd_t h_8 H
          try simp -implicitDefEqProofs (maxSteps := 2000000) [-selQ_sel, h_1, h_2, h_3, h_6, h_7, h_8]
          obtain ⟨v3, h_9, H⟩ := HS.bnd H
          try simp -implicitDefEqProofs (maxSteps := 2000000) [-selQ_sel, h_1, h_2, h_3, h_6, h_7, h_8, h_9]
          refine Hid.selQ (fun h_10 => ?_) (fun h_10 => ?_)
          · replace H := HS.cnd_t h_10 H
            try simp -implicitDefEqProofs (maxSteps := 2000000) [-selQ_sel, h_1, h_2, h_3, h_6, h_7, h_8, h_9, h_10]
            obtain ⟨v4, h_11, H⟩ := HS.bnd H
            try simp -implicitDefEqProofs (maxSteps := 2000000) [-selQ_sel, h_1, h_2, h_3, h_6, h_7, h_8, h_9, h_10, h_11]
            refine Hid.selQ (fun h_12 => ?_) (fun h_12 => ?_)
            · replace H := HS.cnd_t h_12 H
              try simp -implicitDefEqProofs (maxSteps := 2000000) [-selQ_sel, h_1, h_2, h_3, h_6, h_7, h_8, h_9, h_10, h_11, h_12]
              have hr := (HS.some H).symm; subst hr
              refine Hid.mk ⟨_, Wk.refl _, ?_⟩
              try simp -implicitDefEqProofs (maxSteps := 2000000) [-selQ_sel, h_1, h_2, h_3, h_6, h_7, h_8, h_9, h_10, h_11, h_12]
            · replace H := HS.cnd_f h_12 H
              try simp -implicitDefEqProofs (maxSteps := 2000000) [-selQ_sel, h_1, h_2, h_3, h_6, h_7, h_8, h_9, h_10, h_11, h_12]
              have hr := (HS.some H).symm; subst hr
              refine Hid.mk ⟨_, Wk.refl _, ?_⟩
              try simp -implicitDefEqProofs (maxSteps := 2000000) [-selQ_sel, h_1, h_2, h_3, h_6, h_7, h_8, h_9, h_10, h_11, h_12]
          · replace H := HS.cnd_f h_10 H
            try simp -implicitDefEqProofs (maxSteps := 2000000) [-selQ_sel, h_1, h_2, h_3, h_6, h_7, h_8, h_9, h_10]
            have hr := (HS.some H).symm; subst hr
            refine Hid.mk ⟨_, Wk.refl _, ?_⟩
            try simp -implicitDefEqProofs (maxSteps := 2000000) [-selQ_sel, h_1, h_2, h_3, h_6, h_7, h_8, h_9, h_10]
        · replace H := HS.cnd_f h_8 H
          try simp -implicitDefEqProofs (maxSteps := 2000000) [-selQ_sel, h_1, h_2, h_3, h_6, h_7, h_8]
          have hr := (HS.some H).symm; subst hr
          refine Hid.mk ⟨_, Wk.refl _, ?_⟩
          try simp -implicitDefEqProofs (maxSteps := 2000000) [-selQ_sel, h_1, h_2, h_3, h_6, h_7, h_8]
      · replace H := HS.cnd_f h_6 H
        try simp -implicitDefEqProofs (maxSteps := 2000000) [-selQ_sel, h_1, h_2, h_3, h_6]
        have hr := (HS.some H).symm; subst hr
        refine Hid.mk ⟨_, Wk.refl _, ?_⟩
        try simp -implicitDefEqProofs (maxSteps := 2000000) [-selQ_sel, h_1, h_2, h_3, h_6]
  · replace H := HS.cnd_f h_2 H
    try simp -implicitDefEqProofs (maxSteps := 2000000) [-selQ_sel, h_1, h_2]
    have hr := (HS.some H).symm; subst hr
    refine Hid.mk ⟨_, Wk.refl _, ?_⟩
    try simp -implicitDefEqProofs (maxSteps := 2000000) [-selQ_sel, h_1, h_2]
theorem laws_sameScene_ok0 (hm : Try.prog.follows .mixedOrders = true) (k_laws_sameNode : Sound Try.prog 16 laws_sameNode_x) : Sound Try.prog 14 laws_sameScene_x := by
  refine xOf_sound fun q r h => ?_
  obtain ⟨a0, a1⟩ := q
  refine fn_ok E0 hm Try.func14 rfl (by decide +kernel) (by rfl) fun Γ hn hk => ?_
  dsimp only [laws_sameScene_e, laws_sameScene_v]
  replace hn : Γ.n = 32 := hn
  replace hk : Γ.k = 0 := hk
  have H : HS (laws_sameScene a0 a1) r := h
  clear h; unfold laws_sameScene at H
  try simp -implicitDefEqProofs at H
  refine Tr.of_vc (cl := tabC [(16, laws_sameNode_x)]) (E := E0) [] (tab_cons k_laws_sameNode tab_nil) hm (by rw [hn]; decide +kernel) ?_
  try simp -implicitDefEqProofs +decide (maxSteps := 2000000) [-selQ_sel, hokQ_of]
  refine Hid.brV (fun h_1 => ?_) (fun h_1 => ?_)
  · replace H := HS.cnd_t h_1 H
    try simp -implicitDefEqProofs +decide (maxSteps := 2000000) [-selQ_sel, hokQ_of, h_1]
    obtain ⟨q, h_2, H⟩ := HS.bnd H
    refine Hid.mk (Tr.weak (s' := (laws_sameScene_l0_S a0 a1) 0) (Wk.ofk [0, 1] hk (by rfl) (by simp -implicitDefEqProofs [laws_sameScene_l0_S, h_1]) (by simp -implicitDefEqProofs [laws_sameScene_l0_S, h_1])) ?_)
    refine wp_loop_of (S := (laws_sameScene_l0_S a0 a1)) (f := (laws_sameScene_l0 a0 a1)) (xt := (laws_sameScene_l0_X a0 a1)) ?_ ?_ h_2 ?_
    · intro q; rcases q with ⟨⟩ | ⟨⟩ <;> simp [laws_sameScene_l0_X]
    · clear H h_2 q
      rintro x4 o R hf hR
      have H : HS (laws_sameScene_l0 a0 a1 x4) o := hf
      clear hf; unfold laws_sameScene_l0 at H
      try simp -implicitDefEqProofs at H
      refine Tr.of_vc (cl := tabC [(16, laws_sameNode_x)]) (E := E0) [] (tab_cons k_laws_sameNode tab_nil) hm (by rw [hn]; decide +kernel) ?_
      try simp -implicitDefEqProofs +decide (maxSteps := 2000000) [-selQ_sel, hokQ_of, laws_sameScene_l0_S]
      refine Hid.brV (fun h_3 => ?_) (fun h_3 => ?_)
      · replace H := HS.cnd_t h_3 H
        try simp -implicitDefEqProofs +decide (maxSteps := 2000000) [-selQ_sel, hokQ_of, h_3]
        have hr := (HS.some H).symm; subst hr
        exact Hid.mk ⟨(laws_sameScene_l0_X a0 a1 (.inl ())).2, Wk.ofk [] hk (by rfl) (by simp -implicitDefEqProofs [laws_sameScene_l0_X, h_3]) (by simp -implicitDefEqProofs [laws_sameScene_l0_X, h_3]), hR⟩
      · replace H := HS.cnd_f h_3 H
        try simp -implicitDefEqProofs +decide (maxSteps := 2000000) [-selQ_sel, hokQ_of, h_3]
        obtain ⟨v5, h_4, H⟩ := HS.bnd H
        try simp -implicitDefEqProofs +decide (maxSteps := 2000000) [-selQ_sel, hokQ_of, h_3, h_4]
        obtain ⟨v6, h_5, H⟩ := HS.bnd H
        try simp -implicitDefEqProofs +decide (maxSteps := 2000000) [-selQ_sel, hokQ_of, h_3, h_4, h_5]
        obtain ⟨v7, h_6, H⟩ := HS.bnd H
        try simp -implicitDefEqProofs +decide (maxSteps := 2000000) [-selQ_sel, hokQ_of, h_3, h_4, h_5, h_6]
        refine Hid.brV (fun h_7 => ?_) (fun h_7 => ?_)
        · replace H := HS.cnd_t h_7 H
          try simp -implicitDefEqProofs +decide (maxSteps := 2000000) [-selQ_sel, hokQ_of, h_3, h_4, h_5, h_6, h_7]
          have hr := (HS.some H).symm; subst hr
          exact Hid.mk ⟨laws_sameScene_l0_S a0 a1 (IntKind.i64.wrap (x4 + 1)), Wk.ofk [0, 1] hk (by rfl) (by simp -implicitDefEqProofs [laws_sameScene_l0_S, h_3, h_4, h_5, h_6, h_7]) (by simp -implicitDefEqProofs [laws_sameScene_l0_S, h_3, h_4, h_5, h_6, h_7]), hR⟩
        · replace H := HS.cnd_f h_7 H
          try simp -implicitDefEqProofs +decide (maxSteps := 2000000) [-selQ_sel, hokQ_of, h_3, h_4, h_5, h_6, h_7]
          have hr := (HS.some H).symm; subst hr
          exact Hid.mk ⟨(laws_sameScene_l0_X a0 a1 (.inr ())).2, Wk.ofk [] hk (by rfl) (by simp -implicitDefEqProofs [laws_sameScene_l0_X, h_3, h_4, h_5, h_6, h_7]) (by simp -implicitDefEqProofs [laws_sameScene_l0_X, h_3, h_4, h_5, h_6, h_7]), hR⟩
    · rcases q with ⟨⟩ | ⟨⟩
      · dsimp only at H
        try simp -implicitDefEqProofs +decide (maxSteps := 2000000) [-selQ_sel, hokQ_of, h_1, laws_sameScene_l0_X]
        have hr := (HS.some H).symm; subst hr
        refine Hid.mk ⟨_, Wk.refl _, ?_⟩
        try simp -implicitDefEqProofs +decide (maxSteps := 2000000) [-selQ_sel, hokQ_of, h_1]
      · dsimp only at H
        try simp -implicitDefEqProofs +decide (maxSteps := 2000000) [-selQ_sel, hokQ_of, h_1, laws_sameScene_l0_X]
        have hr := (HS.some H).symm; subst hr
        refine Hid.mk ⟨_, Wk.refl _, ?_⟩
        try simp -implicitDefEqProofs +decide (maxSteps := 2000000) [-selQ_sel, hokQ_of, h_1]
  · replace H := HS.cnd_f h_1 H
    try simp -implicitDefEqProofs +decide (maxSteps := 2000000) [-selQ_sel, hokQ_of, h_1]
    have hr := (HS.some H).symm; subst hr
    refine Hid.mk ⟨_, Wk.refl _, ?_⟩
    try simp -implicitDefEqProofs +decide (maxSteps := 2000000) [-selQ_sel, hokQ_of, h_1]
theorem spec_MatOk_ok0 (hm : Try.prog.follows .mixedOrders = true) (k_spec_l01In : Sound Try.prog 58 spec_l01In_x) : Sound Try.prog 92 spec_MatOk_x := by
  refine xOf_sound fun q r h => ?_
  revert h; revert r; revert q; intro a0 r h
  refine fn_ok E0 hm Try.func92 rfl (by decide +kernel) (by rfl) fun Γ hn hk => ?_
  dsimp only [spec_MatOk_e, spec_MatOk_v]
  replace hn : Γ.n = 44 := hn
  replace hk : Γ.k = 0 := hk
  have H : HS (spec_MatOk a0) r := h
  clear h; unfold spec_MatOk at H
  try simp -implicitDefEqProofs at H
  refine Tr.of_vc (cl := tabC [(58, spec_l01In_x)]) (E := E0) [] (tab_cons k_spec_l01In tab_nil) hm (by rw [hn]; decide +kernel) ?_
  try simp -implicitDefEqProofs (maxSteps := 2000000) [-selQ_sel]
  obtain ⟨v1, h_1, H⟩ := HS.bnd H
  try simp -implicitDefEqProofs (maxSteps := 2000000) [-selQ_sel, h_1]
  refine Hid.selQ (fun h_2 => ?_) (fun h_2 => ?_)
  · replace H := HS.cnd_t h_2 H
    try simp -implicitDefEqProofs (maxSteps := 2000000) [-selQ_sel, h_1, h_2]
    obtain ⟨v2, h_3, H⟩ := HS.bnd H
    try simp -implicitDefEqProofs (maxSteps := 2000000) [-selQ_sel, h_1, h_2, h_3]
    refine Hid.selQ (fun h_4 => ?_) (fun h_4 => ?_)
    · replace H := HS.cnd_t h_4 H
      try simp -implicitDefEqProofs (maxSteps := 2000000) [-selQ_sel, h_1, h_2, h_3, h_4]
      obtain ⟨v3, h_5, H⟩ := HS.bnd H
      try simp -implicitDefEqProofs (maxSteps := 2000000) [-selQ_sel, h_1, h_2, h_3, h_4, h_5]
      refine Hid.selQ (fun h_6 => ?_) (fun h_6 => ?_)
      · replace H := HS.cnd_t h_6 H
        try simp -implicitDefEqProofs (maxSteps := 2000000) [-selQ_sel, h_1, h_2, h_3, h_4, h_5, h_6]
        obtain ⟨v4, h_7, H⟩ := HS.bnd H
        try simp -implicitDefEqProofs (maxSteps := 2000000) [-selQ_sel, h_1, h_2, h_3, h_4, h_5, h_6, h_7]
        refine Hid.selQ (fun h_8 => ?_) (fun h_8 => ?_)
        · replace H := HS.cnd_t h_8 H
          try simp -implicitDefEqProofs (maxSteps := 2000000) [-selQ_sel, h_1, h_2, h_3, h_4, h_5, h_6, h_7, h_8]
          obtain ⟨v5, h_9, H⟩ := HS.bnd H
          try simp -implicitDefEqProofs (maxSteps := 2000000) [-selQ_sel, h_1, h_2, h_3, h_4, h_5, h_6, h_7, h_8, h_9]
          refine Hid.selQ (fun h_10 => ?_) (fun h_10 => ?_)
          · replace H := HS.cnd_t h_10 H
            try simp -implicitDefEqProofs (maxSteps := 2000000) [-selQ_sel, h_1, h_2, h_3, h_4, h_5, h_6, h_7, h_8, h_9, h_10]
            obtain ⟨v6, h_11, H⟩ := HS.bnd H
            try simp -implicitDefEqProofs (maxSteps := 2000000) [-selQ_sel, h_1, h_2, h_3, h_4, h_5, h_6, h_7, h_8, h_9, h_10, h_11]
            have hr := (HS.some H).symm; subst hr
            refine Hid.mk ⟨_, Wk.refl _, ?_⟩
            try simp -implicitDefEqProofs (maxSteps := 2000000) [-selQ_sel, h_1, h_2, h_3, h_4, h_5, h_6, h_7, h_8, h_9, h_10, h_11]
          · replace H := HS.cnd_f h_10 H
            try simp -implicitDefEqProofs (maxSteps := 2000000) [-selQ_sel, h_1, h_2, h_3, h_4, h_5, h_6, h_7, h_8, h_9, h_10]
            have hr := (HS.some H).symm; subst hr
            refine Hid.mk ⟨_, Wk.refl _, ?_⟩
            try simp -implicitDefEqProofs (maxSteps := 2000000) [-selQ_sel, h_1, h_2, h_3, h_4, h_5, h_6, h_7, h_8, h_9, h_10]
        · replace H := HS.cnd_f h_8 H
          try simp -implicitDefEqProofs (maxSteps := 2000000) [-selQ_sel, h_1, h_2, h_3, h_4, h_5, h_6, h_7, h_8]
          have hr := (HS.some H).symm; subst hr
          refine Hid.mk ⟨_, Wk.refl _, ?_⟩
          try simp -implicitDefEqProofs (maxSteps := 2000000) [-selQ_sel, h_1, h_2, h_3, h_4, h_5, h_6, h_7, h_8]
      · replace H := HS.cnd_f h_6 H
        try simp -implicitDefEqProofs (maxSteps := 2000000) [-selQ_sel, h_1, h_2, h_3, h_4, h_5, h_6]
        have hr := (HS.some H).symm; subst hr
        refine Hid.mk ⟨_, Wk.refl _, ?_⟩
        try simp -implicitDefEqProofs (maxSteps := 2000000) [-selQ_sel, h_1, h_2, h_3, h_4, h_5, h_6]
    · replace H := HS.cnd_f h_4 H
      try simp -implicitDefEqProofs (maxSteps := 2000000) [-selQ_sel, h_1, h_2, h_3, h_4]
      have hr := (HS.some H).symm; subst hr
      refine Hid.mk ⟨_, Wk.refl _, ?_⟩
      try simp -implicitDefEqProofs (maxSteps := 2000000) [-selQ_sel, h_1, h_2, h_3, h_4]
  · replace H := HS.cnd_f h_2 H
    try simp -implicitDefEqProofs (maxSteps := 2000000) [-selQ_sel, h_1, h_2]
    have hr := (HS.some H).symm; subst hr
    refine Hid.mk ⟨_, Wk.refl _, ?_⟩
    try simp -implicitDefEqProofs (maxSteps := 2000000) [-selQ_sel, h_1, h_2]
theorem spec_DepthOf_ok0 (hm : Try.prog.follows .mixedOrders = true) (k_spec_NodeAt : Sound Try.prog 15 spec_NodeAt_x) : Sound Try.prog 91 spec_DepthOf_x := by
  refine xOf_sound fun q r h => ?_
  obtain ⟨a0, a1⟩ := q
  refine fn_ok E0 hm Try.func91 rfl (by decide +kernel) (by rfl) fun Γ hn hk => ?_
  dsimp only [spec_DepthOf_e, spec_DepthOf_v]
  replace hn : Γ.n = 28 := hn
  replace hk : Γ.k = 0 := hk
  have H : HS (spec_DepthOf a0 a1) r := h
  clear h; unfold spec_DepthOf at H
  try simp -implicitDefEqProofs at H
  refine Tr.of_vc (cl := tabC [(15, spec_NodeAt_x)]) (E := E0) [] (tab_cons k_spec_NodeAt tab_nil) hm (by rw [hn]; decide +kernel) ?_
  try simp -implicitDefEqProofs (maxSteps := 2000000) [-selQ_sel]
  obtain ⟨q, h_1, H⟩ := HS.bnd H
  refine Hid.mk (Tr.weak (s' := (spec_DepthOf_l0_S a0) (a1, 0, 0)) (Wk.ofk [0] hk (by rfl) (by simp -implicitDefEqProofs [spec_DepthOf_l0_S]) (by simp -implicitDefEqProofs [spec_DepthOf_l0_S])) ?_)
  refine wp_loop_of (S := (spec_DepthOf_l0_S a0)) (f := (spec_DepthOf_l0 a0)) (xt := (spec_DepthOf_l0_X a0)) ?_ ?_ h_1 ?_
  · intro q; rcases q with y8 | ⟨⟩ <;> simp [spec_DepthOf_l0_X]
  · clear H h_1 q
    rintro ⟨x3, x4, x5⟩ o R hf hR
    have H : HS (spec_DepthOf_l0 a0 (x3, x4, x5)) o := hf
    clear hf; unfold spec_DepthOf_l0 at H
    try simp -implicitDefEqProofs at H
    refine Tr.of_vc (cl := tabC [(15, spec_NodeAt_x)]) (E := E0) [] (tab_cons k_spec_NodeAt tab_nil) hm (by rw [hn]; decide +kernel) ?_
    try simp -implicitDefEqProofs (maxSteps := 2000000) [-selQ_sel, spec_DepthOf_l0_S]
    refine Hid.brV (fun h_2 => ?_) (fun h_2 => ?_)
    · replace H := HS.cnd_t h_2 H
      try simp -implicitDefEqProofs (maxSteps := 2000000) [-selQ_sel, h_2]
      refine Hid.brV (fun h_3 => ?_) (fun h_3 => ?_)
      · replace H := HS.cnd_t h_3 H
        try simp -implicitDefEqProofs (maxSteps := 2000000) [-selQ_sel, h_2, h_3]
        have hr := (HS.some H).symm; subst hr
        exact Hid.mk ⟨(spec_DepthOf_l0_X a0 (.inl x4)).2, Wk.ofk [] hk (by rfl) (by simp -implicitDefEqProofs [spec_DepthOf_l0_X, h_2, h_3]) (by simp -implicitDefEqProofs [spec_DepthOf_l0_X, h_2, h_3]), hR⟩
      · replace H := HS.cnd_f h_3 H
        try simp -implicitDefEqProofs (maxSteps := 2000000) [-selQ_sel, h_2, h_3]
        obtain ⟨v6, h_4, H⟩ := HS.bnd H
        try simp -implicitDefEqProofs (maxSteps := 2000000) [-selQ_sel, h_2, h_3, h_4]
        refine Hid.brV (fun h_5 => ?_) (fun h_5 => ?_)
        · replace H := HS.cnd_t h_5 H
          try simp -implicitDefEqProofs (maxSteps := 2000000) [-selQ_sel, h_2, h_3, h_4, h_5]
          obtain ⟨v7, h_6, H⟩ := HS.bnd H
          try simp -implicitDefEqProofs (maxSteps := 2000000) [-selQ_sel, h_2, h_3, h_4, h_5, h_6]
          have hr := (HS.some H).symm; subst hr
          exact Hid.mk ⟨spec_DepthOf_l0_S a0 (v7.parent, (IntKind.i64.wrap (x4 + 1)), (IntKind.i64.wrap (x5 + 1))), Wk.ofk [0] hk (by rfl) (by simp -implicitDefEqProofs [spec_DepthOf_l0_S, h_2, h_3, h_4, h_5, h_6]) (by simp -implicitDefEqProofs [spec_DepthOf_l0_S, h_2, h_3, h_4, h_5, h_6]), hR⟩
        · replace H := HS.cnd_f h_5 H
          try simp -implicitDefEqProofs (maxSteps := 2000000) [-selQ_sel, h_2, h_3, h_4, h_5]
          have hr := (HS.some H).symm; subst hr
          exact Hid.mk ⟨(spec_DepthOf_l0_X a0 (.inl 0)).2, Wk.ofk [] hk (by rfl) (by simp -implicitDefEqProofs [spec_DepthOf_l0_X, h_2, h_3, h_4, h_5]) (by simp -implicitDefEqProofs [spec_DepthOf_l0_X, h_2, h_3, h_4, h_5]), hR⟩
    · replace H := HS.cnd_f h_2 H
      try simp -implicitDefEqProofs (maxSteps := 2000000) [-selQ_sel, h_2]
      have hr := (HS.some H).symm; subst hr
      exact Hid.mk ⟨(spec_DepthOf_l0_X a0 (.inr ())).2, Wk.ofk [] hk (by rfl) (by simp -implicitDefEqProofs [spec_DepthOf_l0_X, h_2]) (by simp -implicitDefEqProofs [spec_DepthOf_l0_X, h_2]), hR⟩
  · rcases q with y8 | ⟨⟩
    · dsimp only at H
      try simp -implicitDefEqProofs (maxSteps := 2000000) [-selQ_sel, spec_DepthOf_l0_X]
      have hr := (HS.some H).symm; subst hr
      refine Hid.mk ⟨_, Wk.refl _, ?_⟩
      try simp -implicitDefEqProofs (maxSteps := 2000000) [-selQ_sel]
    · dsimp only at H
      try simp -implicitDefEqProofs (maxSteps := 2000000) [-selQ_sel, spec_DepthOf_l0_X]
      have hr := (HS.some H).symm; subst hr
      refine Hid.mk ⟨_, Wk.refl _, ?_⟩
      try simp -implicitDefEqProofs (maxSteps := 2000000) [-selQ_sel]
theorem impl_DashOk_ok0 (hm : Try.prog.follows .mixedOrders = true) (k_impl_inRange : Sound Try.prog 56 impl_inRange_x) : Sound Try.prog 84 impl_DashOk_x := by
  refine xOf_sound fun q r h => ?_
  revert h; revert r; revert q; intro a0 r h
  refine fn_ok E0 hm Try.func84 rfl (by decide +kernel) (by rfl) fun Γ hn hk => ?_
  dsimp only [impl_DashOk_e, impl_DashOk_v]
  replace hn : Γ.n = 24 := hn
  replace hk : Γ.k = 0 := hk
  have H : HS (impl_DashOk a0) r := h
  clear h; unfold impl_DashOk at H
  try simp -implicitDefEqProofs at H
  refine Tr.of_vc (cl := tabC [(56, impl_inRange_x)]) (E := E0) [] (tab_cons k_impl_inRange tab_nil) hm (by rw [hn]; decide +kernel) ?_
  try simp -implicitDefEqProofs (maxSteps := 2000000) [-selQ_sel]
  obtain ⟨q, h_1, H⟩ := HS.bnd H
  refine Hid.mk (Tr.weak (s' := (impl_DashOk_l0_S a0) 0) (Wk.ofk [] hk (by rfl) (by simp -implicitDefEqProofs [impl_DashOk_l0_S]) (by simp -implicitDefEqProofs [impl_DashOk_l0_S])) ?_)
  refine wp_loop_of (S := (impl_DashOk_l0_S a0)) (f := (impl_DashOk_l0 a0)) (xt := (impl_DashOk_l0_X a0)) ?_ ?_ h_1 ?_
  · intro q; rcases q with ⟨⟩ | ⟨⟩ <;> simp [impl_DashOk_l0_X]
  · clear H h_1 q
    rintro x3 o R hf hR
    have H : HS (impl_DashOk_l0 a0 x3) o := hf
    clear hf; unfold impl_DashOk_l0 at H
    try simp -implicitDefEqProofs at H
    refine Tr.of_vc (cl := tabC [(56, impl_inRange_x)]) (E := E0) [] (tab_cons k_impl_inRange tab_nil) hm (by rw [hn]; decide +kernel) ?_
    try simp -implicitDefEqProofs (maxSteps := 2000000) [-selQ_sel, impl_DashOk_l0_S]
    refine Hid.brV (fun h_2 => ?_) (fun h_2 => ?_)
    · replace H := HS.cnd_t h_2 H
      try simp -implicitDefEqProofs (maxSteps := 2000000) [-selQ_sel, h_2]
      have hr := (HS.some H).symm; subst hr
      exact Hid.mk ⟨(impl_DashOk_l0_X a0 (.inl ())).2, Wk.ofk [] hk (by rfl) (by simp -implicitDefEqProofs [impl_DashOk_l0_X, h_2]) (by simp -implicitDefEqProofs [impl_DashOk_l0_X, h_2]), hR⟩
    · replace H := HS.cnd_f h_2 H
      try simp -implicitDefEqProofs (maxSteps := 2000000) [-selQ_sel, h_2]
      obtain ⟨v4, h_3, H⟩ := HS.bnd H
      try simp -implicitDefEqProofs (maxSteps := 2000000) [-selQ_sel, h_2, h_3]
      obtain ⟨v5, h_4, H⟩ := HS.bnd H
      try simp -implicitDefEqProofs (maxSteps := 2000000) [-selQ_sel, h_2, h_3, h_4]
      refine Hid.brV (fun h_5 => ?_) (fun h_5 => ?_)
      · replace H := HS.cnd_t h_5 H
        try simp -implicitDefEqProofs (maxSteps := 2000000) [-selQ_sel, h_2, h_3, h_4, h_5]
        have hr := (HS.some H).symm; subst hr
        exact Hid.mk ⟨impl_DashOk_l0_S a0 (IntKind.i64.wrap (x3 + 1)), Wk.ofk [] hk (by rfl) (by simp -implicitDefEqProofs [impl_DashOk_l0_S, h_2, h_3, h_4, h_5]) (by simp -implicitDefEqProofs [impl_DashOk_l0_S, h_2, h_3, h_4, h_5]), hR⟩
      · replace H := HS.cnd_f h_5 H
        try simp -implicitDefEqProofs (maxSteps := 2000000) [-selQ_sel, h_2, h_3, h_4, h_5]
        have hr := (HS.some H).symm; subst hr
        exact Hid.mk ⟨(impl_DashOk_l0_X a0 (.inr ())).2, Wk.ofk [] hk (by rfl) (by simp -implicitDefEqProofs [impl_DashOk_l0_X, h_2, h_3, h_4, h_5]) (by simp -implicitDefEqProofs [impl_DashOk_l0_X, h_2, h_3, h_4, h_5]), hR⟩
  · rcases q with ⟨⟩ | ⟨⟩
    · dsimp only at H
      try simp -implicitDefEqProofs (maxSteps := 2000000) [-selQ_sel, impl_DashOk_l0_X]
      refine Hid.selQ (fun h_6 => ?_) (fun h_6 => ?_)
      · replace H := HS.cnd_t h_6 H
        try simp -implicitDefEqProofs (maxSteps := 2000000) [-selQ_sel, h_6]
        have hr := (HS.some H).symm; subst hr
        refine Hid.mk ⟨_, Wk.refl _, ?_⟩
        try simp -implicitDefEqProofs (maxSteps := 2000000) [-selQ_sel, h_6]
      · replace H := HS.cnd_f h_6 H
        try simp -implicitDefEqProofs (maxSteps := 2000000) [-selQ_sel, h_6]
        have hr := (HS.some H).symm; subst hr
        refine Hid.mk ⟨_, Wk.refl _, ?_⟩
        try simp -implicitDefEqProofs (maxSteps := 2000000) [-selQ_sel, h_6]
    · dsimp only at H
      try simp -implicitDefEqProofs (maxSteps := 2000000) [-selQ_sel, impl_DashOk_l0_X]
      have hr := (HS.some H).symm; subst hr
      refine Hid.mk ⟨_, Wk.refl _, ?_⟩
      try simp -implicitDefEqProofs (maxSteps := 2000000) [-selQ_sel]
theorem spec_l15Copy_ok0 (hm : Try.prog.follows .mixedOrders = true) (k_spec_l15CopyNode : Sound Try.prog 52 spec_l15CopyNode_x) : Sound Try.prog 48 spec_l15Copy_x := by
  refine xOf_sound fun q r h => ?_
  revert h; revert r; revert q; intro a0 r h
  refine fn_ok E0 hm Try.func48 rfl (by decide +kernel) (by rfl) fun Γ hn hk => ?_
  dsimp only [spec_l15Copy_e, spec_l15Copy_v]
  replace hn : Γ.n = 25 := hn
  replace hk : Γ.k = 0 := hk
  have H : HS (spec_l15Copy a0) r := h
  clear h; unfold spec_l15Copy at H
  try simp -implicitDefEqProofs at H
  refine Tr.of_vc (cl := tabC [(52, spec_l15CopyNode_x)]) (E := E0) [] (tab_cons k_spec_l15CopyNode tab_nil) hm (by rw [hn]; decide +kernel) ?_
  try simp -implicitDefEqProofs +decide (maxSteps := 2000000) [-selQ_sel, hokQ_of]
  obtain ⟨q, h_1, H⟩ := HS.bnd H
  refine Hid.mk (Tr.weak (s' := (spec_l15Copy_l0_S a0) (0, [])) (Wk.ofk [0, 1, 2, 3] hk (by rfl) (by simp -implicitDefEqProofs [spec_l15Copy_l0_S]) (by simp -implicitDefEqProofs [spec_l15Copy_l0_S])) ?_)
  refine wp_loop_of (S := (spec_l15Copy_l0_S a0)) (f := (spec_l15Copy_l0 a0)) (xt := (spec_l15Copy_l0_X a0)) ?_ ?_ h_1 ?_
  · intro q; simp [spec_l15Copy_l0_X]
  · clear H h_1 q
    rintro ⟨x3, x4⟩ o R hf hR
    have H : HS (spec_l15Copy_l0 a0 (x3, x4)) o := hf
    clear hf; unfold spec_l15Copy_l0 at H
    try simp -implicitDefEqProofs at H
    refine Tr.of_vc (cl := tabC [(52, spec_l15CopyNode_x)]) (E := E0) [] (tab_cons k_spec_l15CopyNode tab_nil) hm (by rw [hn]; decide +kernel) ?_
    try simp -implicitDefEqProofs +decide (maxSteps := 2000000) [-selQ_sel, hokQ_of, spec_l15Copy_l0_S]
    refine Hid.brV (fun h_2 => ?_) (fun h_2 => ?_)
    · replace H := HS.cnd_t h_2 H
      try simp -implicitDefEqProofs +decide (maxSteps := 2000000) [-selQ_sel, hokQ_of, h_2]
      have hr := (HS.some H).symm; subst hr
      exact Hid.mk ⟨(spec_l15Copy_l0_X a0 x4).2, Wk.ofk [1, 2, 3] hk (by rfl) (by simp -implicitDefEqProofs [spec_l15Copy_l0_X, h_2]) (by simp -implicitDefEqProofs [spec_l15Copy_l0_X, h_2]), hR⟩
    · replace H := HS.cnd_f h_2 H
      try simp -implicitDefEqProofs +decide (maxSteps := 2000000) [-selQ_sel, hokQ_of, h_2]
      obtain ⟨v5, h_3, H⟩ := HS.bnd H
      try simp -implicitDefEqProofs +decide (maxSteps := 2000000) [-selQ_sel, hokQ_of, h_2, h_3]
      obtain ⟨v6, h_4, H⟩ := HS.bnd H
      try simp -implicitDefEqProofs +decide (maxSteps := 2000000) [-selQ_sel, hokQ_of, h_2, h_3, h_4]
      obtain ⟨h_5, H⟩ := HS.chkP H
      try simp -implicitDefEqProofs +decide (maxSteps := 2000000) [-selQ_sel, hokQ_of, h_2, h_3, h_4, h_5]
      obtain ⟨l7, h_6, H⟩ := HS.nam H
      have m_7 := congrArg (List.map eNode) h_6
      have q_8 := congrArg List.length h_6
      simp -implicitDefEqProofs at m_7 q_8
      try simp only [q_8] at m_7
      try simp only [q_8] at h_5
      try simp -implicitDefEqProofs +decide (maxSteps := 2000000) [-selQ_sel, hokQ_of, h_2, h_3, h_4, h_5, m_7, q_8]
      have hr := (HS.some H).symm; subst hr
      exact Hid.mk ⟨spec_l15Copy_l0_S a0 ((IntKind.i64.wrap (x3 + 1)), l7), Wk.ofk [0, 1, 2, 3] hk (by rfl) (by simp -implicitDefEqProofs [spec_l15Copy_l0_S, h_2, h_3, h_4, h_5, m_7, q_8]) (by simp -implicitDefEqProofs [spec_l15Copy_l0_S, h_2, h_3, h_4, h_5, m_7, q_8]), hR⟩
  · revert H h_1; revert q; intro y8 h_1 H
    try dsimp only at H
    try simp -implicitDefEqProofs +decide (maxSteps := 2000000) [-selQ_sel, hokQ_of, spec_l15Copy_l0_X]
    have hr := (HS.some H).symm; subst hr
    refine Hid.mk ⟨⟨[(2, AV.optr 0 0 1)], [(0, Ob.box [AV.osl 1 0 (List.length y8) (List.length y8)]), (1, Ob.arr 31 (List.map eNode y8) false)], 2⟩, Wk.ofk [0, 2] hk (by rfl) (by simp -implicitDefEqProofs []) (by simp -implicitDefEqProofs []), ?_⟩
    try simp -implicitDefEqProofs +decide (maxSteps := 2000000) [-selQ_sel, hokQ_of]
theorem impl_KidsOf_ok0 (hm : Try.prog.follows .mixedOrders = true) : Sound Try.prog 46 impl_KidsOf_x := by
  refine xOf_sound fun q r h => ?_
  obtain ⟨a0, a1⟩ := q
  refine fn_ok E0 hm Try.func46 rfl (by decide +kernel) (by rfl) fun Γ hn hk => ?_
  dsimp only [impl_KidsOf_e, impl_KidsOf_v]
  replace hn : Γ.n = 26 := hn
  replace hk : Γ.k = 0 := hk
  have H : HS (impl_KidsOf a0 a1) r := h
  clear h; unfold impl_KidsOf at H
  try simp -implicitDefEqProofs at H
  refine Tr.of_vc (cl := tabC []) (E := E0) [] tab_nil hm (by rw [hn]; decide +kernel) ?_
  try simp -implicitDefEqProofs (maxSteps := 2000000) [-selQ_sel]
  obtain ⟨q, h_1, H⟩ := HS.bnd H
  refine Hid.mk (Tr.weak (s' := (impl_KidsOf_l0_S a0 a1) ([], 0)) (Wk.ofk [1] hk (by rfl) (by simp -implicitDefEqProofs [impl_KidsOf_l0_S]) (by simp -implicitDefEqProofs [impl_KidsOf_l0_S])) ?_)
  refine wp_loop_of (S := (impl_KidsOf_l0_S a0 a1)) (f := (impl_KidsOf_l0 a0 a1)) (xt := (impl_KidsOf_l0_X a0 a1)) ?_ ?_ h_1 ?_
  · intro q; simp [impl_KidsOf_l0_X]
  · clear H h_1 q
    rintro ⟨x2, x3⟩ o R hf hR
    have H : HS (impl_KidsOf_l0 a0 a1 (x2, x3)) o := hf
    clear hf; unfold impl_KidsOf_l0 at H
    try simp -implicitDefEqProofs at H
    refine Tr.of_vc (cl := tabC []) (E := E0) [] tab_nil hm (by rw [hn]; decide +kernel) ?_
    try simp -implicitDefEqProofs (maxSteps := 2000000) [-selQ_sel, impl_KidsOf_l0_S]
    refine Hid.brV (fun h_2 => ?_) (fun h_2 => ?_)
    · replace H := HS.cnd_t h_2 H
      try simp -implicitDefEqProofs (maxSteps := 2000000) [-selQ_sel, h_2]
      have hr := (HS.some H).symm; subst hr
      exact Hid.mk ⟨(impl_KidsOf_l0_X a0 a1 x2).2, Wk.ofk [0] hk (by rfl) (by simp -implicitDefEqProofs [impl_KidsOf_l0_X, h_2]) (by simp -implicitDefEqProofs [impl_KidsOf_l0_X, h_2]), hR⟩
    · replace H := HS.cnd_f h_2 H
      try simp -implicitDefEqProofs (maxSteps := 2000000) [-selQ_sel, h_2]
      obtain ⟨v4, h_3, H⟩ := HS.bnd H
      try simp -implicitDefEqProofs (maxSteps := 2000000) [-selQ_sel, h_2, h_3]
      refine Hid.brV (fun h_4 => ?_) (fun h_4 => ?_)
      · replace H := HS.cnd_t h_4 H
        try simp -implicitDefEqProofs (maxSteps := 2000000) [-selQ_sel, h_2, h_3, h_4]
        obtain ⟨h_5, H⟩ := HS.chkP H
        try simp -implicitDefEqProofs (maxSteps := 2000000) [-selQ_sel, h_2, h_3, h_4, h_5]
        obtain ⟨l5, h_6, H⟩ := HS.nam H
        have m_7 := congrArg (List.map (AV.int .i64)) h_6
        have q_8 := congrArg List.length h_6
        simp -implicitDefEqProofs at m_7 q_8
        try simp only [q_8] at m_7
        try simp only [q_8] at h_5
        try simp -implicitDefEqProofs (maxSteps := 2000000) [-selQ_sel, h_2, h_3, h_4, h_5, m_7, q_8]
        have hr := (HS.some H).symm; subst hr
        exact Hid.mk ⟨impl_KidsOf_l0_S a0 a1 (l5, (IntKind.i64.wrap (x3 + 1))), Wk.ofk [0] hk (by rfl) (by simp -implicitDefEqProofs [impl_KidsOf_l0_S, h_2, h_3, h_4, h_5, m_7, q_8]) (by simp -implicitDefEqProofs [impl_KidsOf_l0_S, h_2, h_3, h_4, h_5, m_7, q_8]), hR⟩
      · replace H := HS.cnd_f h_4 H
        try simp -implicitDefEqProofs (maxSteps := 2000000) [-selQ_sel, h_2, h_3, h_4]
        have hr := (HS.some H).symm; subst hr
        exact Hid.mk ⟨impl_KidsOf_l0_S a0 a1 (x2, (IntKind.i64.wrap (x3 + 1))), Wk.ofk [0] hk (by rfl) (by simp -implicitDefEqProofs [impl_KidsOf_l0_S, h_2, h_3, h_4]) (by simp -implicitDefEqProofs [impl_KidsOf_l0_S, h_2, h_3, h_4]), hR⟩
  · revert H h_1; revert q; intro y6 h_1 H
    try dsimp only at H
    try simp -implicitDefEqProofs (maxSteps := 2000000) [-selQ_sel, impl_KidsOf_l0_X]
    have hr := (HS.some H).symm; subst hr
    refine Hid.mk ⟨_, Wk.refl _, ?_⟩
    try simp -implicitDefEqProofs (maxSteps := 2000000) [-selQ_sel]
theorem spec_l04AnyMat_ok0 (hm : Try.prog.follows .mixedOrders = true) (k_spec_l04Mat : Sound Try.prog 76 spec_l04Mat_x) (k_spec_l01Below : Sound Try.prog 42 spec_l01Below_x) (k_spec_l01PickInt : Sound Try.prog 72 spec_l01PickInt_x) : Sound Try.prog 73 spec_l04AnyMat_x := by
  refine xOf_sound fun q r h => ?_
  revert h; revert r; revert q; intro a0 r h
  refine fn_ok E0 hm Try.func73 rfl (by decide +kernel) (by rfl) fun Γ hn hk => ?_
  dsimp only [spec_l04AnyMat_e, spec_l04AnyMat_v]
  replace hn : Γ.n = 24 := hn
  replace hk : Γ.k = 1 := hk
  have H : HS (spec_l04AnyMat a0) r := h
  clear h; unfold spec_l04AnyMat at H
  try simp -implicitDefEqProofs at H
  refine Tr.of_vc (cl := tabC [(76, spec_l04Mat_x), (42, spec_l01Below_x), (72, spec_l01PickInt_x)]) (E := E0) [] (tab_cons k_spec_l04Mat (tab_cons k_spec_l01Below (tab_cons k_spec_l01PickInt tab_nil))) hm (by rw [hn]; decide +kernel) ?_
  try simp -implicitDefEqProofs (maxSteps := 2000000) [-selQ_sel]
  obtain ⟨⟨w2, w3⟩, h_1, H⟩ := HS.bnd H
  dsimp only at H
  try simp -implicitDefEqProofs (maxSteps := 2000000) [-selQ_sel, h_1]
  obtain ⟨⟨w5, w6⟩, h_2, H⟩ := HS.bnd H
  dsimp only at H
  try simp -implicitDefEqProofs (maxSteps := 2000000) [-selQ_sel, h_1, h_2]
  refine Hid.brV (fun h_3 => ?_) (fun h_3 => ?_)
  · replace H := HS.cnd_t h_3 H
    try simp -implicitDefEqProofs (maxSteps := 2000000) [-selQ_sel, h_1, h_2, h_3]
    obtain ⟨⟨w8, w9⟩, h_4, H⟩ := HS.bnd H
    dsimp only at H
    have k_5 := spec_l01PickInt_k w6.b w6.i w6.h [1048576, 1048577, (-1048577)]
    simp -implicitDefEqProofs [-spec_l01PickInt_k] at k_5
    try simp -implicitDefEqProofs (maxSteps := 2000000) [-selQ_sel, h_1, h_2, h_3, h_4, k_5]
    have hr := (HS.some H).symm; subst hr
    refine Hid.mk ⟨_, Wk.refl _, ?_⟩
    try simp -implicitDefEqProofs (maxSteps := 2000000) [-selQ_sel, h_1, h_2, h_3, h_4, k_5]
  · replace H := HS.cnd_f h_3 H
    try simp -implicitDefEqProofs (maxSteps := 2000000) [-selQ_sel, h_1, h_2, h_3]
    refine Hid.brV (fun h_6 => ?_) (fun h_6 => ?_)
    · replace H := HS.cnd_t h_6 H
      try simp -implicitDefEqProofs (maxSteps := 2000000) [-selQ_sel, h_1, h_2, h_3, h_6]
      obtain ⟨⟨w11, w12⟩, h_7, H⟩ := HS.bnd H
      dsimp only at H
      have k_8 := spec_l01PickInt_k w6.b w6.i w6.h [8388608, 8388609]
      simp -implicitDefEqProofs [-spec_l01PickInt_k] at k_8
      try simp -implicitDefEqProofs (maxSteps := 2000000) [-selQ_sel, h_1, h_2, h_3, h_6, h_7, k_8]
      have hr := (HS.some H).symm; subst hr
      refine Hid.mk ⟨_, Wk.refl _, ?_⟩
      try simp -implicitDefEqProofs (maxSteps := 2000000) [-selQ_sel, h_1, h_2, h_3, h_6, h_7, k_8]
    · replace H := HS.cnd_f h_6 H
      try simp -implicitDefEqProofs (maxSteps := 2000000) [-selQ_sel, h_1, h_2, h_3, h_6]
      refine Hid.brV (fun h_9 => ?_) (fun h_9 => ?_)
      · replace H := HS.cnd_t h_9 H
        try simp -implicitDefEqProofs (maxSteps := 2000000) [-selQ_sel, h_1, h_2, h_3, h_6, h_9]
        have hr := (HS.some H).symm; subst hr
        refine Hid.mk ⟨_, Wk.refl _, ?_⟩
        try simp -implicitDefEqProofs (maxSteps := 2000000) [-selQ_sel, h_1, h_2, h_3, h_6, h_9]
      · replace H := HS.cnd_f h_9 H
        try simp -implicitDefEqProofs (maxSteps := 2000000) [-selQ_sel, h_1, h_2, h_3, h_6, h_9]
        have hr := (HS.some H).symm; subst hr
        refine Hid.mk ⟨_, Wk.refl _, ?_⟩
        try simp -implicitDefEqProofs (maxSteps := 2000000) [-selQ_sel, h_1, h_2, h_3, h_6, h_9]
theorem spec_DrawSetNode_ok0 (hm : Try.prog.follows .mixedOrders = true) (k_spec_l01New : Sound Try.prog 37 spec_l01New_x) (k_spec_l15Any : Sound Try.prog 38 spec_l15Any_x) (k_spec_l15AnyNode : Sound Try.prog 39 spec_l15AnyNode_x) (k_spec_l01Once : Sound Try.prog 40 spec_l01Once_x) (k_spec_l01Below : Sound Try.prog 42 spec_l01Below_x) (k_spec_l15Node : Sound Try.prog 41 spec_l15Node_x) : Sound Try.prog 11 spec_DrawSetNode_x := by
  refine xOf_sound fun q r h => ?_
  revert h; revert r; revert q; intro a0 r h
  refine fn_ok E0 hm Try.func11 rfl (by decide +kernel) (by rfl) fun Γ hn hk => ?_
  dsimp only [spec_DrawSetNode_e, spec_DrawSetNode_v]
  replace hn : Γ.n = 22 := hn
  replace hk : Γ.k = 0 := hk
  have H : HS (spec_DrawSetNode a0) r := h
  clear h; unfold spec_DrawSetNode at H
  try simp -implicitDefEqProofs at H
  refine Tr.of_vc (cl := tabC [(37, spec_l01New_x), (38, spec_l15Any_x), (39, spec_l15AnyNode_x), (40, spec_l01Once_x), (42, spec_l01Below_x), (41, spec_l15Node_x)]) (E := E0) [] (tab_cons k_spec_l01New (tab_cons k_spec_l15Any (tab_cons k_spec_l15AnyNode (tab_cons k_spec_l01Once (tab_cons k_spec_l01Below (tab_cons k_spec_l15Node tab_nil)))))) hm (by rw [hn]; decide +kernel) ?_
  try simp -implicitDefEqProofs +decide (maxSteps := 2000000) [-selQ_sel, hokQ_of]
  obtain ⟨v1, h_1, H⟩ := HS.bnd H
  try simp -implicitDefEqProofs +decide (maxSteps := 2000000) [-selQ_sel, hokQ_of, h_1]
  obtain ⟨⟨w3, w4⟩, h_2, H⟩ := HS.bnd H
  dsimp only at H
  try simp -implicitDefEqProofs +decide (maxSteps := 2000000) [-selQ_sel, hokQ_of, h_1, h_2]
  obtain ⟨⟨w6, w7⟩, h_3, H⟩ := HS.bnd H
  dsimp only at H
  try simp -implicitDefEqProofs +decide (maxSteps := 2000000) [-selQ_sel, hokQ_of, h_1, h_2, h_3]
  obtain ⟨⟨w9, w10⟩, h_4, H⟩ := HS.bnd H
  dsimp only at H
  try simp -implicitDefEqProofs +decide (maxSteps := 2000000) [-selQ_sel, hokQ_of, h_1, h_2, h_3, h_4]
  refine Hid.brV (fun h_5 => ?_) (fun h_5 => ?_)
  · replace H := HS.cnd_t h_5 H
    try simp -implicitDefEqProofs +decide (maxSteps := 2000000) [-selQ_sel, hokQ_of, h_1, h_2, h_3, h_4, h_5]
    obtain ⟨⟨w12, w13⟩, h_6, H⟩ := HS.bnd H
    dsimp only at H
    try simp -implicitDefEqProofs +decide (maxSteps := 2000000) [-selQ_sel, hokQ_of, h_1, h_2, h_3, h_4, h_5, h_6]
    obtain ⟨⟨w15, w16⟩, h_7, H⟩ := HS.bnd H
    dsimp only at H
    try simp -implicitDefEqProofs +decide (maxSteps := 2000000) [-selQ_sel, hokQ_of, h_1, h_2, h_3, h_4, h_5, h_6, h_7]
    have hr := (HS.some H).symm; subst hr
    refine Hid.mk ⟨_, Wk.refl _, ?_⟩
    try simp -implicitDefEqProofs +decide (maxSteps := 2000000) [-selQ_sel, hokQ_of, h_1, h_2, h_3, h_4, h_5, h_6, h_7]
  · replace H := HS.cnd_f h_5 H
    try simp -implicitDefEqProofs +decide (maxSteps := 2000000) [-selQ_sel, hokQ_of, h_1, h_2, h_3, h_4, h_5]
    have hr := (HS.some H).symm; subst hr
    refine Hid.mk ⟨_, Wk.refl _, ?_⟩
    try simp -implicitDefEqProofs +decide (maxSteps := 2000000) [-selQ_sel, hokQ_of, h_1, h_2, h_3, h_4, h_5]
theorem spec_l12Paint_ok0 (hm : Try.prog.follows .mixedOrders = true) (k_spec_l12Color : Sound Try.prog 110 spec_l12Color_x) (k_spec_l01Once : Sound Try.prog 40 spec_l01Once_x) (k_spec_l04Point : Sound Try.prog 109 spec_l04Point_x) : Sound Try.prog 78 spec_l12Paint_x := by
  refine xOf_sound fun q r h => ?_
  revert h; revert r; revert q; intro a0 r h
  refine fn_ok E0 hm Try.func78 rfl (by decide +kernel) (by rfl) fun Γ hn hk => ?_
  dsimp only [spec_l12Paint_e, spec_l12Paint_v]
  replace hn : Γ.n = 31 := hn
  replace hk : Γ.k = 1 := hk
  have H : HS (spec_l12Paint a0) r := h
  clear h; unfold spec_l12Paint at H
  try simp -implicitDefEqProofs at H
  refine Tr.of_vc (cl := tabC [(110, spec_l12Color_x), (40, spec_l01Once_x), (109, spec_l04Point_x)]) (E := E0) [] (tab_cons k_spec_l12Color (tab_cons k_spec_l01Once (tab_cons k_spec_l04Point tab_nil))) hm (by rw [hn]; decide +kernel) ?_
  try simp -implicitDefEqProofs (maxSteps := 2000000) [-selQ_sel]
  obtain ⟨⟨w2, w3⟩, h_1, H⟩ := HS.bnd H
  dsimp only at H
  try simp -implicitDefEqProofs (maxSteps := 2000000) [-selQ_sel, h_1]
  obtain ⟨⟨w5, w6⟩, h_2, H⟩ := HS.bnd H
  dsimp only at H
  try simp -implicitDefEqProofs (maxSteps := 2000000) [-selQ_sel, h_1, h_2]
  refine Hid.brV (fun h_3 => ?_) (fun h_3 => ?_)
  · replace H := HS.cnd_t h_3 H
    try simp -implicitDefEqProofs (maxSteps := 2000000) [-selQ_sel, h_1, h_2, h_3]
    obtain ⟨⟨w8, w9⟩, h_4, H⟩ := HS.bnd H
    dsimp only at H
    try simp -implicitDefEqProofs (maxSteps := 2000000) [-selQ_sel, h_1, h_2, h_3, h_4]
    obtain ⟨⟨w11, w12⟩, h_5, H⟩ := HS.bnd H
    dsimp only at H
    try simp -implicitDefEqProofs (maxSteps := 2000000) [-selQ_sel, h_1, h_2, h_3, h_4, h_5]
    obtain ⟨⟨w14, w15⟩, h_6, H⟩ := HS.bnd H
    dsimp only at H
    try simp -implicitDefEqProofs (maxSteps := 2000000) [-selQ_sel, h_1, h_2, h_3, h_4, h_5, h_6]
    refine Hid.brV (fun h_7 => ?_) (fun h_7 => ?_)
    · replace H := HS.cnd_t h_7 H
      try simp -implicitDefEqProofs (maxSteps := 2000000) [-selQ_sel, h_1, h_2, h_3, h_4, h_5, h_6, h_7]
      have hr := (HS.some H).symm; subst hr
      refine Hid.mk ⟨_, Wk.refl _, ?_⟩
      try simp -implicitDefEqProofs (maxSteps := 2000000) [-selQ_sel, h_1, h_2, h_3, h_4, h_5, h_6, h_7]
    · replace H := HS.cnd_f h_7 H
      try simp -implicitDefEqProofs (maxSteps := 2000000) [-selQ_sel, h_1, h_2, h_3, h_4, h_5, h_6, h_7]
      have hr := (HS.some H).symm; subst hr
      refine Hid.mk ⟨_, Wk.refl _, ?_⟩
      try simp -implicitDefEqProofs (maxSteps := 2000000) [-selQ_sel, h_1, h_2, h_3, h_4, h_5, h_6, h_7]
  · replace H := HS.cnd_f h_3 H
    try simp -implicitDefEqProofs (maxSteps := 2000000) [-selQ_sel, h_1, h_2, h_3]
    have hr := (HS.some H).symm; subst hr
    refine Hid.mk ⟨_, Wk.refl _, ?_⟩
    try simp -implicitDefEqProofs (maxSteps := 2000000) [-selQ_sel, h_1, h_2, h_3]
theorem spec_l15CopyPath_ok0 (hm : Try.prog.follows .mixedOrders = true) : Sound Try.prog 98 spec_l15CopyPath_x := by
  refine xOf_sound fun q r h => ?_
  revert h; revert r; revert q; intro a0 r h
  refine fn_ok E0 hm Try.func98 rfl (by decide +kernel) (by rfl) fun Γ hn hk => ?_
  dsimp only [spec_l15CopyPath_e, spec_l15CopyPath_v]
  replace hn : Γ.n = 12 := hn
  replace hk : Γ.k = 0 := hk
  have H : HS (spec_l15CopyPath a0) r := h
  clear h; unfold spec_l15CopyPath at H
  try simp -implicitDefEqProofs at H
  refine Tr.of_vc (cl := tabC []) (E := E0) [] tab_nil hm (by rw [hn]; decide +kernel) ?_
  try simp -implicitDefEqProofs +decide (maxSteps := 2000000) [-selQ_sel, hokQ_of]
  obtain ⟨h_1, H⟩ := HS.chkP H
  try simp -implicitDefEqProofs +decide (maxSteps := 2000000) [-selQ_sel, hokQ_of, h_1]
  obtain ⟨l1, h_2, H⟩ := HS.nam H
  have m_3 := congrArg (List.map (AV.int .i64)) h_2
  have q_4 := congrArg List.length h_2
  simp -implicitDefEqProofs at m_3 q_4
  try simp only [q_4] at m_3
  try simp only [q_4] at h_1
  try simp -implicitDefEqProofs +decide (maxSteps := 2000000) [-selQ_sel, hokQ_of, h_1, m_3, q_4]
  obtain ⟨h_5, H⟩ := HS.chkP H
  try simp -implicitDefEqProofs +decide (maxSteps := 2000000) [-selQ_sel, hokQ_of, h_1, m_3, q_4, h_5]
  obtain ⟨l2, h_6, H⟩ := HS.nam H
  have m_7 := congrArg (List.map ePoint) h_6
  have q_8 := congrArg List.length h_6
  simp -implicitDefEqProofs at m_7 q_8
  try simp only [q_8] at m_7
  try simp only [q_8] at h_5
  try simp -implicitDefEqProofs +decide (maxSteps := 2000000) [-selQ_sel, hokQ_of, h_1, m_3, q_4, h_5, m_7, q_8]
  have hr := (HS.some H).symm; subst hr
  refine Hid.mk ⟨_, Wk.refl _, ?_⟩
  try simp -implicitDefEqProofs +decide (maxSteps := 2000000) [-selQ_sel, hokQ_of, h_1, m_3, q_4, h_5, m_7, q_8]
theorem laws_samePath_ok0 (hm : Try.prog.follows .mixedOrders = true) (k_laws_sameInts : Sound Try.prog 54 laws_sameInts_x) (k_laws_samePoints : Sound Try.prog 99 laws_samePoints_x) : Sound Try.prog 53 laws_samePath_x := by
  refine xOf_sound fun q r h => ?_
  obtain ⟨a0, a1⟩ := q
  refine fn_ok E0 hm Try.func53 rfl (by decide +kernel) (by rfl) fun Γ hn hk => ?_
  dsimp only [laws_samePath_e, laws_samePath_v]
  replace hn : Γ.n = 17 := hn
  replace hk : Γ.k = 0 := hk
  have H : HS (laws_samePath a0 a1) r := h
  clear h; unfold laws_samePath at H
  try simp -implicitDefEqProofs at H
  refine Tr.of_vc (cl := tabC [(54, laws_sameInts_x), (99, laws_samePoints_x)]) (E := E0) [] (tab_cons k_laws_sameInts (tab_cons k_laws_samePoints tab_nil)) hm (by rw [hn]; decide +kernel) ?_
  try simp -implicitDefEqProofs (maxSteps := 2000000) [-selQ_sel]
  obtain ⟨v1, h_1, H⟩ := HS.bnd H
  try simp -implicitDefEqProofs (maxSteps := 2000000) [-selQ_sel, h_1]
  refine Hid.selQ (fun h_2 => ?_) (fun h_2 => ?_)
  · replace H := HS.cnd_t h_2 H
    try simp -implicitDefEqProofs (maxSteps := 2000000) [-selQ_sel, h_1, h_2]
    obtain ⟨v2, h_3, H⟩ := HS.bnd H
    try simp -implicitDefEqProofs (maxSteps := 2000000) [-selQ_sel, h_1, h_2, h_3]
    have hr := (HS.some H).symm; subst hr
    refine Hid.mk ⟨_, Wk.refl _, ?_⟩
    try simp -implicitDefEqProofs (maxSteps := 2000000) [-selQ_sel, h_1, h_2, h_3]
  · replace H := HS.cnd_f h_2 H
    try simp -implicitDefEqProofs (maxSteps := 2000000) [-selQ_sel, h_1, h_2]
    have hr := (HS.some H).symm; subst hr
    refine Hid.mk ⟨_, Wk.refl _, ?_⟩
    try simp -implicitDefEqProofs (maxSteps := 2000000) [-selQ_sel, h_1, h_2]
theorem spec_PointOk_ok0 (hm : Try.prog.follows .mixedOrders = true) (k_spec_l01In : Sound Try.prog 58 spec_l01In_x) : Sound Try.prog 117 spec_PointOk_x := by
  refine xOf_sound fun q r h => ?_
  revert h; revert r; revert q; intro a0 r h
  refine fn_ok E0 hm Try.func117 rfl (by decide +kernel) (by rfl) fun Γ hn hk => ?_
  dsimp only [spec_PointOk_e, spec_PointOk_v]
  replace hn : Γ.n = 11 := hn
  replace hk : Γ.k = 0 := hk
  have H : HS (spec_PointOk a0) r := h
  clear h; unfold spec_PointOk at H
  try simp -implicitDefEqProofs at H
  refine Tr.of_vc (cl := tabC [(58, spec_l01In_x)]) (E := E0) [] (tab_cons k_spec_l01In tab_nil) hm (by rw [hn]; decide +kernel) ?_
  try simp -implicitDefEqProofs (maxSteps := 2000000) [-selQ_sel]
  obtain ⟨v1, h_1, H⟩ := HS.bnd H
  try simp -implicitDefEqProofs (maxSteps := 2000000) [-selQ_sel, h_1]
  refine Hid.selQ (fun h_2 => ?_) (fun h_2 => ?_)
  · replace H := HS.cnd_t h_2 H
    try simp -implicitDefEqProofs (maxSteps := 2000000) [-selQ_sel, h_1, h_2]
    obtain ⟨v2, h_3, H⟩ := HS.bnd H
    try simp -implicitDefEqProofs (maxSteps := 2000000) [-selQ_sel, h_1, h_2, h_3]
    have hr := (HS.some H).symm; subst hr
    refine Hid.mk ⟨_, Wk.refl _, ?_⟩
    try simp -implicitDefEqProofs (maxSteps := 2000000) [-selQ_sel, h_1, h_2, h_3]
  · replace H := HS.cnd_f h_2 H
    try simp -implicitDefEqProofs (maxSteps := 2000000) [-selQ_sel, h_1, h_2]
    have hr := (HS.some H).symm; subst hr
    refine Hid.mk ⟨_, Wk.refl _, ?_⟩
    try simp -implicitDefEqProofs (maxSteps := 2000000) [-selQ_sel, h_1, h_2]
theorem impl_copyNode_ok0 (hm : Try.prog.follows .mixedOrders = true) (k_impl_copyPath : Sound Try.prog 89 impl_copyPath_x) (k_slices_Clone_int : Sound Try.prog 90 slices_Clone_int_x) : Sound Try.prog 47 impl_copyNode_x := by
  refine xOf_sound fun q r h => ?_
  revert h; revert r; revert q; intro a0 r h
  refine fn_ok E0 hm Try.func47 rfl (by decide +kernel) (by rfl) fun Γ hn hk => ?_
  dsimp only [impl_copyNode_e, impl_copyNode_v]
  replace hn : Γ.n = 16 := hn
  replace hk : Γ.k = 0 := hk
  have H : HS (impl_copyNode a0) r := h
  clear h; unfold impl_copyNode at H
  try simp -implicitDefEqProofs at H
  refine Tr.of_vc (cl := tabC [(89, impl_copyPath_x), (90, slices_Clone_int_x)]) (E := E0) [] (tab_cons k_impl_copyPath (tab_cons k_slices_Clone_int tab_nil)) hm (by rw [hn]; decide +kernel) ?_
  try simp -implicitDefEqProofs +decide (maxSteps := 2000000) [-selQ_sel, hokQ_of]
  obtain ⟨v1, h_1, H⟩ := HS.bnd H
  try simp -implicitDefEqProofs +decide (maxSteps := 2000000) [-selQ_sel, hokQ_of, h_1]
  obtain ⟨v2, h_2, H⟩ := HS.bnd H
  try simp -implicitDefEqProofs +decide (maxSteps := 2000000) [-selQ_sel, hokQ_of, h_1, h_2]
  obtain ⟨v3, h_3, H⟩ := HS.bnd H
  try simp -implicitDefEqProofs +decide (maxSteps := 2000000) [-selQ_sel, hokQ_of, h_1, h_2, h_3]
  have hr := (HS.some H).symm; subst hr
  refine Hid.mk ⟨_, Wk.refl _, ?_⟩
  try simp -implicitDefEqProofs +decide (maxSteps := 2000000) [-selQ_sel, hokQ_of, h_1, h_2, h_3]
theorem impl_Path_isNone_ok0 (hm : Try.prog.follows .mixedOrders = true) : Sound Try.prog 87 impl_Path_isNone_x := by
  refine xOf_sound fun q r h => ?_
  revert h; revert r; revert q; intro a0 r h
  refine fn_ok E0 hm Try.func87 rfl (by decide +kernel) (by rfl) fun Γ hn hk => ?_
  dsimp only [impl_Path_isNone_e, impl_Path_isNone_v]
  replace hn : Γ.n = 13 := hn
  replace hk : Γ.k = 0 := hk
  have H : HS (impl_Path_isNone a0) r := h
  clear h; unfold impl_Path_isNone at H
  try simp -implicitDefEqProofs at H
  refine Tr.of_vc (cl := tabC []) (E := E0) [] tab_nil hm (by rw [hn]; decide +kernel) ?_
  try simp -implicitDefEqProofs (maxSteps := 2000000) [-selQ_sel]
  refine Hid.selQ (fun h_1 => ?_) (fun h_1 => ?_)
  · replace H := HS.cnd_t h_1 H
    try simp -implicitDefEqProofs (maxSteps := 2000000) [-selQ_sel, h_1]
    have hr := (HS.some H).symm; subst hr
    refine Hid.mk ⟨_, Wk.refl _, ?_⟩
    try simp -implicitDefEqProofs (maxSteps := 2000000) [-selQ_sel, h_1]
  · replace H := HS.cnd_f h_1 H
    try simp -implicitDefEqProofs (maxSteps := 2000000) [-selQ_sel, h_1]
    have hr := (HS.some H).symm; subst hr
    refine Hid.mk ⟨_, Wk.refl _, ?_⟩
    try simp -implicitDefEqProofs (maxSteps := 2000000) [-selQ_sel, h_1]
theorem impl_inRange_ok0 (hm : Try.prog.follows .mixedOrders = true) : Sound Try.prog 56 impl_inRange_x := by
  refine xOf_sound fun q r h => ?_
  obtain ⟨a0, a1, a2⟩ := q
  refine fn_ok E0 hm Try.func56 rfl (by decide +kernel) (by rfl) fun Γ hn hk => ?_
  dsimp only [impl_inRange_e, impl_inRange_v]
  replace hn : Γ.n = 15 := hn
  replace hk : Γ.k = 0 := hk
  have H : HS (impl_inRange a0 a1 a2) r := h
  clear h; unfold impl_inRange at H
  try simp -implicitDefEqProofs at H
  refine Tr.of_vc (cl := tabC []) (E := E0) [] tab_nil hm (by rw [hn]; decide +kernel) ?_
  try simp -implicitDefEqProofs (maxSteps := 2000000) [-selQ_sel]
  refine Hid.selQ (fun h_1 => ?_) (fun h_1 => ?_)
  · replace H := HS.cnd_t h_1 H
    try simp -implicitDefEqProofs (maxSteps := 2000000) [-selQ_sel, h_1]
    have hr := (HS.some H).symm; subst hr
    refine Hid.mk ⟨_, Wk.refl _, ?_⟩
    try simp -implicitDefEqProofs (maxSteps := 2000000) [-selQ_sel, h_1]
  · replace H := HS.cnd_f h_1 H
    try simp -implicitDefEqProofs (maxSteps := 2000000) [-selQ_sel, h_1]
    have hr := (HS.some H).symm; subst hr
    refine Hid.mk ⟨_, Wk.refl _, ?_⟩
    try simp -implicitDefEqProofs (maxSteps := 2000000) [-selQ_sel, h_1]
theorem spec_l04Point_ok0 (hm : Try.prog.follows .mixedOrders = true) (k_spec_l01Below : Sound Try.prog 42 spec_l01Below_x) : Sound Try.prog 109 spec_l04Point_x := by
  refine xOf_sound fun q r h => ?_
  revert h; revert r; revert q; intro a0 r h
  refine fn_ok E0 hm Try.func109 rfl (by decide +kernel) (by rfl) fun Γ hn hk => ?_
  dsimp only [spec_l04Point_e, spec_l04Point_v]
  replace hn : Γ.n = 10 := hn
  replace hk : Γ.k = 1 := hk
  have H : HS (spec_l04Point a0) r := h
  clear h; unfold spec_l04Point at H
  try simp -implicitDefEqProofs at H
  refine Tr.of_vc (cl := tabC [(42, spec_l01Below_x)]) (E := E0) [] (tab_cons k_spec_l01Below tab_nil) hm (by rw [hn]; decide +kernel) ?_
  try simp -implicitDefEqProofs (maxSteps := 2000000) [-selQ_sel]
  obtain ⟨⟨w2, w3⟩, h_1, H⟩ := HS.bnd H
  dsimp only at H
  try simp -implicitDefEqProofs (maxSteps := 2000000) [-selQ_sel, h_1]
  obtain ⟨⟨w5, w6⟩, h_2, H⟩ := HS.bnd H
  dsimp only at H
  try simp -implicitDefEqProofs (maxSteps := 2000000) [-selQ_sel, h_1, h_2]
  have hr := (HS.some H).symm; subst hr
  refine Hid.mk ⟨_, Wk.refl _, ?_⟩
  try simp -implicitDefEqProofs (maxSteps := 2000000) [-selQ_sel, h_1, h_2]
theorem impl_isByte_ok0 (hm : Try.prog.follows .mixedOrders = true) (k_impl_inRange : Sound Try.prog 56 impl_inRange_x) : Sound Try.prog 86 impl_isByte_x := by
  refine xOf_sound fun q r h => ?_
  revert h; revert r; revert q; intro a0 r h
  refine fn_ok E0 hm Try.func86 rfl (by decide +kernel) (by rfl) fun Γ hn hk => ?_
  dsimp only [impl_isByte_e, impl_isByte_v]
  replace hn : Γ.n = 5 := hn
  replace hk : Γ.k = 0 := hk
  have H : HS (impl_isByte a0) r := h
  clear h; unfold impl_isByte at H
  try simp -implicitDefEqProofs at H
  refine Tr.of_vc (cl := tabC [(56, impl_inRange_x)]) (E := E0) [] (tab_cons k_impl_inRange tab_nil) hm (by rw [hn]; decide +kernel) ?_
  try simp -implicitDefEqProofs (maxSteps := 2000000) [-selQ_sel]
  obtain ⟨v1, h_1, H⟩ := HS.bnd H
  try simp -implicitDefEqProofs (maxSteps := 2000000) [-selQ_sel, h_1]
  have hr := (HS.some H).symm; subst hr
  refine Hid.mk ⟨_, Wk.refl _, ?_⟩
  try simp -implicitDefEqProofs (maxSteps := 2000000) [-selQ_sel, h_1]
theorem impl_NodeAt_1_ok0 (hm : Try.prog.follows .mixedOrders = true) : Sound Try.prog 81 impl_NodeAt_1_x := by
  refine xOf_sound fun q r h => ?_
  obtain ⟨a0, a1⟩ := q
  refine fn_ok E0 hm Try.func81 rfl (by decide +kernel) (by rfl) fun Γ hn hk => ?_
  dsimp only [impl_NodeAt_1_e, impl_NodeAt_1_v]
  replace hn : Γ.n = 8 := hn
  replace hk : Γ.k = 0 := hk
  have H : HS (impl_NodeAt_1 a0 a1) r := h
  clear h; unfold impl_NodeAt_1 at H
  try simp -implicitDefEqProofs at H
  refine Tr.of_vc (cl := tabC []) (E := E0) [] tab_nil hm (by rw [hn]; decide +kernel) ?_
  try simp -implicitDefEqProofs (maxSteps := 2000000) [-selQ_sel]
  have hr := (HS.some H).symm; subst hr
  refine Hid.mk ⟨_, Wk.refl _, ?_⟩
  try simp -implicitDefEqProofs (maxSteps := 2000000) [-selQ_sel]
theorem spec_Shift_ok0 (hm : Try.prog.follows .mixedOrders = true) : Sound Try.prog 106 spec_Shift_x := by
  refine xOf_sound fun q r h => ?_
  obtain ⟨a0, a1⟩ := q
  refine fn_ok E0 hm Try.func106 rfl (by decide +kernel) (by rfl) fun Γ hn hk => ?_
  dsimp only [spec_Shift_e, spec_Shift_v]
  replace hn : Γ.n = 8 := hn
  replace hk : Γ.k = 0 := hk
  have H : HS (spec_Shift a0 a1) r := h
  clear h; unfold spec_Shift at H
  try simp -implicitDefEqProofs at H
  refine Tr.of_vc (cl := tabC []) (E := E0) [] tab_nil hm (by rw [hn]; decide +kernel) ?_
  try simp -implicitDefEqProofs (maxSteps := 2000000) [-selQ_sel]
  have hr := (HS.some H).symm; subst hr
  refine Hid.mk ⟨_, Wk.refl _, ?_⟩
  try simp -implicitDefEqProofs (maxSteps := 2000000) [-selQ_sel]
end Go.Proofs.Ytokobfpimdadmaa.Am
