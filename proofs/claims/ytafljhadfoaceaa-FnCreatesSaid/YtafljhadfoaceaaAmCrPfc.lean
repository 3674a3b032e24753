import Derived.Test.YtafljhadfoaceaaAmCrMo
set_option linter.unusedVariables false
set_option linter.unusedSimpArgs false
set_option linter.unusedSectionVars false
namespace Go.Proofs.Ytafljhadfoaceaa.Am
open Go Go.Proofs
set_option maxRecDepth 100000
set_option linter.unusedSimpArgs false
set_option linter.unusedVariables false
set_option maxHeartbeats 4000000
theorem spec_l15Node_ok0 (hm : Try.prog.follows .mixedOrders = true) (k_spec_Still : Sound Try.prog 172 spec_Still_x) (k_spec_l01PickInt : Sound Try.prog 171 spec_l01PickInt_x) (k_spec_l01Once : Sound Try.prog 170 spec_l01Once_x) (k_spec_l04Mat : Sound Try.prog 173 spec_l04Mat_x) (k_spec_l06Path : Sound Try.prog 169 spec_l06Path_x) (k_spec_l12Paint : Sound Try.prog 174 spec_l12Paint_x) (k_spec_l01Below : Sound Try.prog 107 spec_l01Below_x) : Sound Try.prog 110 spec_l15Node_x := by
 refine xOf_sound fun q r h => ?_
 obtain ⟨a0, a1, a2⟩ := q
 refine fn_ok E0 hm Try.func110 rfl (by decide +kernel) (by rfl) fun Γ hn hk => ?_
 dsimp only [spec_l15Node_e, spec_l15Node_v]
 replace hn : Γ.n = 58 := hn
 replace hk : Γ.k = 1 := hk
 have H : HS (spec_l15Node a0 a1 a2) r := h
 clear h; unfold spec_l15Node at H
 try simp -implicitDefEqProofs at H
 refine Tr.of_vc (cl := tabC [(172, spec_Still_x), (171, spec_l01PickInt_x), (170, spec_l01Once_x), (173, spec_l04Mat_x), (169, spec_l06Path_x), (174, spec_l12Paint_x), (107, spec_l01Below_x)]) (E := E0) [] (tab_cons k_spec_Still (tab_cons k_spec_l01PickInt (tab_cons k_spec_l01Once (tab_cons k_spec_l04Mat (tab_cons k_spec_l06Path (tab_cons k_spec_l12Paint (tab_cons k_spec_l01Below tab_nil))))))) hm (by rw [hn]; decide +kernel) ?_
 try simp -implicitDefEqProofs (maxSteps := 999999) [-selQ_sel]
 obtain ⟨v1, h_1, H⟩ := HS.bnd H
 try simp -implicitDefEqProofs (maxSteps := 999999) [-selQ_sel, h_1]
 obtain ⟨⟨w3, w4⟩, h_2, H⟩ := HS.bnd H
 dsimp only at H
 have k_3 := spec_l01PickInt_k a2.b a2.i a2.h [1, 1, 1, 2, 3, 4, 5]
 simp -implicitDefEqProofs [-spec_l01PickInt_k] at k_3
 try simp -implicitDefEqProofs (maxSteps := 999999) [-selQ_sel, h_1, h_2, k_3]
 obtain ⟨⟨w6, w7⟩, h_4, H⟩ := HS.bnd H
 dsimp only at H
 have k_5 := spec_l01PickInt_k w4.b w4.i w4.h [255, 255, 255, 128, 0]
 simp -implicitDefEqProofs [-spec_l01PickInt_k] at k_5
 try simp -implicitDefEqProofs (maxSteps := 999999) [-selQ_sel, h_1, h_2, k_3, h_4, k_5]
 obtain ⟨⟨w9, w10⟩, h_6, H⟩ := HS.bnd H
 dsimp only at H
 try simp -implicitDefEqProofs (maxSteps := 999999) [-selQ_sel, h_1, h_2, k_3, h_4, k_5, h_6]
 refine Hid.brV (fun h_7 => ?_) (fun h_7 => ?_)
 ·replace H := HS.cnd_t h_7 H
  try simp -implicitDefEqProofs (maxSteps := 999999) [-selQ_sel, h_1, h_2, k_3, h_4, k_5, h_6, h_7]
  obtain ⟨⟨w12, w13⟩, h_8, H⟩ := HS.bnd H
  dsimp only at H
  try simp -implicitDefEqProofs (maxSteps := 999999) [-selQ_sel, h_1, h_2, k_3, h_4, k_5, h_6, h_7, h_8]
  obtain ⟨⟨w15, w16⟩, h_9, H⟩ := HS.bnd H
  dsimp only at H
  try simp -implicitDefEqProofs (maxSteps := 999999) [-selQ_sel, h_1, h_2, k_3, h_4, k_5, h_6, h_7, h_8, h_9]
  refine Hid.brV (fun h_10 => ?_) (fun h_10 => ?_)
  ·replace H := HS.cnd_t h_10 H
   try simp -implicitDefEqProofs (maxSteps := 999999) [-selQ_sel, h_1, h_2, k_3, h_4, k_5, h_6, h_7, h_8, h_9, h_10]
   obtain ⟨⟨w18, w19⟩, h_11, H⟩ := HS.bnd H
   dsimp only at H
   try simp -implicitDefEqProofs (maxSteps := 999999) [-selQ_sel, h_1, h_2, k_3, h_4, k_5, h_6, h_7, h_8, h_9, h_10, h_11]
   obtain ⟨⟨w21, w22⟩, h_12, H⟩ := HS.bnd H
   dsimp only at H
   try simp -implicitDefEqProofs (maxSteps := 999999) [-selQ_sel, h_1, h_2, k_3, h_4, k_5, h_6, h_7, h_8, h_9, h_10, h_11, h_12]
   refine Hid.brV (fun h_13 => ?_) (fun h_13 => ?_)
   ·replace H := HS.cnd_t h_13 H
    try simp -implicitDefEqProofs (maxSteps := 999999) [-selQ_sel, h_1, h_2, k_3, h_4, k_5, h_6, h_7, h_8, h_9, h_10, h_11, h_12, h_13]
    have hr := (HS.some H).symm; subst hr
    refine Hid.mk ⟨_, Wk.refl _, ?_⟩
    try simp -implicitDefEqProofs (maxSteps := 999999) [-selQ_sel, h_1, h_2, k_3, h_4, k_5, h_6, h_7, h_8, h_9, h_10, h_11, h_12, h_13]
   ·replace H := HS.cnd_f h_13 H
    try simp -implicitDefEqProofs (maxSteps := 999999) [-selQ_sel, h_1, h_2, k_3, h_4, k_5, h_6, h_7, h_8, h_9, h_10, h_11, h_12, h_13]
    obtain ⟨⟨w24, w25⟩, h_14, H⟩ := HS.bnd H
    dsimp only at H
    try simp -implicitDefEqProofs (maxSteps := 999999) [-selQ_sel, h_1, h_2, k_3, h_4, k_5, h_6, h_7, h_8, h_9, h_10, h_11, h_12, h_13, h_14]
    obtain ⟨⟨w27, w28⟩, h_15, H⟩ := HS.bnd H
    dsimp only at H
    try simp -implicitDefEqProofs (maxSteps := 999999) [-selQ_sel, h_1, h_2, k_3, h_4, k_5, h_6, h_7, h_8, h_9, h_10, h_11, h_12, h_13, h_14, h_15]
    obtain ⟨⟨w30, w31⟩, h_16, H⟩ := HS.bnd H
    dsimp only at H
    try simp -implicitDefEqProofs (maxSteps := 999999) [-selQ_sel, h_1, h_2, k_3, h_4, k_5, h_6, h_7, h_8, h_9, h_10, h_11, h_12, h_13, h_14, h_15, h_16]
    obtain ⟨⟨w33, w34⟩, h_17, H⟩ := HS.bnd H
    dsimp only at H
    try simp -implicitDefEqProofs (maxSteps := 999999) [-selQ_sel, h_1, h_2, k_3, h_4, k_5, h_6, h_7, h_8, h_9, h_10, h_11, h_12, h_13, h_14, h_15, h_16, h_17]
    refine Hid.brV (fun h_18 => ?_) (fun h_18 => ?_)
    ·replace H := HS.cnd_t h_18 H
     try simp -implicitDefEqProofs (maxSteps := 999999) [-selQ_sel, h_1, h_2, k_3, h_4, k_5, h_6, h_7, h_8, h_9, h_10, h_11, h_12, h_13, h_14, h_15, h_16, h_17, h_18]
     obtain ⟨⟨w36, w37⟩, h_19, H⟩ := HS.bnd H
     dsimp only at H
     try simp -implicitDefEqProofs (maxSteps := 999999) [-selQ_sel, h_1, h_2, k_3, h_4, k_5, h_6, h_7, h_8, h_9, h_10, h_11, h_12, h_13, h_14, h_15, h_16, h_17, h_18, h_19]
     obtain ⟨⟨w39, w40⟩, h_20, H⟩ := HS.bnd H
     dsimp only at H
     try simp -implicitDefEqProofs (maxSteps := 999999) [-selQ_sel, h_1, h_2, k_3, h_4, k_5, h_6, h_7, h_8, h_9, h_10, h_11, h_12, h_13, h_14, h_15, h_16, h_17, h_18, h_19, h_20]
     refine Hid.brV (fun h_21 => ?_) (fun h_21 => ?_)
     ·replace H := HS.cnd_t h_21 H
      try simp -implicitDefEqProofs (maxSteps := 999999) [-selQ_sel, h_1, h_2, k_3, h_4, k_5, h_6, h_7, h_8, h_9, h_10, h_11, h_12, h_13, h_14, h_15, h_16, h_17, h_18, h_19, h_20, h_21]
      obtain ⟨⟨w42, w43⟩, h_22, H⟩ := HS.bnd H
      dsimp only at H
      try simp -implicitDefEqProofs (maxSteps := 999999) [-selQ_sel, h_1, h_2, k_3, h_4, k_5, h_6, h_7, h_8, h_9, h_10, h_11, h_12, h_13, h_14, h_15, h_16, h_17, h_18, h_19, h_20, h_21, h_22]
      obtain ⟨⟨w45, w46⟩, h_23, H⟩ := HS.bnd H
      dsimp only at H
      try simp -implicitDefEqProofs (maxSteps := 999999) [-selQ_sel, h_1, h_2, k_3, h_4, k_5, h_6, h_7, h_8, h_9, h_10, h_11, h_12, h_13, h_14, h_15, h_16, h_17, h_18, h_19, h_20, h_21, h_22, h_23]
      have hr := (HS.some H).symm; subst hr
      refine Hid.mk ⟨_, Wk.refl _, ?_⟩
      try simp -implicitDefEqProofs (maxSteps := 999999) [-selQ_sel, h_1, h_2, k_3, h_4, k_5, h_6, h_7, h_8, h_9, h_10, h_11, h_12, h_13, h_14, h_15, h_16, h_17, h_18, h_19, h_20, h_21, h_22, h_23]
     ·replace H := HS.cnd_f h_21 H
      try simp -implicitDefEqProofs (maxSteps := 999999) [-selQ_sel, h_1, h_2, k_3, h_4, k_5, h_6, h_7, h_8, h_9, h_10, h_11, h_12, h_13, h_14, h_15, h_16, h_17, h_18, h_19, h_20, h_21]
      have hr := (HS.some H).symm; subst hr
      refine Hid.mk ⟨_, Wk.refl _, ?_⟩
      try simp -implicitDefEqProofs (maxSteps := 999999) [-selQ_sel, h_1, h_2, k_3, h_4, k_5, h_6, h_7, h_8, h_9, h_10, h_11, h_12, h_13, h_14, h_15, h_16, h_17, h_18, h_19, h_20, h_21]
    ·replace H := HS.cnd_f h_18 H
     try simp -implicitDefEqProofs (maxSteps := 999999) [-selQ_sel, h_1, h_2, k_3, h_4, k_5, h_6, h_7, h_8, h_9, h_10, h_11, h_12, h_13, h_14, h_15, h_16, h_17, h_18]
     have hr := (HS.some H).symm; subst hr
     refine Hid.mk ⟨_, Wk.refl _, ?_⟩
     try simp -implicitDefEqProofs (maxSteps := 999999) [-selQ_sel, h_1, h_2, k_3, h_4, k_5, h_6, h_7, h_8, h_9, h_10, h_11, h_12, h_13, h_14, h_15, h_16, h_17, h_18]
  ·replace H := HS.cnd_f h_10 H
   try simp -implicitDefEqProofs (maxSteps := 999999) [-selQ_sel, h_1, h_2, k_3, h_4, k_5, h_6, h_7, h_8, h_9, h_10]
   obtain ⟨⟨w48, w49⟩, h_24, H⟩ := HS.bnd H
   dsimp only at H
   try simp -implicitDefEqProofs (maxSteps := 999999) [-selQ_sel, h_1, h_2, k_3, h_4, k_5, h_6, h_7, h_8, h_9, h_10, h_24]
   refine Hid.brV (fun h_25 => ?_) (fun h_25 => ?_)
   ·replace H := HS.cnd_t h_25 H
    try simp -implicitDefEqProofs (maxSteps := 999999) [-selQ_sel, h_1, h_2, k_3, h_4, k_5, h_6, h_7, h_8, h_9, h_10, h_24, h_25]
    have hr := (HS.some H).symm; subst hr
    refine Hid.mk ⟨_, Wk.refl _, ?_⟩
    try simp -implicitDefEqProofs (maxSteps := 999999) [-selQ_sel, h_1, h_2, k_3, h_4, k_5, h_6, h_7, h_8, h_9, h_10, h_24, h_25]
   ·replace H := HS.cnd_f h_25 H
    try simp -implicitDefEqProofs (maxSteps := 999999) [-selQ_sel, h_1, h_2, k_3, h_4, k_5, h_6, h_7, h_8, h_9, h_10, h_24, h_25]
    obtain ⟨⟨w51, w52⟩, h_26, H⟩ := HS.bnd H
    dsimp only at H
    try simp -implicitDefEqProofs (maxSteps := 999999) [-selQ_sel, h_1, h_2, k_3, h_4, k_5, h_6, h_7, h_8, h_9, h_10, h_24, h_25, h_26]
    obtain ⟨⟨w54, w55⟩, h_27, H⟩ := HS.bnd H
    dsimp only at H
    try simp -implicitDefEqProofs (maxSteps := 999999) [-selQ_sel, h_1, h_2, k_3, h_4, k_5, h_6, h_7, h_8, h_9, h_10, h_24, h_25, h_26, h_27]
    obtain ⟨⟨w57, w58⟩, h_28, H⟩ := HS.bnd H
    dsimp only at H
    try simp -implicitDefEqProofs (maxSteps := 999999) [-selQ_sel, h_1, h_2, k_3, h_4, k_5, h_6, h_7, h_8, h_9, h_10, h_24, h_25, h_26, h_27, h_28]
    obtain ⟨⟨w60, w61⟩, h_29, H⟩ := HS.bnd H
    dsimp only at H
    try simp -implicitDefEqProofs (maxSteps := 999999) [-selQ_sel, h_1, h_2, k_3, h_4, k_5, h_6, h_7, h_8, h_9, h_10, h_24, h_25, h_26, h_27, h_28, h_29]
    refine Hid.brV (fun h_30 => ?_) (fun h_30 => ?_)
    ·replace H := HS.cnd_t h_30 H
     try simp -implicitDefEqProofs (maxSteps := 999999) [-selQ_sel, h_1, h_2, k_3, h_4, k_5, h_6, h_7, h_8, h_9, h_10, h_24, h_25, h_26, h_27, h_28, h_29, h_30]
     obtain ⟨⟨w63, w64⟩, h_31, H⟩ := HS.bnd H
     dsimp only at H
     try simp -implicitDefEqProofs (maxSteps := 999999) [-selQ_sel, h_1, h_2, k_3, h_4, k_5, h_6, h_7, h_8, h_9, h_10, h_24, h_25, h_26, h_27, h_28, h_29, h_30, h_31]
     obtain ⟨⟨w66, w67⟩, h_32, H⟩ := HS.bnd H
     dsimp only at H
     try simp -implicitDefEqProofs (maxSteps := 999999) [-selQ_sel, h_1, h_2, k_3, h_4, k_5, h_6, h_7, h_8, h_9, h_10, h_24, h_25, h_26, h_27, h_28, h_29, h_30, h_31, h_32]
     refine Hid.brV (fun h_33 => ?_) (fun h_33 => ?_)
     ·replace H := HS.cnd_t h_33 H
      try simp -implicitDefEqProofs (maxSteps := 999999) [-selQ_sel, h_1, h_2, k_3, h_4, k_5, h_6, h_7, h_8, h_9, h_10, h_24, h_25, h_26, h_27, h_28, h_29, h_30, h_31, h_32, h_33]
      obtain ⟨⟨w69, w70⟩, h_34, H⟩ := HS.bnd H
      dsimp only at H
      try simp -implicitDefEqProofs (maxSteps := 999999) [-selQ_sel, h_1, h_2, k_3, h_4, k_5, h_6, h_7, h_8, h_9, h_10, h_24, h_25, h_26, h_27, h_28, h_29, h_30, h_31, h_32, h_33, h_34]
      obtain ⟨⟨w72, w73⟩, h_35, H⟩ := HS.bnd H
      dsimp only at H
      try simp -implicitDefEqProofs (maxSteps := 999999) [-selQ_sel, h_1, h_2, k_3, h_4, k_5, h_6, h_7, h_8, h_9, h_10, h_24, h_25, h_26, h_27, h_28, h_29, h_30, h_31, h_32, h_33, h_34, h_35]
      have hr := (HS.some H).symm; subst hr
      refine Hid.mk ⟨_, Wk.refl _, ?_⟩
      try simp -implicitDefEqProofs (maxSteps := 999999) [-selQ_sel, h_1, h_2, k_3, h_4, k_5, h_6, h_7, h_8, h_9, h_10, h_24, h_25, h_26, h_27, h_28, h_29, h_30, h_31, h_32, h_33, h_34, h_35]
     ·replace H := HS.cnd_f h_33 H
      try simp -implicitDefEqProofs (maxSteps := 999999) [-selQ_sel, h_1, h_2, k_3, h_4, k_5, h_6, h_7, h_8, h_9, h_10, h_24, h_25, h_26, h_27, h_28, h_29, h_30, h_31, h_32, h_33]
      have hr := (HS.some H).symm; subst hr
      refine Hid.mk ⟨_, Wk.refl _, ?_⟩
      try simp -implicitDefEqProofs (maxSteps := 999999) [-selQ_sel, h_1, h_2, k_3, h_4, k_5, h_6, h_7, h_8, h_9, h_10, h_24, h_25, h_26, h_27, h_28, h_29, h_30, h_31, h_32, h_33]
    ·replace H := HS.cnd_f h_30 H
     try simp -implicitDefEqProofs (maxSteps := 999999) [-selQ_sel, h_1, h_2, k_3, h_4, k_5, h_6, h_7, h_8, h_9, h_10, h_24, h_25, h_26, h_27, h_28, h_29, h_30]
     have hr := (HS.some H).symm; subst hr
     refine Hid.mk ⟨_, Wk.refl _, ?_⟩
     try simp -implicitDefEqProofs (maxSteps := 999999) [-selQ_sel, h_1, h_2, k_3, h_4, k_5, h_6, h_7, h_8, h_9, h_10, h_24, h_25, h_26, h_27, h_28, h_29, h_30]
 ·replace H := HS.cnd_f h_7 H
  try simp -implicitDefEqProofs (maxSteps := 999999) [-selQ_sel, h_1, h_2, k_3, h_4, k_5, h_6, h_7]
  obtain ⟨⟨w75, w76⟩, h_36, H⟩ := HS.bnd H
  dsimp only at H
  try simp -implicitDefEqProofs (maxSteps := 999999) [-selQ_sel, h_1, h_2, k_3, h_4, k_5, h_6, h_7, h_36]
  refine Hid.brV (fun h_37 => ?_) (fun h_37 => ?_)
  ·replace H := HS.cnd_t h_37 H
   try simp -implicitDefEqProofs (maxSteps := 999999) [-selQ_sel, h_1, h_2, k_3, h_4, k_5, h_6, h_7, h_36, h_37]
   obtain ⟨⟨w78, w79⟩, h_38, H⟩ := HS.bnd H
   dsimp only at H
   try simp -implicitDefEqProofs (maxSteps := 999999) [-selQ_sel, h_1, h_2, k_3, h_4, k_5, h_6, h_7, h_36, h_37, h_38]
   obtain ⟨⟨w81, w82⟩, h_39, H⟩ := HS.bnd H
   dsimp only at H
   try simp -implicitDefEqProofs (maxSteps := 999999) [-selQ_sel, h_1, h_2, k_3, h_4, k_5, h_6, h_7, h_36, h_37, h_38, h_39]
   refine Hid.brV (fun h_40 => ?_) (fun h_40 => ?_)
   ·replace H := HS.cnd_t h_40 H
    try simp -implicitDefEqProofs (maxSteps := 999999) [-selQ_sel, h_1, h_2, k_3, h_4, k_5, h_6, h_7, h_36, h_37, h_38, h_39, h_40]
    have hr := (HS.some H).symm; subst hr
    refine Hid.mk ⟨_, Wk.refl _, ?_⟩
    try simp -implicitDefEqProofs (maxSteps := 999999) [-selQ_sel, h_1, h_2, k_3, h_4, k_5, h_6, h_7, h_36, h_37, h_38, h_39, h_40]
   ·replace H := HS.cnd_f h_40 H
    try simp -implicitDefEqProofs (maxSteps := 999999) [-selQ_sel, h_1, h_2, k_3, h_4, k_5, h_6, h_7, h_36, h_37, h_38, h_39, h_40]
    obtain ⟨⟨w84, w85⟩, h_41, H⟩ := HS.bnd H
    dsimp only at H
    try simp -implicitDefEqProofs (maxSteps := 999999) [-selQ_sel, h_1, h_2, k_3, h_4, k_5, h_6, h_7, h_36, h_37, h_38, h_39, h_40, h_41]
    obtain ⟨⟨w87, w88⟩, h_42, H⟩ := HS.bnd H
    dsimp only at H
    try simp -implicitDefEqProofs (maxSteps := 999999) [-selQ_sel, h_1, h_2, k_3, h_4, k_5, h_6, h_7, h_36, h_37, h_38, h_39, h_40, h_41, h_42]
    obtain ⟨⟨w90, w91⟩, h_43, H⟩ := HS.bnd H
    dsimp only at H
    try simp -implicitDefEqProofs (maxSteps := 999999) [-selQ_sel, h_1, h_2, k_3, h_4, k_5, h_6, h_7, h_36, h_37, h_38, h_39, h_40, h_41, h_42, h_43]
    obtain ⟨⟨w93, w94⟩, h_44, H⟩ := HS.bnd H
    dsimp only at H
    try simp -implicitDefEqProofs (maxSteps := 999999) [-selQ_sel, h_1, h_2, k_3, h_4, k_5, h_6, h_7, h_36, h_37, h_38, h_39, h_40, h_41, h_42, h_43, h_44]
    refine Hid.brV (fun h_45 => ?_) (fun h_45 => ?_)
    ·replace H := HS.cnd_t h_45 H
     try simp -implicitDefEqProofs (maxSteps := 999999) [-selQ_sel, h_1, h_2, k_3, h_4, k_5, h_6, h_7, h_36, h_37, h_38, h_39, h_40, h_41, h_42, h_43, h_44, h_45]
     obtain ⟨⟨w96, w97⟩, h_46, H⟩ := HS.bnd H
     dsimp only at H
     try simp -implicitDefEqProofs (maxSteps := 999999) [-selQ_sel, h_1, h_2, k_3, h_4, k_5, h_6, h_7, h_36, h_37, h_38, h_39, h_40, h_41, h_42, h_43, h_44, h_45, h_46]
     obtain ⟨⟨w99, w100⟩, h_47, H⟩ := HS.bnd H
     dsimp only at H
     try simp -implicitDefEqProofs (maxSteps := 999999) [-selQ_sel, h_1, h_2, k_3, h_4, k_5, h_6, h_7, h_36, h_37, h_38, h_39, h_40, h_41, h_42, h_43, h_44, h_45, h_46, h_47]
     refine Hid.brV (fun h_48 => ?_) (fun h_48 => ?_)
     ·replace H := HS.cnd_t h_48 H
      try simp -implicitDefEqProofs (maxSteps := 999999) [-selQ_sel, h_1, h_2, k_3, h_4, k_5, h_6, h_7, h_36, h_37, h_38, h_39, h_40, h_41, h_42, h_43, h_44, h_45, h_46, h_47, h_48]
      obtain ⟨⟨w102, w103⟩, h_49, H⟩ := HS.bnd H
      dsimp only at H
      try simp -implicitDefEqProofs (maxSteps := 999999) [-selQ_sel, h_1, h_2, k_3, h_4, k_5, h_6, h_7, h_36, h_37, h_38, h_39, h_40, h_41, h_42, h_43, h_44, h_45, h_46, h_47, h_48, h_49]
      obtain ⟨⟨w105, w106⟩, h_50, H⟩ := HS.bnd H
      dsimp only at H
      try simp -implicitDefEqProofs (maxSteps := 999999) [-selQ_sel, h_1, h_2, k_3, h_4, k_5, h_6, h_7, h_36, h_37, h_38, h_39, h_40, h_41, h_42, h_43, h_44, h_45, h_46, h_47, h_48, h_49, h_50]
      have hr := (HS.some H).symm; subst hr
      refine Hid.mk ⟨_, Wk.refl _, ?_⟩
      try simp -implicitDefEqProofs (maxSteps := 999999) [-selQ_sel, h_1, h_2, k_3, h_4, k_5, h_6, h_7, h_36, h_37, h_38, h_39, h_40, h_41, h_42, h_43, h_44, h_45, h_46, h_47, h_48, h_49, h_50]
     ·replace H := HS.cnd_f h_48 H
      try simp -implicitDefEqProofs (maxSteps := 999999) [-selQ_sel, h_1, h_2, k_3, h_4, k_5, h_6, h_7, h_36, h_37, h_38, h_39, h_40, h_41, h_42, h_43, h_44, h_45, h_46, h_47, h_48]
      have hr := (HS.some H).symm; subst hr
      refine Hid.mk ⟨_, Wk.refl _, ?_⟩
      try simp -implicitDefEqProofs (maxSteps := 999999) [-selQ_sel, h_1, h_2, k_3, h_4, k_5, h_6, h_7, h_36, h_37, h_38, h_39, h_40, h_41, h_42, h_43, h_44, h_45, h_46, h_47, h_48]
    ·replace H := HS.cnd_f h_45 H
     try simp -implicitDefEqProofs (maxSteps := 999999) [-selQ_sel, h_1, h_2, k_3, h_4, k_5, h_6, h_7, h_36, h_37, h_38, h_39, h_40, h_41, h_42, h_43, h_44, h_45]
     have hr := (HS.some H).symm; subst hr
     refine Hid.mk ⟨_, Wk.refl _, ?_⟩
     try simp -implicitDefEqProofs (maxSteps := 999999) [-selQ_sel, h_1, h_2, k_3, h_4, k_5, h_6, h_7, h_36, h_37, h_38, h_39, h_40, h_41, h_42, h_43, h_44, h_45]
  ·replace H := HS.cnd_f h_37 H
   try simp -implicitDefEqProofs (maxSteps := 999999) [-selQ_sel, h_1, h_2, k_3, h_4, k_5, h_6, h_7, h_36, h_37]
   obtain ⟨⟨w108, w109⟩, h_51, H⟩ := HS.bnd H
   dsimp only at H
   try simp -implicitDefEqProofs (maxSteps := 999999) [-selQ_sel, h_1, h_2, k_3, h_4, k_5, h_6, h_7, h_36, h_37, h_51]
   refine Hid.brV (fun h_52 => ?_) (fun h_52 => ?_)
   ·replace H := HS.cnd_t h_52 H
    try simp -implicitDefEqProofs (maxSteps := 999999) [-selQ_sel, h_1, h_2, k_3, h_4, k_5, h_6, h_7, h_36, h_37, h_51, h_52]
    have hr := (HS.some H).symm; subst hr
    refine Hid.mk ⟨_, Wk.refl _, ?_⟩
    try simp -implicitDefEqProofs (maxSteps := 999999) [-selQ_sel, h_1, h_2, k_3, h_4, k_5, h_6, h_7, h_36, h_37, h_51, h_52]
   ·replace H := HS.cnd_f h_52 H
    try simp -implicitDefEqProofs (maxSteps := 999999) [-selQ_sel, h_1, h_2, k_3, h_4, k_5, h_6, h_7, h_36, h_37, h_51, h_52]
    obtain ⟨⟨w111, w112⟩, h_53, H⟩ := HS.bnd H
    dsimp only at H
    try simp -implicitDefEqProofs (maxSteps := 999999) [-selQ_sel, h_1, h_2, k_3, h_4, k_5, h_6, h_7, h_36, h_37, h_51, h_52, h_53]
    obtain ⟨⟨w114, w115⟩, h_54, H⟩ := HS.bnd H
    dsimp only at H
    try simp -implicitDefEqProofs (maxSteps := 999999) [-selQ_sel, h_1, h_2, k_3, h_4, k_5, h_6, h_7, h_36, h_37, h_51, h_52, h_53, h_54]
    obtain ⟨⟨w117, w118⟩, h_55, H⟩ := HS.bnd H
    dsimp only at H
    try simp -implicitDefEqProofs (maxSteps := 999999) [-selQ_sel, h_1, h_2, k_3, h_4, k_5, h_6, h_7, h_36, h_37, h_51, h_52, h_53, h_54, h_55]
    obtain ⟨⟨w120, w121⟩, h_56, H⟩ := HS.bnd H
    dsimp only at H
    try simp -implicitDefEqProofs (maxSteps := 999999) [-selQ_sel, h_1, h_2, k_3, h_4, k_5, h_6, h_7, h_36, h_37, h_51, h_52, h_53, h_54, h_55, h_56]
    refine Hid.brV (fun h_57 => ?_) (fun h_57 => ?_)
    ·replace H := HS.cnd_t h_57 H
     try simp -implicitDefEqProofs (maxSteps := 999999) [-selQ_sel, h_1, h_2, k_3, h_4, k_5, h_6, h_7, h_36, h_37, h_51, h_52, h_53, h_54, h_55, h_56, h_57]
     obtain ⟨⟨w123, w124⟩, h_58, H⟩ := HS.bnd H
     dsimp only at H
     try simp -implicitDefEqProofs (maxSteps := 999999) [-selQ_sel, h_1, h_2, k_3, h_4, k_5, h_6, h_7, h_36, h_37, h_51, h_52, h_53, h_54, h_55, h_56, h_57, h_58]
     obtain ⟨⟨w126, w127⟩, h_59, H⟩ := HS.bnd H
     dsimp only at H
     try simp -implicitDefEqProofs (maxSteps := 999999) [-selQ_sel, h_1, h_2, k_3, h_4, k_5, h_6, h_7, h_36, h_37, h_51, h_52, h_53, h_54, h_55, h_56, h_57, h_58, h_59]
     refine Hid.brV (fun h_60 => ?_) (fun h_60 => ?_)
     ·replace H := HS.cnd_t h_60 H
      try simp -implicitDefEqProofs (maxSteps := 999999) [-selQ_sel, h_1, h_2, k_3, h_4, k_5, h_6, h_7, h_36, h_37, h_51, h_52, h_53, h_54, h_55, h_56, h_57, h_58, h_59, h_60]
      obtain ⟨⟨w129, w130⟩, h_61, H⟩ := HS.bnd H
      dsimp only at H
      try simp -implicitDefEqProofs (maxSteps := 999999) [-selQ_sel, h_1, h_2, k_3, h_4, k_5, h_6, h_7, h_36, h_37, h_51, h_52, h_53, h_54, h_55, h_56, h_57, h_58, h_59, h_60, h_61]
      obtain ⟨⟨w132, w133⟩, h_62, H⟩ := HS.bnd H
      dsimp only at H
      try simp -implicitDefEqProofs (maxSteps := 999999) [-selQ_sel, h_1, h_2, k_3, h_4, k_5, h_6, h_7, h_36, h_37, h_51, h_52, h_53, h_54, h_55, h_56, h_57, h_58, h_59, h_60, h_61, h_62]
      have hr := (HS.some H).symm; subst hr
      refine Hid.mk ⟨_, Wk.refl _, ?_⟩
      try simp -implicitDefEqProofs (maxSteps := 999999) [-selQ_sel, h_1, h_2, k_3, h_4, k_5, h_6, h_7, h_36, h_37, h_51, h_52, h_53, h_54, h_55, h_56, h_57, h_58, h_59, h_60, h_61, h_62]
     ·replace H := HS.cnd_f h_60 H
      try simp -implicitDefEqProofs (maxSteps := 999999) [-selQ_sel, h_1, h_2, k_3, h_4, k_5, h_6, h_7, h_36, h_37, h_51, h_52, h_53, h_54, h_55, h_56, h_57, h_58, h_59, h_60]
      have hr := (HS.some H).symm; subst hr
      refine Hid.mk ⟨_, Wk.refl _, ?_⟩
      try simp -implicitDefEqProofs (maxSteps := 999999) [-selQ_sel, h_1, h_2, k_3, h_4, k_5, h_6, h_7, h_36, h_37, h_51, h_52, h_53, h_54, h_55, h_56, h_57, h_58, h_59, h_60]
    ·replace H := HS.cnd_f h_57 H
     try simp -implicitDefEqProofs (maxSteps := 999999) [-selQ_sel, h_1, h_2, k_3, h_4, k_5, h_6, h_7, h_36, h_37, h_51, h_52, h_53, h_54, h_55, h_56, h_57]
     have hr := (HS.some H).symm; subst hr
     refine Hid.mk ⟨_, Wk.refl _, ?_⟩
     try simp -implicitDefEqProofs (maxSteps := 999999) [-selQ_sel, h_1, h_2, k_3, h_4, k_5, h_6, h_7, h_36, h_37, h_51, h_52, h_53, h_54, h_55, h_56, h_57]
theorem spec_l15Scene_ok0 (hm : Try.prog.follows .mixedOrders = true) (k_spec_l01Below : Sound Try.prog 107 spec_l01Below_x) (k_spec_l15Node : Sound Try.prog 110 spec_l15Node_x) (k_spec_DepthOf : Sound Try.prog 120 spec_DepthOf_x) (k_spec_l01Once : Sound Try.prog 170 spec_l01Once_x) : Sound Try.prog 109 spec_l15Scene_x := by
 refine xOf_sound fun q r h => ?_
 revert h; revert r; revert q; intro a0 r h
 refine fn_ok E0 hm Try.func109 rfl (by decide +kernel) (by rfl) fun Γ hn hk => ?_
 dsimp only [spec_l15Scene_e, spec_l15Scene_v]
 replace hn : Γ.n = 81 := hn
 replace hk : Γ.k = 1 := hk
 have H : HS (spec_l15Scene a0) r := h
 clear h; unfold spec_l15Scene at H
 try simp -implicitDefEqProofs at H
 refine Tr.of_vc (cl := tabC [(107, spec_l01Below_x), (110, spec_l15Node_x), (120, spec_DepthOf_x), (170, spec_l01Once_x)]) (E := E0) [] (tab_cons k_spec_l01Below (tab_cons k_spec_l15Node (tab_cons k_spec_DepthOf (tab_cons k_spec_l01Once tab_nil)))) hm (by rw [hn]; decide +kernel) ?_
 try simp -implicitDefEqProofs +decide (maxSteps := 999999) [-selQ_sel, hokQ_of]
 obtain ⟨q, h_1, H⟩ := HS.bnd H
 refine Hid.mk (Tr.weak (s' := spec_l15Scene_l1_S (0, a0.b, a0.i, a0.h, [])) (Wk.ofk [0, 1, 2, 3] hk (by rfl) (by simp -implicitDefEqProofs [spec_l15Scene_l1_S]) (by simp -implicitDefEqProofs [spec_l15Scene_l1_S])) ?_)
 refine wp_loop_of (S := spec_l15Scene_l1_S) (f := spec_l15Scene_l1) (xt := spec_l15Scene_l1_X) ?_ ?_ h_1 ?_
 ·intro q; rcases q with ⟨y38, y39, y40, y41⟩ <;> simp [spec_l15Scene_l1_X]
 ·clear H h_1 q
  rintro ⟨x7, x8, x9, x10, x11⟩ o R hf hR
  have H : HS (spec_l15Scene_l1 (x7, x8, x9, x10, x11)) o := hf
  clear hf; unfold spec_l15Scene_l1 at H
  try simp -implicitDefEqProofs at H
  refine Tr.of_vc (cl := tabC [(107, spec_l01Below_x), (110, spec_l15Node_x), (120, spec_DepthOf_x), (170, spec_l01Once_x)]) (E := E0) [] (tab_cons k_spec_l01Below (tab_cons k_spec_l15Node (tab_cons k_spec_DepthOf (tab_cons k_spec_l01Once tab_nil)))) hm (by rw [hn]; decide +kernel) ?_
  try simp -implicitDefEqProofs +decide (maxSteps := 999999) [-selQ_sel, hokQ_of, spec_l15Scene_l1_S]
  obtain ⟨⟨w13, w14⟩, h_2, H⟩ := HS.bnd H
  dsimp only at H
  have k_3 := spec_l01Below_k 6 ((TL01Cur.mk x8 x9 x10).b) ((TL01Cur.mk x8 x9 x10).i) ((TL01Cur.mk x8 x9 x10).h)
  simp -implicitDefEqProofs [-spec_l01Below_k] at k_3
  try simp -implicitDefEqProofs +decide (maxSteps := 999999) [-selQ_sel, hokQ_of, h_2, k_3]
  refine Hid.brV (fun h_4 => ?_) (fun h_4 => ?_)
  ·replace H := HS.cnd_t h_4 H
   try simp -implicitDefEqProofs +decide (maxSteps := 999999) [-selQ_sel, hokQ_of, h_2, k_3, h_4]
   have hr := (HS.some H).symm; subst hr
   exact Hid.mk ⟨(spec_l15Scene_l1_X (w14.b, w14.i, w14.h, x11)).2, Wk.ofk [0, 1, 2, 3] hk (by rfl) (by simp -implicitDefEqProofs [spec_l15Scene_l1_X, h_2, k_3, h_4]) (by simp -implicitDefEqProofs [spec_l15Scene_l1_X, h_2, k_3, h_4]), hR⟩
  ·replace H := HS.cnd_f h_4 H
   try simp -implicitDefEqProofs +decide (maxSteps := 999999) [-selQ_sel, hokQ_of, h_2, k_3, h_4]
   obtain ⟨q, h_5, H⟩ := HS.bnd H
   refine Hid.mk (Tr.weak (s' := (spec_l15Scene_l0_S x7 x11) (0, 0, w14.b, w14.i, w14.h)) (Wk.ofk [0, 1, 2, 3] hk (by rfl) (by simp -implicitDefEqProofs [spec_l15Scene_l0_S, h_2, k_3, h_4]) (by simp -implicitDefEqProofs [spec_l15Scene_l0_S, h_2, k_3, h_4])) ?_)
   refine wp_loop_of (S := (spec_l15Scene_l0_S x7 x11)) (f := (spec_l15Scene_l0 x7 x11)) (xt := (spec_l15Scene_l0_X x7 x11)) ?_ ?_ h_5 ?_
   ·intro q; rcases q with ⟨y30, y31, y32, y33⟩ <;> simp [spec_l15Scene_l0_X]
   ·clear H h_5 q
    rintro ⟨x20, x21, x22, x23, x24⟩ o R hf hR
    have H : HS (spec_l15Scene_l0 x7 x11 (x20, x21, x22, x23, x24)) o := hf
    clear hf; unfold spec_l15Scene_l0 at H
    try simp -implicitDefEqProofs at H
    refine Tr.of_vc (cl := tabC [(107, spec_l01Below_x), (110, spec_l15Node_x), (120, spec_DepthOf_x), (170, spec_l01Once_x)]) (E := E0) [] (tab_cons k_spec_l01Below (tab_cons k_spec_l15Node (tab_cons k_spec_DepthOf (tab_cons k_spec_l01Once tab_nil)))) hm (by rw [hn]; decide +kernel) ?_
    try simp -implicitDefEqProofs +decide (maxSteps := 999999) [-selQ_sel, hokQ_of, spec_l15Scene_l0_S]
    refine Hid.brV (fun h_6 => ?_) (fun h_6 => ?_)
    ·replace H := HS.cnd_t h_6 H
     try simp -implicitDefEqProofs +decide (maxSteps := 999999) [-selQ_sel, hokQ_of, h_6]
     have hr := (HS.some H).symm; subst hr
     exact Hid.mk ⟨(spec_l15Scene_l0_X x7 x11 (x22, x23, x24, x21)).2, Wk.ofk [0, 1, 2, 3] hk (by rfl) (by simp -implicitDefEqProofs [spec_l15Scene_l0_X, h_6]) (by simp -implicitDefEqProofs [spec_l15Scene_l0_X, h_6]), hR⟩
    ·replace H := HS.cnd_f h_6 H
     try simp -implicitDefEqProofs +decide (maxSteps := 999999) [-selQ_sel, hokQ_of, h_6]
     obtain ⟨v25, h_7, H⟩ := HS.bnd H
     have g_8 := idx_get h_7
     try simp -implicitDefEqProofs +decide (maxSteps := 999999) [-selQ_sel, hokQ_of, h_6, h_7, g_8]
     refine Hid.selQ (fun h_9 => ?_) (fun h_9 => ?_)
     ·replace H := HS.cnd_t h_9 H
      try simp -implicitDefEqProofs +decide (maxSteps := 999999) [-selQ_sel, hokQ_of, h_6, h_7, g_8, h_9]
      obtain ⟨v26, h_10, H⟩ := HS.bnd H
      have k_11 := spec_DepthOf_k ((TScene.mk x11).nodes) v25.id
      simp -implicitDefEqProofs [-spec_DepthOf_k] at k_11
      try simp -implicitDefEqProofs +decide (maxSteps := 999999) [-selQ_sel, hokQ_of, h_6, h_7, g_8, h_9, h_10, k_11]
      refine Hid.selQ (fun h_12 => ?_) (fun h_12 => ?_)
      ·replace H := HS.cnd_t h_12 H
       try simp -implicitDefEqProofs +decide (maxSteps := 999999) [-selQ_sel, hokQ_of, h_6, h_7, g_8, h_9, h_10, k_11, h_12]
       have hr := (HS.some H).symm; subst hr
       exact Hid.mk ⟨spec_l15Scene_l0_S x7 x11 ((IntKind.i64.wrap (x20 + 1)), x21, x22, x23, x24), Wk.ofk [0, 1, 2, 3] hk (by rfl) (by simp -implicitDefEqProofs [spec_l15Scene_l0_S, h_6, h_7, g_8, h_9, h_10, k_11, h_12]) (by simp -implicitDefEqProofs [spec_l15Scene_l0_S, h_6, h_7, g_8, h_9, h_10, k_11, h_12]), hR⟩
      ·replace H := HS.cnd_f h_12 H
       try simp -implicitDefEqProofs +decide (maxSteps := 999999) [-selQ_sel, hokQ_of, h_6, h_7, g_8, h_9, h_10, k_11, h_12]
       obtain ⟨⟨w28, w29⟩, h_13, H⟩ := HS.bnd H
       dsimp only at H
       have k_14 := spec_l01Once_k 2 ((TL01Cur.mk x22 x23 x24).b) ((TL01Cur.mk x22 x23 x24).i) ((TL01Cur.mk x22 x23 x24).h)
       simp -implicitDefEqProofs [-spec_l01Once_k] at k_14
       try simp -implicitDefEqProofs +decide (maxSteps := 999999) [-selQ_sel, hokQ_of, h_6, h_7, g_8, h_9, h_10, k_11, h_12, h_13, k_14]
       refine Hid.brV (fun h_15 => ?_) (fun h_15 => ?_)
       ·replace H := HS.cnd_t h_15 H
        try simp -implicitDefEqProofs +decide (maxSteps := 999999) [-selQ_sel, hokQ_of, h_6, h_7, g_8, h_9, h_10, k_11, h_12, h_13, k_14, h_15]
        have hr := (HS.some H).symm; subst hr
        exact Hid.mk ⟨spec_l15Scene_l0_S x7 x11 ((IntKind.i64.wrap (x20 + 1)), v25.id, w29.b, w29.i, w29.h), Wk.ofk [0, 1, 2, 3] hk (by rfl) (by simp -implicitDefEqProofs [spec_l15Scene_l0_S, h_6, h_7, g_8, h_9, h_10, k_11, h_12, h_13, k_14, h_15]) (by simp -implicitDefEqProofs [spec_l15Scene_l0_S, h_6, h_7, g_8, h_9, h_10, k_11, h_12, h_13, k_14, h_15]), hR⟩
       ·replace H := HS.cnd_f h_15 H
        try simp -implicitDefEqProofs +decide (maxSteps := 999999) [-selQ_sel, hokQ_of, h_6, h_7, g_8, h_9, h_10, k_11, h_12, h_13, k_14, h_15]
        have hr := (HS.some H).symm; subst hr
        exact Hid.mk ⟨spec_l15Scene_l0_S x7 x11 ((IntKind.i64.wrap (x20 + 1)), x21, w29.b, w29.i, w29.h), Wk.ofk [0, 1, 2, 3] hk (by rfl) (by simp -implicitDefEqProofs [spec_l15Scene_l0_S, h_6, h_7, g_8, h_9, h_10, k_11, h_12, h_13, k_14, h_15]) (by simp -implicitDefEqProofs [spec_l15Scene_l0_S, h_6, h_7, g_8, h_9, h_10, k_11, h_12, h_13, k_14, h_15]), hR⟩
     ·replace H := HS.cnd_f h_9 H
      try simp -implicitDefEqProofs +decide (maxSteps := 999999) [-selQ_sel, hokQ_of, h_6, h_7, g_8, h_9]
      have hr := (HS.some H).symm; subst hr
      exact Hid.mk ⟨spec_l15Scene_l0_S x7 x11 ((IntKind.i64.wrap (x20 + 1)), x21, x22, x23, x24), Wk.ofk [0, 1, 2, 3] hk (by rfl) (by simp -implicitDefEqProofs [spec_l15Scene_l0_S, h_6, h_7, g_8, h_9]) (by simp -implicitDefEqProofs [spec_l15Scene_l0_S, h_6, h_7, g_8, h_9]), hR⟩
   ·obtain ⟨y30, y31, y32, y33⟩ := q
    try dsimp only at H
    try simp -implicitDefEqProofs +decide (maxSteps := 999999) [-selQ_sel, hokQ_of, h_2, k_3, h_4, spec_l15Scene_l0_X]
    obtain ⟨⟨w35, w36⟩, h_16, H⟩ := HS.bnd H
    dsimp only at H
    have k_17 := spec_l15Node_k (IntKind.i64.wrap (x7 + 1)) y33 ((TL01Cur.mk y30 y31 y32).b) ((TL01Cur.mk y30 y31 y32).i) ((TL01Cur.mk y30 y31 y32).h)
    simp -implicitDefEqProofs [-spec_l15Node_k] at k_17
    try simp -implicitDefEqProofs +decide (maxSteps := 999999) [-selQ_sel, hokQ_of, h_2, k_3, h_4, h_16, k_17]
    obtain ⟨h_18, H⟩ := HS.chkP H
    try simp -implicitDefEqProofs +decide (maxSteps := 999999) [-selQ_sel, hokQ_of, h_2, k_3, h_4, h_16, k_17, h_18]
    obtain ⟨l37, h_19, H⟩ := HS.nam H
    have m_20 := congrArg (List.map eNode) h_19
    have q_21 := congrArg List.length h_19
    simp -implicitDefEqProofs at m_20 q_21
    try simp only [q_21] at m_20
    try simp only [q_21] at h_18
    try simp -implicitDefEqProofs +decide (maxSteps := 999999) [-selQ_sel, hokQ_of, h_2, k_3, h_4, h_16, k_17, h_18, m_20, q_21]
    have hr := (HS.some H).symm; subst hr
    exact Hid.mk ⟨spec_l15Scene_l1_S ((IntKind.i64.wrap (x7 + 1)), w36.b, w36.i, w36.h, l37), Wk.ofk [0, 1, 2, 3] hk (by rfl) (by simp -implicitDefEqProofs [spec_l15Scene_l1_S, h_2, k_3, h_4, h_16, k_17, h_18, m_20, q_21]) (by simp -implicitDefEqProofs [spec_l15Scene_l1_S, h_2, k_3, h_4, h_16, k_17, h_18, m_20, q_21]), hR⟩
 ·obtain ⟨y38, y39, y40, y41⟩ := q
  try dsimp only at H
  try simp -implicitDefEqProofs +decide (maxSteps := 999999) [-selQ_sel, hokQ_of, spec_l15Scene_l1_X]
  refine Hid.selQ (fun h_22 => ?_) (fun h_22 => ?_)
  ·replace H := HS.cnd_t h_22 H
   try simp -implicitDefEqProofs +decide (maxSteps := 999999) [-selQ_sel, hokQ_of, h_22]
   have hr := (HS.some H).symm; subst hr
   refine Hid.mk ⟨_, Wk.refl _, ?_⟩
   try simp -implicitDefEqProofs +decide (maxSteps := 999999) [-selQ_sel, hokQ_of, h_22]
  ·replace H := HS.cnd_f h_22 H
   try simp -implicitDefEqProofs +decide (maxSteps := 999999) [-selQ_sel, hokQ_of, h_22]
   obtain ⟨⟨w43, w44⟩, h_23, H⟩ := HS.bnd H
   dsimp only at H
   have k_24 := spec_l01Once_k 3 ((TL01Cur.mk y38 y39 y40).b) ((TL01Cur.mk y38 y39 y40).i) ((TL01Cur.mk y38 y39 y40).h)
   simp -implicitDefEqProofs [-spec_l01Once_k] at k_24
   try simp -implicitDefEqProofs +decide (maxSteps := 999999) [-selQ_sel, hokQ_of, h_22, h_23, k_24]
   refine Hid.brV (fun h_25 => ?_) (fun h_25 => ?_)
   ·replace H := HS.cnd_t h_25 H
    try simp -implicitDefEqProofs +decide (maxSteps := 999999) [-selQ_sel, hokQ_of, h_22, h_23, k_24, h_25]
    obtain ⟨v45, h_26, H⟩ := HS.bnd H
    have g_27 := idx_get h_26
    simp only [Int.reduceToNat] at g_27
    try simp -implicitDefEqProofs +decide (maxSteps := 999999) [-selQ_sel, hokQ_of, h_22, h_23, k_24, h_25, h_26, g_27]
    obtain ⟨v46, h_28, H⟩ := HS.bnd H
    have s_29 := (slc_spec h_28).1
    have s_30 := slc_fit h_28
    have s_31 := slc_map (e := eNode) h_28
    have s_32 := (slc_spec h_28).2.1
    simp -implicitDefEqProofs at s_29 s_30 s_31 s_32
    try simp only [s_32] at s_30 s_31
    try simp -implicitDefEqProofs +decide (maxSteps := 999999) [-selQ_sel, hokQ_of, h_22, h_23, k_24, h_25, h_26, g_27, h_28, s_29, s_30, s_31, s_32]
    obtain ⟨h_33, H⟩ := HS.chkP H
    try simp -implicitDefEqProofs +decide (maxSteps := 999999) [-selQ_sel, hokQ_of, h_22, h_23, k_24, h_25, h_26, g_27, h_28, s_29, s_30, s_31, s_32, h_33]
    obtain ⟨l47, h_34, H⟩ := HS.nam H
    have m_35 := congrArg (List.map eNode) h_34
    have q_36 := congrArg List.length h_34
    simp -implicitDefEqProofs at m_35 q_36
    try simp only [q_36] at m_35
    try simp only [q_36] at h_33
    try simp only [q_36] at s_29
    try simp only [q_36] at s_30
    try simp only [q_36] at s_31
    try simp only [q_36] at s_32
    try simp -implicitDefEqProofs +decide (maxSteps := 999999) [-selQ_sel, hokQ_of, h_22, h_23, k_24, h_25, h_26, g_27, h_28, s_29, s_30, s_31, s_32, h_33, m_35, q_36]
    obtain ⟨h_37, H⟩ := HS.chkP H
    try simp -implicitDefEqProofs +decide (maxSteps := 999999) [-selQ_sel, hokQ_of, h_22, h_23, k_24, h_25, h_26, g_27, h_28, s_29, s_30, s_31, s_32, h_33, m_35, q_36, h_37]
    obtain ⟨l48, h_38, H⟩ := HS.nam H
    have m_39 := congrArg (List.map eNode) h_38
    have q_40 := congrArg List.length h_38
    simp -implicitDefEqProofs at m_39 q_40
    try simp only [q_40] at m_39
    try simp only [q_40] at h_37
    try simp only [q_40] at s_29
    try simp only [q_40] at s_30
    try simp only [q_40] at s_31
    try simp only [q_40] at s_32
    try simp -implicitDefEqProofs +decide (maxSteps := 999999) [-selQ_sel, hokQ_of, h_22, h_23, k_24, h_25, h_26, g_27, h_28, s_29, s_30, s_31, s_32, h_33, m_35, q_36, h_37, m_39, q_40]
    have hr := (HS.some H).symm; subst hr
    refine Hid.mk ⟨_, Wk.refl _, ?_⟩
    try simp -implicitDefEqProofs +decide (maxSteps := 999999) [-selQ_sel, hokQ_of, h_22, h_23, k_24, h_25, h_26, g_27, h_28, s_29, s_30, s_31, s_32, h_33, m_35, q_36, h_37, m_39, q_40]
   ·replace H := HS.cnd_f h_25 H
    try simp -implicitDefEqProofs +decide (maxSteps := 999999) [-selQ_sel, hokQ_of, h_22, h_23, k_24, h_25]
    have hr := (HS.some H).symm; subst hr
    refine Hid.mk ⟨_, Wk.refl _, ?_⟩
    try simp -implicitDefEqProofs +decide (maxSteps := 999999) [-selQ_sel, hokQ_of, h_22, h_23, k_24, h_25]
theorem impl_PathOk_ok0 (hm : Try.prog.follows .mixedOrders = true) (k_impl_pointsOk : Sound Try.prog 218 impl_pointsOk_x) (k_impl_NeedOf : Sound Try.prog 219 impl_NeedOf_x) : Sound Try.prog 176 impl_PathOk_x := by
 refine xOf_sound fun q r h => ?_
 revert h; revert r; revert q; intro a0 r h
 refine fn_ok E0 hm Try.func176 rfl (by decide +kernel) (by rfl) fun Γ hn hk => ?_
 dsimp only [impl_PathOk_e, impl_PathOk_v]
 replace hn : Γ.n = 63 := hn
 replace hk : Γ.k = 0 := hk
 have H : HS (impl_PathOk a0) r := h
 clear h; unfold impl_PathOk at H
 try simp -implicitDefEqProofs at H
 refine Tr.of_vc (cl := tabC [(218, impl_pointsOk_x), (219, impl_NeedOf_x)]) (E := E0) [] (tab_cons k_impl_pointsOk (tab_cons k_impl_NeedOf tab_nil)) hm (by rw [hn]; decide +kernel) ?_
 try simp -implicitDefEqProofs (maxSteps := 999999) [-selQ_sel]
 refine Hid.selQ (fun h_1 => ?_) (fun h_1 => ?_)
 ·replace H := HS.cnd_t h_1 H
  try simp -implicitDefEqProofs (maxSteps := 999999) [-selQ_sel, h_1]
  refine Hid.selQ (fun h_2 => ?_) (fun h_2 => ?_)
  ·replace H := HS.cnd_t h_2 H
   try simp -implicitDefEqProofs (maxSteps := 999999) [-selQ_sel, h_1, h_2]
   obtain ⟨v1, h_3, H⟩ := HS.bnd H
   try simp -implicitDefEqProofs (maxSteps := 999999) [-selQ_sel, h_1, h_2, h_3]
   refine Hid.brV (fun h_4 => ?_) (fun h_4 => ?_)
   ·replace H := HS.cnd_t h_4 H
    try simp -implicitDefEqProofs (maxSteps := 999999) [-selQ_sel, h_1, h_2, h_3, h_4]
    obtain ⟨q, h_5, H⟩ := HS.bnd H
    refine Hid.mk (Tr.weak (s' := (impl_PathOk_l0_S a0) (0, 0)) (Wk.ofk [0] hk (by rfl) (by simp -implicitDefEqProofs [impl_PathOk_l0_S, h_1, h_2, h_3, h_4]) (by simp -implicitDefEqProofs [impl_PathOk_l0_S, h_1, h_2, h_3, h_4])) ?_)
    refine wp_loop_of (S := (impl_PathOk_l0_S a0)) (f := (impl_PathOk_l0 a0)) (xt := (impl_PathOk_l0_X a0)) ?_ ?_ h_5 ?_
    ·intro q; rcases q with y9 | ⟨⟩ <;> simp [impl_PathOk_l0_X]
    ·clear H h_5 q
     rintro ⟨x4, x5⟩ o R hf hR
     have H : HS (impl_PathOk_l0 a0 (x4, x5)) o := hf
     clear hf; unfold impl_PathOk_l0 at H
     try simp -implicitDefEqProofs at H
     refine Tr.of_vc (cl := tabC [(218, impl_pointsOk_x), (219, impl_NeedOf_x)]) (E := E0) [] (tab_cons k_impl_pointsOk (tab_cons k_impl_NeedOf tab_nil)) hm (by rw [hn]; decide +kernel) ?_
     try simp -implicitDefEqProofs (maxSteps := 999999) [-selQ_sel, impl_PathOk_l0_S]
     refine Hid.brV (fun h_6 => ?_) (fun h_6 => ?_)
     ·replace H := HS.cnd_t h_6 H
      try simp -implicitDefEqProofs (maxSteps := 999999) [-selQ_sel, h_6]
      have hr := (HS.some H).symm; subst hr
      exact Hid.mk ⟨(impl_PathOk_l0_X a0 (.inl x4)).2, Wk.ofk [0] hk (by rfl) (by simp -implicitDefEqProofs [impl_PathOk_l0_X, h_6]) (by simp -implicitDefEqProofs [impl_PathOk_l0_X, h_6]), hR⟩
     ·replace H := HS.cnd_f h_6 H
      try simp -implicitDefEqProofs (maxSteps := 999999) [-selQ_sel, h_6]
      obtain ⟨v6, h_7, H⟩ := HS.bnd H
      try simp -implicitDefEqProofs (maxSteps := 999999) [-selQ_sel, h_6, h_7]
      obtain ⟨v7, h_8, H⟩ := HS.bnd H
      try simp -implicitDefEqProofs (maxSteps := 999999) [-selQ_sel, h_6, h_7, h_8]
      refine Hid.selQ (fun h_9 => ?_) (fun h_9 => ?_)
      ·replace H := HS.cnd_t h_9 H
       try simp -implicitDefEqProofs (maxSteps := 999999) [-selQ_sel, h_6, h_7, h_8, h_9]
       refine Hid.selQ (fun h_10 => ?_) (fun h_10 => ?_)
       ·replace H := HS.cnd_t h_10 H
        try simp -implicitDefEqProofs (maxSteps := 999999) [-selQ_sel, h_6, h_7, h_8, h_9, h_10]
        refine Hid.brV (fun h_11 => ?_) (fun h_11 => ?_)
        ·replace H := HS.cnd_t h_11 H
         try simp -implicitDefEqProofs (maxSteps := 999999) [-selQ_sel, h_6, h_7, h_8, h_9, h_10, h_11]
         have hr := (HS.some H).symm; subst hr
         exact Hid.mk ⟨impl_PathOk_l0_S a0 ((IntKind.i64.wrap (x4 + v7)), (IntKind.i64.wrap (x5 + 1))), Wk.ofk [0] hk (by rfl) (by simp -implicitDefEqProofs [impl_PathOk_l0_S, h_6, h_7, h_8, h_9, h_10, h_11]) (by simp -implicitDefEqProofs [impl_PathOk_l0_S, h_6, h_7, h_8, h_9, h_10, h_11]), hR⟩
        ·replace H := HS.cnd_f h_11 H
         try simp -implicitDefEqProofs (maxSteps := 999999) [-selQ_sel, h_6, h_7, h_8, h_9, h_10, h_11]
         have hr := (HS.some H).symm; subst hr
         exact Hid.mk ⟨(impl_PathOk_l0_X a0 (.inr ())).2, Wk.ofk [] hk (by rfl) (by simp -implicitDefEqProofs [impl_PathOk_l0_X, h_6, h_7, h_8, h_9, h_10, h_11]) (by simp -implicitDefEqProofs [impl_PathOk_l0_X, h_6, h_7, h_8, h_9, h_10, h_11]), hR⟩
       ·replace H := HS.cnd_f h_10 H
        try simp -implicitDefEqProofs (maxSteps := 999999) [-selQ_sel, h_6, h_7, h_8, h_9, h_10]
        have hr := (HS.some H).symm; subst hr
        exact Hid.mk ⟨(impl_PathOk_l0_X a0 (.inr ())).2, Wk.ofk [] hk (by rfl) (by simp -implicitDefEqProofs [impl_PathOk_l0_X, h_6, h_7, h_8, h_9, h_10]) (by simp -implicitDefEqProofs [impl_PathOk_l0_X, h_6, h_7, h_8, h_9, h_10]), hR⟩
      ·replace H := HS.cnd_f h_9 H
       try simp -implicitDefEqProofs (maxSteps := 999999) [-selQ_sel, h_6, h_7, h_8, h_9]
       obtain ⟨v8, h_12, H⟩ := HS.bnd H
       try simp -implicitDefEqProofs (maxSteps := 999999) [-selQ_sel, h_6, h_7, h_8, h_9, h_12]
       refine Hid.selQ (fun h_13 => ?_) (fun h_13 => ?_)
       ·replace H := HS.cnd_t h_13 H
        try simp -implicitDefEqProofs (maxSteps := 999999) [-selQ_sel, h_6, h_7, h_8, h_9, h_12, h_13]
        refine Hid.selQ (fun h_14 => ?_) (fun h_14 => ?_)
        ·replace H := HS.cnd_t h_14 H
         try simp -implicitDefEqProofs (maxSteps := 999999) [-selQ_sel, h_6, h_7, h_8, h_9, h_12, h_13, h_14]
         refine Hid.brV (fun h_15 => ?_) (fun h_15 => ?_)
         ·replace H := HS.cnd_t h_15 H
          try simp -implicitDefEqProofs (maxSteps := 999999) [-selQ_sel, h_6, h_7, h_8, h_9, h_12, h_13, h_14, h_15]
          have hr := (HS.some H).symm; subst hr
          exact Hid.mk ⟨impl_PathOk_l0_S a0 ((IntKind.i64.wrap (x4 + v7)), (IntKind.i64.wrap (x5 + 1))), Wk.ofk [0] hk (by rfl) (by simp -implicitDefEqProofs [impl_PathOk_l0_S, h_6, h_7, h_8, h_9, h_12, h_13, h_14, h_15]) (by simp -implicitDefEqProofs [impl_PathOk_l0_S, h_6, h_7, h_8, h_9, h_12, h_13, h_14, h_15]), hR⟩
         ·replace H := HS.cnd_f h_15 H
          try simp -implicitDefEqProofs (maxSteps := 999999) [-selQ_sel, h_6, h_7, h_8, h_9, h_12, h_13, h_14, h_15]
          have hr := (HS.some H).symm; subst hr
          exact Hid.mk ⟨(impl_PathOk_l0_X a0 (.inr ())).2, Wk.ofk [] hk (by rfl) (by simp -implicitDefEqProofs [impl_PathOk_l0_X, h_6, h_7, h_8, h_9, h_12, h_13, h_14, h_15]) (by simp -implicitDefEqProofs [impl_PathOk_l0_X, h_6, h_7, h_8, h_9, h_12, h_13, h_14, h_15]), hR⟩
        ·replace H := HS.cnd_f h_14 H
         try simp -implicitDefEqProofs (maxSteps := 999999) [-selQ_sel, h_6, h_7, h_8, h_9, h_12, h_13, h_14]
         have hr := (HS.some H).symm; subst hr
         exact Hid.mk ⟨impl_PathOk_l0_S a0 ((IntKind.i64.wrap (x4 + v7)), (IntKind.i64.wrap (x5 + 1))), Wk.ofk [0] hk (by rfl) (by simp -implicitDefEqProofs [impl_PathOk_l0_S, h_6, h_7, h_8, h_9, h_12, h_13, h_14]) (by simp -implicitDefEqProofs [impl_PathOk_l0_S, h_6, h_7, h_8, h_9, h_12, h_13, h_14]), hR⟩
       ·replace H := HS.cnd_f h_13 H
        try simp -implicitDefEqProofs (maxSteps := 999999) [-selQ_sel, h_6, h_7, h_8, h_9, h_12, h_13]
        have hr := (HS.some H).symm; subst hr
        exact Hid.mk ⟨(impl_PathOk_l0_X a0 (.inr ())).2, Wk.ofk [] hk (by rfl) (by simp -implicitDefEqProofs [impl_PathOk_l0_X, h_6, h_7, h_8, h_9, h_12, h_13]) (by simp -implicitDefEqProofs [impl_PathOk_l0_X, h_6, h_7, h_8, h_9, h_12, h_13]), hR⟩
    ·rcases q with y9 | ⟨⟩
     ·dsimp only at H
      try simp -implicitDefEqProofs (maxSteps := 999999) [-selQ_sel, h_1, h_2, h_3, h_4, impl_PathOk_l0_X]
      have hr := (HS.some H).symm; subst hr
      refine Hid.mk ⟨_, Wk.refl _, ?_⟩
      try simp -implicitDefEqProofs (maxSteps := 999999) [-selQ_sel, h_1, h_2, h_3, h_4]
     ·dsimp only at H
      try simp -implicitDefEqProofs (maxSteps := 999999) [-selQ_sel, h_1, h_2, h_3, h_4, impl_PathOk_l0_X]
      have hr := (HS.some H).symm; subst hr
      refine Hid.mk ⟨_, Wk.refl _, ?_⟩
      try simp -implicitDefEqProofs (maxSteps := 999999) [-selQ_sel, h_1, h_2, h_3, h_4]
   ·replace H := HS.cnd_f h_4 H
    try simp -implicitDefEqProofs (maxSteps := 999999) [-selQ_sel, h_1, h_2, h_3, h_4]
    have hr := (HS.some H).symm; subst hr
    refine Hid.mk ⟨_, Wk.refl _, ?_⟩
    try simp -implicitDefEqProofs (maxSteps := 999999) [-selQ_sel, h_1, h_2, h_3, h_4]
  ·replace H := HS.cnd_f h_2 H
   try simp -implicitDefEqProofs (maxSteps := 999999) [-selQ_sel, h_1, h_2]
   have hr := (HS.some H).symm; subst hr
   refine Hid.mk ⟨_, Wk.refl _, ?_⟩
   try simp -implicitDefEqProofs (maxSteps := 999999) [-selQ_sel, h_1, h_2]
 ·replace H := HS.cnd_f h_1 H
  try simp -implicitDefEqProofs (maxSteps := 999999) [-selQ_sel, h_1]
  have hr := (HS.some H).symm; subst hr
  refine Hid.mk ⟨_, Wk.refl _, ?_⟩
  try simp -implicitDefEqProofs (maxSteps := 999999) [-selQ_sel, h_1]
theorem slices_DeleteFunc_Node_DropNode_1_ok0 (hm : Try.prog.follows .mixedOrders = true) (k_slices_IndexFunc_Node_DropNode_1 : Sound Try.prog 127 slices_IndexFunc_Node_DropNode_1_x) (k_impl_DropNode_1 : Sound Try.prog 124 impl_DropNode_1_x) : Sound Try.prog 123 slices_DeleteFunc_Node_DropNode_1_x := by
 refine xOf_sound fun q r h => ?_
 obtain ⟨a0, a1⟩ := q
 refine fn_ok E0 hm Try.func123 rfl (by decide +kernel) (by rfl) fun Γ hn hk => ?_
 dsimp only [slices_DeleteFunc_Node_DropNode_1_e, slices_DeleteFunc_Node_DropNode_1_v]
 replace hn : Γ.n = 42 := hn
 replace hk : Γ.k = 2 := hk
 have H : HS (slices_DeleteFunc_Node_DropNode_1 a0 a1) r := h
 clear h; unfold slices_DeleteFunc_Node_DropNode_1 at H
 try simp -implicitDefEqProofs at H
 refine Tr.of_vc (cl := tabC [(127, slices_IndexFunc_Node_DropNode_1_x), (124, impl_DropNode_1_x)]) (E := E0) [] (tab_cons k_slices_IndexFunc_Node_DropNode_1 (tab_cons k_impl_DropNode_1 tab_nil)) hm (by rw [hn]; decide +kernel) ?_
 try simp -implicitDefEqProofs (maxSteps := 999999) [-selQ_sel]
 obtain ⟨v1, h_1, H⟩ := HS.bnd H
 try simp -implicitDefEqProofs (maxSteps := 999999) [-selQ_sel, h_1]
 refine Hid.brV (fun h_2 => ?_) (fun h_2 => ?_)
 ·replace H := HS.cnd_t h_2 H
  try simp -implicitDefEqProofs (maxSteps := 999999) [-selQ_sel, h_1, h_2]
  have hr := (HS.some H).symm; subst hr
  refine Hid.mk ⟨⟨[(4, AV.osl 0 0 (List.length a0) (List.length a0))], [(0, Ob.arr 31 (List.map eNode a0) false), (1, Ob.box [AV.fsl (List.map (AV.int .i64) a1)])], 2⟩, Wk.ofk [0, 1] hk (by rfl) (by simp -implicitDefEqProofs [h_1, h_2]) (by simp -implicitDefEqProofs [h_1, h_2]), ?_⟩
  try simp -implicitDefEqProofs (maxSteps := 999999) [-selQ_sel, h_1, h_2]
 ·replace H := HS.cnd_f h_2 H
  try simp -implicitDefEqProofs (maxSteps := 999999) [-selQ_sel, h_1, h_2]
  obtain ⟨q, h_3, H⟩ := HS.bnd H
  refine Hid.mk (Tr.weak (s' := (slices_DeleteFunc_Node_DropNode_1_l0_S a1) ((IntKind.i64.wrap (v1 + 1)), v1, a0)) (Wk.ofk [0, 1] hk (by rfl) (by simp -implicitDefEqProofs [slices_DeleteFunc_Node_DropNode_1_l0_S, h_1, h_2]) (by simp -implicitDefEqProofs [slices_DeleteFunc_Node_DropNode_1_l0_S, h_1, h_2])) ?_)
  refine wp_loop_of (S := (slices_DeleteFunc_Node_DropNode_1_l0_S a1)) (f := (slices_DeleteFunc_Node_DropNode_1_l0 a1)) (xt := (slices_DeleteFunc_Node_DropNode_1_l0_X a1)) ?_ ?_ h_3 ?_
  ·intro q; rcases q with ⟨y13, y14⟩ <;> simp [slices_DeleteFunc_Node_DropNode_1_l0_X]
  ·clear H h_3 q
   rintro ⟨x6, x7, x8⟩ o R hf hR
   have H : HS (slices_DeleteFunc_Node_DropNode_1_l0 a1 (x6, x7, x8)) o := hf
   clear hf; unfold slices_DeleteFunc_Node_DropNode_1_l0 at H
   try simp -implicitDefEqProofs at H
   refine Tr.of_vc (cl := tabC [(127, slices_IndexFunc_Node_DropNode_1_x), (124, impl_DropNode_1_x)]) (E := E0) [] (tab_cons k_slices_IndexFunc_Node_DropNode_1 (tab_cons k_impl_DropNode_1 tab_nil)) hm (by rw [hn]; decide +kernel) ?_
   try simp -implicitDefEqProofs (maxSteps := 999999) [-selQ_sel, slices_DeleteFunc_Node_DropNode_1_l0_S]
   refine Hid.brV (fun h_4 => ?_) (fun h_4 => ?_)
   ·replace H := HS.cnd_t h_4 H
    try simp -implicitDefEqProofs (maxSteps := 999999) [-selQ_sel, h_4]
    have hr := (HS.some H).symm; subst hr
    exact Hid.mk ⟨(slices_DeleteFunc_Node_DropNode_1_l0_X a1 (x8, x7)).2, Wk.ofk [0, 1] hk (by rfl) (by simp -implicitDefEqProofs [slices_DeleteFunc_Node_DropNode_1_l0_X, h_4]) (by simp -implicitDefEqProofs [slices_DeleteFunc_Node_DropNode_1_l0_X, h_4]), hR⟩
   ·replace H := HS.cnd_f h_4 H
    try simp -implicitDefEqProofs (maxSteps := 999999) [-selQ_sel, h_4]
    obtain ⟨v9, h_5, H⟩ := HS.bnd H
    have g_6 := idx_get h_5
    try simp -implicitDefEqProofs (maxSteps := 999999) [-selQ_sel, h_4, h_5, g_6]
    obtain ⟨v10, h_7, H⟩ := HS.bnd H
    try simp -implicitDefEqProofs (maxSteps := 999999) [-selQ_sel, h_4, h_5, g_6, h_7]
    refine Hid.brV (fun h_8 => ?_) (fun h_8 => ?_)
    ·replace H := HS.cnd_t h_8 H
     try simp -implicitDefEqProofs (maxSteps := 999999) [-selQ_sel, h_4, h_5, g_6, h_7, h_8]
     have hr := (HS.some H).symm; subst hr
     exact Hid.mk ⟨slices_DeleteFunc_Node_DropNode_1_l0_S a1 ((IntKind.i64.wrap (x6 + 1)), x7, x8), Wk.ofk [0, 1] hk (by rfl) (by simp -implicitDefEqProofs [slices_DeleteFunc_Node_DropNode_1_l0_S, h_4, h_5, g_6, h_7, h_8]) (by simp -implicitDefEqProofs [slices_DeleteFunc_Node_DropNode_1_l0_S, h_4, h_5, g_6, h_7, h_8]), hR⟩
    ·replace H := HS.cnd_f h_8 H
     try simp -implicitDefEqProofs (maxSteps := 999999) [-selQ_sel, h_4, h_5, g_6, h_7, h_8]
     obtain ⟨v11, h_9, H⟩ := HS.bnd H
     have g_10 := idx_get h_9
     try simp -implicitDefEqProofs (maxSteps := 999999) [-selQ_sel, h_4, h_5, g_6, h_7, h_8, h_9, g_10]
     obtain ⟨l12, h_11, H⟩ := HS.nam H
     have m_12 := congrArg (List.map eNode) h_11
     have q_13 := congrArg List.length h_11
     simp -implicitDefEqProofs at m_12 q_13
     try simp only [q_13] at m_12
     try simp only [q_13] at g_10
     try simp -implicitDefEqProofs (maxSteps := 999999) [-selQ_sel, h_4, h_5, g_6, h_7, h_8, h_9, g_10, m_12, q_13]
     have hr := (HS.some H).symm; subst hr
     exact Hid.mk ⟨slices_DeleteFunc_Node_DropNode_1_l0_S a1 ((IntKind.i64.wrap (x6 + 1)), (IntKind.i64.wrap (x7 + 1)), l12), Wk.ofk [0, 1] hk (by rfl) (by simp -implicitDefEqProofs [slices_DeleteFunc_Node_DropNode_1_l0_S, h_4, h_5, g_6, h_7, h_8, h_9, g_10, m_12, q_13]) (by simp -implicitDefEqProofs [slices_DeleteFunc_Node_DropNode_1_l0_S, h_4, h_5, g_6, h_7, h_8, h_9, g_10, m_12, q_13]), hR⟩
  ·obtain ⟨y13, y14⟩ := q
   try dsimp only at H
   try simp -implicitDefEqProofs (maxSteps := 999999) [-selQ_sel, h_1, h_2, slices_DeleteFunc_Node_DropNode_1_l0_X]
   obtain ⟨v15, h_14, H⟩ := HS.bnd H
   have s_15 := (slc_spec h_14).1
   have s_16 := slc_fit h_14
   have s_17 := slc_map (e := eNode) h_14
   have s_18 := (slc_spec h_14).2.1
   simp -implicitDefEqProofs at s_15 s_16 s_17 s_18
   try simp only [s_18] at s_16 s_17
   try simp -implicitDefEqProofs (maxSteps := 999999) [-selQ_sel, h_1, h_2, h_14, s_15, s_16, s_17, s_18]
   obtain ⟨l16, h_19, H⟩ := HS.nam H
   have m_20 := congrArg (List.map eNode) h_19
   have q_21 := congrArg List.length h_19
   rw [clrL_len (by simp -implicitDefEqProofs [h_1, h_2, h_14, s_15, s_16, s_17, s_18])] at q_21
   simp -implicitDefEqProofs at m_20 q_21
   try simp only [q_21] at m_20
   try simp only [q_21] at s_18
   try simp only [q_21] at s_15
   try simp only [q_21] at s_16
   try simp only [q_21] at s_17
   try simp -implicitDefEqProofs (maxSteps := 999999) [-selQ_sel, h_1, h_2, h_14, s_15, s_16, s_17, s_18, m_20, q_21]
   obtain ⟨v17, h_22, H⟩ := HS.bnd H
   have s_23 := (slc_spec h_22).1
   have s_24 := slc_fit h_22
   have s_25 := slc_map (e := eNode) h_22
   have s_26 := (slc_spec h_22).2.1
   simp -implicitDefEqProofs at s_23 s_24 s_25 s_26
   try simp only [s_26] at s_24 s_25
   try simp -implicitDefEqProofs (maxSteps := 999999) [-selQ_sel, h_1, h_2, h_14, s_15, s_16, s_17, s_18, m_20, q_21, h_22, s_23, s_24, s_25, s_26]
   have hr := (HS.some H).symm; subst hr
   refine Hid.mk ⟨⟨[(4, AV.osl 0 0 (List.length v17) (List.length l16))], [(0, Ob.arr 31 (List.map eNode l16) false), (1, Ob.box [AV.fsl (List.map (AV.int .i64) a1)])], 2⟩, Wk.ofk [0, 1] hk (by rfl) (by simp -implicitDefEqProofs [h_1, h_2, h_14, s_15, s_16, s_17, s_18, m_20, q_21, h_22, s_23, s_24, s_25, s_26]) (by simp -implicitDefEqProofs [h_1, h_2, h_14, s_15, s_16, s_17, s_18, m_20, q_21, h_22, s_23, s_24, s_25, s_26]), ?_⟩
   try simp -implicitDefEqProofs (maxSteps := 999999) [-selQ_sel, h_1, h_2, h_14, s_15, s_16, s_17, s_18, m_20, q_21, h_22, s_23, s_24, s_25, s_26]
theorem spec_UnderOf_ok0 (hm : Try.prog.follows .mixedOrders = true) (k_spec_NodeAt : Sound Try.prog 119 spec_NodeAt_x) (k_spec_l15Under : Sound Try.prog 126 spec_l15Under_x) : Sound Try.prog 52 spec_UnderOf_x := by
 refine xOf_sound fun q r h => ?_
 obtain ⟨a0, a1⟩ := q
 refine fn_ok E0 hm Try.func52 rfl (by decide +kernel) (by rfl) fun Γ hn hk => ?_
 dsimp only [spec_UnderOf_e, spec_UnderOf_v]
 replace hn : Γ.n = 39 := hn
 replace hk : Γ.k = 0 := hk
 have H : HS (spec_UnderOf a0 a1) r := h
 clear h; unfold spec_UnderOf at H
 try simp -implicitDefEqProofs at H
 refine Tr.of_vc (cl := tabC [(119, spec_NodeAt_x), (126, spec_l15Under_x)]) (E := E0) [] (tab_cons k_spec_NodeAt (tab_cons k_spec_l15Under tab_nil)) hm (by rw [hn]; decide +kernel) ?_
 try simp -implicitDefEqProofs +decide (maxSteps := 999999) [-selQ_sel, hokQ_of]
 obtain ⟨v1, h_1, H⟩ := HS.bnd H
 try simp -implicitDefEqProofs +decide (maxSteps := 999999) [-selQ_sel, hokQ_of, h_1]
 refine Hid.brV (fun h_2 => ?_) (fun h_2 => ?_)
 ·replace H := HS.cnd_t h_2 H
  try simp -implicitDefEqProofs +decide (maxSteps := 999999) [-selQ_sel, hokQ_of, h_1, h_2]
  obtain ⟨q, h_3, H⟩ := HS.bnd H
  refine Hid.mk (Tr.weak (s' := (spec_UnderOf_l0_S a0 a1) (0, [])) (Wk.ofk [0, 1] hk (by rfl) (by simp -implicitDefEqProofs [spec_UnderOf_l0_S, h_1, h_2]) (by simp -implicitDefEqProofs [spec_UnderOf_l0_S, h_1, h_2])) ?_)
  refine wp_loop_of (S := (spec_UnderOf_l0_S a0 a1)) (f := (spec_UnderOf_l0 a0 a1)) (xt := (spec_UnderOf_l0_X a0 a1)) ?_ ?_ h_3 ?_
  ·intro q; simp [spec_UnderOf_l0_X]
  ·clear H h_3 q
   rintro ⟨x4, x5⟩ o R hf hR
   have H : HS (spec_UnderOf_l0 a0 a1 (x4, x5)) o := hf
   clear hf; unfold spec_UnderOf_l0 at H
   try simp -implicitDefEqProofs at H
   refine Tr.of_vc (cl := tabC [(119, spec_NodeAt_x), (126, spec_l15Under_x)]) (E := E0) [] (tab_cons k_spec_NodeAt (tab_cons k_spec_l15Under tab_nil)) hm (by rw [hn]; decide +kernel) ?_
   try simp -implicitDefEqProofs +decide (maxSteps := 999999) [-selQ_sel, hokQ_of, spec_UnderOf_l0_S]
   refine Hid.brV (fun h_4 => ?_) (fun h_4 => ?_)
   ·replace H := HS.cnd_t h_4 H
    try simp -implicitDefEqProofs +decide (maxSteps := 999999) [-selQ_sel, hokQ_of, h_4]
    have hr := (HS.some H).symm; subst hr
    exact Hid.mk ⟨(spec_UnderOf_l0_X a0 a1 x5).2, Wk.ofk [1] hk (by rfl) (by simp -implicitDefEqProofs [spec_UnderOf_l0_X, h_4]) (by simp -implicitDefEqProofs [spec_UnderOf_l0_X, h_4]), hR⟩
   ·replace H := HS.cnd_f h_4 H
    try simp -implicitDefEqProofs +decide (maxSteps := 999999) [-selQ_sel, hokQ_of, h_4]
    obtain ⟨v6, h_5, H⟩ := HS.bnd H
    try simp -implicitDefEqProofs +decide (maxSteps := 999999) [-selQ_sel, hokQ_of, h_4, h_5]
    obtain ⟨v7, h_6, H⟩ := HS.bnd H
    try simp -implicitDefEqProofs +decide (maxSteps := 999999) [-selQ_sel, hokQ_of, h_4, h_5, h_6]
    refine Hid.brV (fun h_7 => ?_) (fun h_7 => ?_)
    ·replace H := HS.cnd_t h_7 H
     try simp -implicitDefEqProofs +decide (maxSteps := 999999) [-selQ_sel, hokQ_of, h_4, h_5, h_6, h_7]
     obtain ⟨h_8, H⟩ := HS.chkP H
     try simp -implicitDefEqProofs +decide (maxSteps := 999999) [-selQ_sel, hokQ_of, h_4, h_5, h_6, h_7, h_8]
     obtain ⟨l8, h_9, H⟩ := HS.nam H
     have m_10 := congrArg (List.map (AV.int .i64)) h_9
     have q_11 := congrArg List.length h_9
     simp -implicitDefEqProofs at m_10 q_11
     try simp only [q_11] at m_10
     try simp only [q_11] at h_8
     try simp -implicitDefEqProofs +decide (maxSteps := 999999) [-selQ_sel, hokQ_of, h_4, h_5, h_6, h_7, h_8, m_10, q_11]
     have hr := (HS.some H).symm; subst hr
     exact Hid.mk ⟨spec_UnderOf_l0_S a0 a1 ((IntKind.i64.wrap (x4 + 1)), l8), Wk.ofk [0, 1] hk (by rfl) (by simp -implicitDefEqProofs [spec_UnderOf_l0_S, h_4, h_5, h_6, h_7, h_8, m_10, q_11]) (by simp -implicitDefEqProofs [spec_UnderOf_l0_S, h_4, h_5, h_6, h_7, h_8, m_10, q_11]), hR⟩
    ·replace H := HS.cnd_f h_7 H
     try simp -implicitDefEqProofs +decide (maxSteps := 999999) [-selQ_sel, hokQ_of, h_4, h_5, h_6, h_7]
     have hr := (HS.some H).symm; subst hr
     exact Hid.mk ⟨spec_UnderOf_l0_S a0 a1 ((IntKind.i64.wrap (x4 + 1)), x5), Wk.ofk [0, 1] hk (by rfl) (by simp -implicitDefEqProofs [spec_UnderOf_l0_S, h_4, h_5, h_6, h_7]) (by simp -implicitDefEqProofs [spec_UnderOf_l0_S, h_4, h_5, h_6, h_7]), hR⟩
  ·revert H h_3; revert q; intro y9 h_3 H
   try dsimp only at H
   try simp -implicitDefEqProofs +decide (maxSteps := 999999) [-selQ_sel, hokQ_of, h_1, h_2, spec_UnderOf_l0_X]
   have hr := (HS.some H).symm; subst hr
   refine Hid.mk ⟨_, Wk.refl _, ?_⟩
   try simp -implicitDefEqProofs +decide (maxSteps := 999999) [-selQ_sel, hokQ_of, h_1, h_2]
 ·replace H := HS.cnd_f h_2 H
  try simp -implicitDefEqProofs +decide (maxSteps := 999999) [-selQ_sel, hokQ_of, h_1, h_2]
  have hr := (HS.some H).symm; subst hr
  refine Hid.mk ⟨_, Wk.refl _, ?_⟩
  try simp -implicitDefEqProofs +decide (maxSteps := 999999) [-selQ_sel, hokQ_of, h_1, h_2]
theorem impl_MatOk_ok0 (hm : Try.prog.follows .mixedOrders = true) (k_impl_inRange : Sound Try.prog 95 impl_inRange_x) (k_impl_isFar : Sound Try.prog 217 impl_isFar_x) : Sound Try.prog 175 impl_MatOk_x := by
 refine xOf_sound fun q r h => ?_
 revert h; revert r; revert q; intro a0 r h
 refine fn_ok E0 hm Try.func175 rfl (by decide +kernel) (by rfl) fun Γ hn hk => ?_
 dsimp only [impl_MatOk_e, impl_MatOk_v]
 replace hn : Γ.n = 29 := hn
 replace hk : Γ.k = 0 := hk
 have H : HS (impl_MatOk a0) r := h
 clear h; unfold impl_MatOk at H
 try simp -implicitDefEqProofs at H
 refine Tr.of_vc (cl := tabC [(95, impl_inRange_x), (217, impl_isFar_x)]) (E := E0) [] (tab_cons k_impl_inRange (tab_cons k_impl_isFar tab_nil)) hm (by rw [hn]; decide +kernel) ?_
 try simp -implicitDefEqProofs (maxSteps := 999999) [-selQ_sel]
 obtain ⟨q, h_1, H⟩ := HS.bnd H
 refine Hid.mk (Tr.weak (s' := (impl_MatOk_l0_S a0) 0) (Wk.ofk [0] hk (by rfl) (by simp -implicitDefEqProofs [impl_MatOk_l0_S]) (by simp -implicitDefEqProofs [impl_MatOk_l0_S])) ?_)
 refine wp_loop_of (S := (impl_MatOk_l0_S a0)) (f := (impl_MatOk_l0 a0)) (xt := (impl_MatOk_l0_X a0)) ?_ ?_ h_1 ?_
 ·intro q; rcases q with ⟨⟩ | ⟨⟩ <;> simp [impl_MatOk_l0_X]
 ·clear H h_1 q
  rintro x2 o R hf hR
  have H : HS (impl_MatOk_l0 a0 x2) o := hf
  clear hf; unfold impl_MatOk_l0 at H
  try simp -implicitDefEqProofs at H
  refine Tr.of_vc (cl := tabC [(95, impl_inRange_x), (217, impl_isFar_x)]) (E := E0) [] (tab_cons k_impl_inRange (tab_cons k_impl_isFar tab_nil)) hm (by rw [hn]; decide +kernel) ?_
  try simp -implicitDefEqProofs (maxSteps := 999999) [-selQ_sel, impl_MatOk_l0_S]
  refine Hid.brV (fun h_2 => ?_) (fun h_2 => ?_)
  ·replace H := HS.cnd_t h_2 H
   try simp -implicitDefEqProofs (maxSteps := 999999) [-selQ_sel, h_2]
   have hr := (HS.some H).symm; subst hr
   exact Hid.mk ⟨(impl_MatOk_l0_X a0 (.inl ())).2, Wk.ofk [0] hk (by rfl) (by simp -implicitDefEqProofs [impl_MatOk_l0_X, h_2]) (by simp -implicitDefEqProofs [impl_MatOk_l0_X, h_2]), hR⟩
  ·replace H := HS.cnd_f h_2 H
   try simp -implicitDefEqProofs (maxSteps := 999999) [-selQ_sel, h_2]
   obtain ⟨v3, h_3, H⟩ := HS.bnd H
   have g_4 := idx_map (e := (AV.int .i64)) h_3
   simp only [List.map_cons, List.map_nil] at g_4
   try simp -implicitDefEqProofs (maxSteps := 999999) [-selQ_sel, h_2, h_3, g_4]
   obtain ⟨v4, h_5, H⟩ := HS.bnd H
   try simp -implicitDefEqProofs (maxSteps := 999999) [-selQ_sel, h_2, h_3, g_4, h_5]
   refine Hid.brV (fun h_6 => ?_) (fun h_6 => ?_)
   ·replace H := HS.cnd_t h_6 H
    try simp -implicitDefEqProofs (maxSteps := 999999) [-selQ_sel, h_2, h_3, g_4, h_5, h_6]
    have hr := (HS.some H).symm; subst hr
    exact Hid.mk ⟨impl_MatOk_l0_S a0 (IntKind.i64.wrap (x2 + 1)), Wk.ofk [0] hk (by rfl) (by simp -implicitDefEqProofs [impl_MatOk_l0_S, h_2, h_3, g_4, h_5, h_6]) (by simp -implicitDefEqProofs [impl_MatOk_l0_S, h_2, h_3, g_4, h_5, h_6]), hR⟩
   ·replace H := HS.cnd_f h_6 H
    try simp -implicitDefEqProofs (maxSteps := 999999) [-selQ_sel, h_2, h_3, g_4, h_5, h_6]
    have hr := (HS.some H).symm; subst hr
    exact Hid.mk ⟨(impl_MatOk_l0_X a0 (.inr ())).2, Wk.ofk [] hk (by rfl) (by simp -implicitDefEqProofs [impl_MatOk_l0_X, h_2, h_3, g_4, h_5, h_6]) (by simp -implicitDefEqProofs [impl_MatOk_l0_X, h_2, h_3, g_4, h_5, h_6]), hR⟩
 ·rcases q with ⟨⟩ | ⟨⟩
  ·dsimp only at H
   try simp -implicitDefEqProofs (maxSteps := 999999) [-selQ_sel, impl_MatOk_l0_X]
   obtain ⟨v5, h_7, H⟩ := HS.bnd H
   try simp -implicitDefEqProofs (maxSteps := 999999) [-selQ_sel, h_7]
   refine Hid.selQ (fun h_8 => ?_) (fun h_8 => ?_)
   ·replace H := HS.cnd_t h_8 H
    try simp -implicitDefEqProofs (maxSteps := 999999) [-selQ_sel, h_7, h_8]
    obtain ⟨v6, h_9, H⟩ := HS.bnd H
    try simp -implicitDefEqProofs (maxSteps := 999999) [-selQ_sel, h_7, h_8, h_9]
    have hr := (HS.some H).symm; subst hr
    refine Hid.mk ⟨_, Wk.refl _, ?_⟩
    try simp -implicitDefEqProofs (maxSteps := 999999) [-selQ_sel, h_7, h_8, h_9]
   ·replace H := HS.cnd_f h_8 H
    try simp -implicitDefEqProofs (maxSteps := 999999) [-selQ_sel, h_7, h_8]
    have hr := (HS.some H).symm; subst hr
    refine Hid.mk ⟨_, Wk.refl _, ?_⟩
    try simp -implicitDefEqProofs (maxSteps := 999999) [-selQ_sel, h_7, h_8]
  ·dsimp only at H
   try simp -implicitDefEqProofs (maxSteps := 999999) [-selQ_sel, impl_MatOk_l0_X]
   have hr := (HS.some H).symm; subst hr
   refine Hid.mk ⟨_, Wk.refl _, ?_⟩
   try simp -implicitDefEqProofs (maxSteps := 999999) [-selQ_sel]
theorem laws_sameInts_ok0 (hm : Try.prog.follows .mixedOrders = true) : Sound Try.prog 108 laws_sameInts_x := by
 refine xOf_sound fun q r h => ?_
 obtain ⟨a0, a1⟩ := q
 refine fn_ok E0 hm Try.func108 rfl (by decide +kernel) (by rfl) fun Γ hn hk => ?_
 dsimp only [laws_sameInts_e, laws_sameInts_v]
 replace hn : Γ.n = 26 := hn
 replace hk : Γ.k = 0 := hk
 have H : HS (laws_sameInts a0 a1) r := h
 clear h; unfold laws_sameInts at H
 try simp -implicitDefEqProofs at H
 refine Tr.of_vc (cl := tabC []) (E := E0) [] tab_nil hm (by rw [hn]; decide +kernel) ?_
 try simp -implicitDefEqProofs +decide (maxSteps := 999999) [-selQ_sel, hokQ_of]
 refine Hid.brV (fun h_1 => ?_) (fun h_1 => ?_)
 ·replace H := HS.cnd_t h_1 H
  try simp -implicitDefEqProofs +decide (maxSteps := 999999) [-selQ_sel, hokQ_of, h_1]
  obtain ⟨q, h_2, H⟩ := HS.bnd H
  refine Hid.mk (Tr.weak (s' := (laws_sameInts_l0_S a0 a1) 0) (Wk.ofk [] hk (by rfl) (by simp -implicitDefEqProofs [laws_sameInts_l0_S, h_1]) (by simp -implicitDefEqProofs [laws_sameInts_l0_S, h_1])) ?_)
  refine wp_loop_of (S := (laws_sameInts_l0_S a0 a1)) (f := (laws_sameInts_l0 a0 a1)) (xt := (laws_sameInts_l0_X a0 a1)) ?_ ?_ h_2 ?_
  ·intro q; rcases q with ⟨⟩ | ⟨⟩ <;> simp [laws_sameInts_l0_X]
  ·clear H h_2 q
   rintro x3 o R hf hR
   have H : HS (laws_sameInts_l0 a0 a1 x3) o := hf
   clear hf; unfold laws_sameInts_l0 at H
   try simp -implicitDefEqProofs at H
   refine Tr.of_vc (cl := tabC []) (E := E0) [] tab_nil hm (by rw [hn]; decide +kernel) ?_
   try simp -implicitDefEqProofs +decide (maxSteps := 999999) [-selQ_sel, hokQ_of, laws_sameInts_l0_S]
   refine Hid.brV (fun h_3 => ?_) (fun h_3 => ?_)
   ·replace H := HS.cnd_t h_3 H
    try simp -implicitDefEqProofs +decide (maxSteps := 999999) [-selQ_sel, hokQ_of, h_3]
    have hr := (HS.some H).symm; subst hr
    exact Hid.mk ⟨(laws_sameInts_l0_X a0 a1 (.inl ())).2, Wk.ofk [] hk (by rfl) (by simp -implicitDefEqProofs [laws_sameInts_l0_X, h_3]) (by simp -implicitDefEqProofs [laws_sameInts_l0_X, h_3]), hR⟩
   ·replace H := HS.cnd_f h_3 H
    try simp -implicitDefEqProofs +decide (maxSteps := 999999) [-selQ_sel, hokQ_of, h_3]
    obtain ⟨v4, h_4, H⟩ := HS.bnd H
    try simp -implicitDefEqProofs +decide (maxSteps := 999999) [-selQ_sel, hokQ_of, h_3, h_4]
    obtain ⟨v5, h_5, H⟩ := HS.bnd H
    try simp -implicitDefEqProofs +decide (maxSteps := 999999) [-selQ_sel, hokQ_of, h_3, h_4, h_5]
    refine Hid.brV (fun h_6 => ?_) (fun h_6 => ?_)
    ·replace H := HS.cnd_t h_6 H
     try simp -implicitDefEqProofs +decide (maxSteps := 999999) [-selQ_sel, hokQ_of, h_3, h_4, h_5, h_6]
     have hr := (HS.some H).symm; subst hr
     exact Hid.mk ⟨laws_sameInts_l0_S a0 a1 (IntKind.i64.wrap (x3 + 1)), Wk.ofk [] hk (by rfl) (by simp -implicitDefEqProofs [laws_sameInts_l0_S, h_3, h_4, h_5, h_6]) (by simp -implicitDefEqProofs [laws_sameInts_l0_S, h_3, h_4, h_5, h_6]), hR⟩
    ·replace H := HS.cnd_f h_6 H
     try simp -implicitDefEqProofs +decide (maxSteps := 999999) [-selQ_sel, hokQ_of, h_3, h_4, h_5, h_6]
     have hr := (HS.some H).symm; subst hr
     exact Hid.mk ⟨(laws_sameInts_l0_X a0 a1 (.inr ())).2, Wk.ofk [] hk (by rfl) (by simp -implicitDefEqProofs [laws_sameInts_l0_X, h_3, h_4, h_5, h_6]) (by simp -implicitDefEqProofs [laws_sameInts_l0_X, h_3, h_4, h_5, h_6]), hR⟩
  ·rcases q with ⟨⟩ | ⟨⟩
   ·dsimp only at H
    try simp -implicitDefEqProofs +decide (maxSteps := 999999) [-selQ_sel, hokQ_of, h_1, laws_sameInts_l0_X]
    have hr := (HS.some H).symm; subst hr
    refine Hid.mk ⟨_, Wk.refl _, ?_⟩
    try simp -implicitDefEqProofs +decide (maxSteps := 999999) [-selQ_sel, hokQ_of, h_1]
   ·dsimp only at H
    try simp -implicitDefEqProofs +decide (maxSteps := 999999) [-selQ_sel, hokQ_of, h_1, laws_sameInts_l0_X]
    have hr := (HS.some H).symm; subst hr
    refine Hid.mk ⟨_, Wk.refl _, ?_⟩
    try simp -implicitDefEqProofs +decide (maxSteps := 999999) [-selQ_sel, hokQ_of, h_1]
 ·replace H := HS.cnd_f h_1 H
  try simp -implicitDefEqProofs +decide (maxSteps := 999999) [-selQ_sel, hokQ_of, h_1]
  have hr := (HS.some H).symm; subst hr
  refine Hid.mk ⟨_, Wk.refl _, ?_⟩
  try simp -implicitDefEqProofs +decide (maxSteps := 999999) [-selQ_sel, hokQ_of, h_1]
theorem impl_DashOk_ok0 (hm : Try.prog.follows .mixedOrders = true) (k_impl_inRange : Sound Try.prog 95 impl_inRange_x) : Sound Try.prog 177 impl_DashOk_x := by
 refine xOf_sound fun q r h => ?_
 revert h; revert r; revert q; intro a0 r h
 refine fn_ok E0 hm Try.func177 rfl (by decide +kernel) (by rfl) fun Γ hn hk => ?_
 dsimp only [impl_DashOk_e, impl_DashOk_v]
 replace hn : Γ.n = 24 := hn
 replace hk : Γ.k = 0 := hk
 have H : HS (impl_DashOk a0) r := h
 clear h; unfold impl_DashOk at H
 try simp -implicitDefEqProofs at H
 refine Tr.of_vc (cl := tabC [(95, impl_inRange_x)]) (E := E0) [] (tab_cons k_impl_inRange tab_nil) hm (by rw [hn]; decide +kernel) ?_
 try simp -implicitDefEqProofs (maxSteps := 999999) [-selQ_sel]
 obtain ⟨q, h_1, H⟩ := HS.bnd H
 refine Hid.mk (Tr.weak (s' := (impl_DashOk_l0_S a0) 0) (Wk.ofk [] hk (by rfl) (by simp -implicitDefEqProofs [impl_DashOk_l0_S]) (by simp -implicitDefEqProofs [impl_DashOk_l0_S])) ?_)
 refine wp_loop_of (S := (impl_DashOk_l0_S a0)) (f := (impl_DashOk_l0 a0)) (xt := (impl_DashOk_l0_X a0)) ?_ ?_ h_1 ?_
 ·intro q; rcases q with ⟨⟩ | ⟨⟩ <;> simp [impl_DashOk_l0_X]
 ·clear H h_1 q
  rintro x3 o R hf hR
  have H : HS (impl_DashOk_l0 a0 x3) o := hf
  clear hf; unfold impl_DashOk_l0 at H
  try simp -implicitDefEqProofs at H
  refine Tr.of_vc (cl := tabC [(95, impl_inRange_x)]) (E := E0) [] (tab_cons k_impl_inRange tab_nil) hm (by rw [hn]; decide +kernel) ?_
  try simp -implicitDefEqProofs (maxSteps := 999999) [-selQ_sel, impl_DashOk_l0_S]
  refine Hid.brV (fun h_2 => ?_) (fun h_2 => ?_)
  ·replace H := HS.cnd_t h_2 H
   try simp -implicitDefEqProofs (maxSteps := 999999) [-selQ_sel, h_2]
   have hr := (HS.some H).symm; subst hr
   exact Hid.mk ⟨(impl_DashOk_l0_X a0 (.inl ())).2, Wk.ofk [] hk (by rfl) (by simp -implicitDefEqProofs [impl_DashOk_l0_X, h_2]) (by simp -implicitDefEqProofs [impl_DashOk_l0_X, h_2]), hR⟩
  ·replace H := HS.cnd_f h_2 H
   try simp -implicitDefEqProofs (maxSteps := 999999) [-selQ_sel, h_2]
   obtain ⟨v4, h_3, H⟩ := HS.bnd H
   try simp -implicitDefEqProofs (maxSteps := 999999) [-selQ_sel, h_2, h_3]
   obtain ⟨v5, h_4, H⟩ := HS.bnd H
   try simp -implicitDefEqProofs (maxSteps := 999999) [-selQ_sel, h_2, h_3, h_4]
   refine Hid.brV (fun h_5 => ?_) (fun h_5 => ?_)
   ·replace H := HS.cnd_t h_5 H
    try simp -implicitDefEqProofs (maxSteps := 999999) [-selQ_sel, h_2, h_3, h_4, h_5]
    have hr := (HS.some H).symm; subst hr
    exact Hid.mk ⟨impl_DashOk_l0_S a0 (IntKind.i64.wrap (x3 + 1)), Wk.ofk [] hk (by rfl) (by simp -implicitDefEqProofs [impl_DashOk_l0_S, h_2, h_3, h_4, h_5]) (by simp -implicitDefEqProofs [impl_DashOk_l0_S, h_2, h_3, h_4, h_5]), hR⟩
   ·replace H := HS.cnd_f h_5 H
    try simp -implicitDefEqProofs (maxSteps := 999999) [-selQ_sel, h_2, h_3, h_4, h_5]
    have hr := (HS.some H).symm; subst hr
    exact Hid.mk ⟨(impl_DashOk_l0_X a0 (.inr ())).2, Wk.ofk [] hk (by rfl) (by simp -implicitDefEqProofs [impl_DashOk_l0_X, h_2, h_3, h_4, h_5]) (by simp -implicitDefEqProofs [impl_DashOk_l0_X, h_2, h_3, h_4, h_5]), hR⟩
 ·rcases q with ⟨⟩ | ⟨⟩
  ·dsimp only at H
   try simp -implicitDefEqProofs (maxSteps := 999999) [-selQ_sel, impl_DashOk_l0_X]
   refine Hid.selQ (fun h_6 => ?_) (fun h_6 => ?_)
   ·replace H := HS.cnd_t h_6 H
    try simp -implicitDefEqProofs (maxSteps := 999999) [-selQ_sel, h_6]
    have hr := (HS.some H).symm; subst hr
    refine Hid.mk ⟨_, Wk.refl _, ?_⟩
    try simp -implicitDefEqProofs (maxSteps := 999999) [-selQ_sel, h_6]
   ·replace H := HS.cnd_f h_6 H
    try simp -implicitDefEqProofs (maxSteps := 999999) [-selQ_sel, h_6]
    have hr := (HS.some H).symm; subst hr
    refine Hid.mk ⟨_, Wk.refl _, ?_⟩
    try simp -implicitDefEqProofs (maxSteps := 999999) [-selQ_sel, h_6]
  ·dsimp only at H
   try simp -implicitDefEqProofs (maxSteps := 999999) [-selQ_sel, impl_DashOk_l0_X]
   have hr := (HS.some H).symm; subst hr
   refine Hid.mk ⟨_, Wk.refl _, ?_⟩
   try simp -implicitDefEqProofs (maxSteps := 999999) [-selQ_sel]
theorem impl_pointsOk_ok0 (hm : Try.prog.follows .mixedOrders = true) (k_impl_PointOk : Sound Try.prog 220 impl_PointOk_x) : Sound Try.prog 218 impl_pointsOk_x := by
 refine xOf_sound fun q r h => ?_
 revert h; revert r; revert q; intro a0 r h
 refine fn_ok E0 hm Try.func218 rfl (by decide +kernel) (by rfl) fun Γ hn hk => ?_
 dsimp only [impl_pointsOk_e, impl_pointsOk_v]
 replace hn : Γ.n = 15 := hn
 replace hk : Γ.k = 0 := hk
 have H : HS (impl_pointsOk a0) r := h
 clear h; unfold impl_pointsOk at H
 try simp -implicitDefEqProofs at H
 refine Tr.of_vc (cl := tabC [(220, impl_PointOk_x)]) (E := E0) [] (tab_cons k_impl_PointOk tab_nil) hm (by rw [hn]; decide +kernel) ?_
 try simp -implicitDefEqProofs (maxSteps := 999999) [-selQ_sel]
 obtain ⟨q, h_1, H⟩ := HS.bnd H
 refine Hid.mk (Tr.weak (s' := (impl_pointsOk_l0_S a0) 0) (Wk.ofk [] hk (by rfl) (by simp -implicitDefEqProofs [impl_pointsOk_l0_S]) (by simp -implicitDefEqProofs [impl_pointsOk_l0_S])) ?_)
 refine wp_loop_of (S := (impl_pointsOk_l0_S a0)) (f := (impl_pointsOk_l0 a0)) (xt := (impl_pointsOk_l0_X a0)) ?_ ?_ h_1 ?_
 ·intro q; rcases q with ⟨⟩ | ⟨⟩ <;> simp [impl_pointsOk_l0_X]
 ·clear H h_1 q
  rintro x3 o R hf hR
  have H : HS (impl_pointsOk_l0 a0 x3) o := hf
  clear hf; unfold impl_pointsOk_l0 at H
  try simp -implicitDefEqProofs at H
  refine Tr.of_vc (cl := tabC [(220, impl_PointOk_x)]) (E := E0) [] (tab_cons k_impl_PointOk tab_nil) hm (by rw [hn]; decide +kernel) ?_
  try simp -implicitDefEqProofs (maxSteps := 999999) [-selQ_sel, impl_pointsOk_l0_S]
  refine Hid.brV (fun h_2 => ?_) (fun h_2 => ?_)
  ·replace H := HS.cnd_t h_2 H
   try simp -implicitDefEqProofs (maxSteps := 999999) [-selQ_sel, h_2]
   have hr := (HS.some H).symm; subst hr
   exact Hid.mk ⟨(impl_pointsOk_l0_X a0 (.inl ())).2, Wk.ofk [] hk (by rfl) (by simp -implicitDefEqProofs [impl_pointsOk_l0_X, h_2]) (by simp -implicitDefEqProofs [impl_pointsOk_l0_X, h_2]), hR⟩
  ·replace H := HS.cnd_f h_2 H
   try simp -implicitDefEqProofs (maxSteps := 999999) [-selQ_sel, h_2]
   obtain ⟨v4, h_3, H⟩ := HS.bnd H
   try simp -implicitDefEqProofs (maxSteps := 999999) [-selQ_sel, h_2, h_3]
   obtain ⟨v5, h_4, H⟩ := HS.bnd H
   try simp -implicitDefEqProofs (maxSteps := 999999) [-selQ_sel, h_2, h_3, h_4]
   refine Hid.brV (fun h_5 => ?_) (fun h_5 => ?_)
   ·replace H := HS.cnd_t h_5 H
    try simp -implicitDefEqProofs (maxSteps := 999999) [-selQ_sel, h_2, h_3, h_4, h_5]
    have hr := (HS.some H).symm; subst hr
    exact Hid.mk ⟨impl_pointsOk_l0_S a0 (IntKind.i64.wrap (x3 + 1)), Wk.ofk [] hk (by rfl) (by simp -implicitDefEqProofs [impl_pointsOk_l0_S, h_2, h_3, h_4, h_5]) (by simp -implicitDefEqProofs [impl_pointsOk_l0_S, h_2, h_3, h_4, h_5]), hR⟩
   ·replace H := HS.cnd_f h_5 H
    try simp -implicitDefEqProofs (maxSteps := 999999) [-selQ_sel, h_2, h_3, h_4, h_5]
    have hr := (HS.some H).symm; subst hr
    exact Hid.mk ⟨(impl_pointsOk_l0_X a0 (.inr ())).2, Wk.ofk [] hk (by rfl) (by simp -implicitDefEqProofs [impl_pointsOk_l0_X, h_2, h_3, h_4, h_5]) (by simp -implicitDefEqProofs [impl_pointsOk_l0_X, h_2, h_3, h_4, h_5]), hR⟩
 ·rcases q with ⟨⟩ | ⟨⟩
  ·dsimp only at H
   try simp -implicitDefEqProofs (maxSteps := 999999) [-selQ_sel, impl_pointsOk_l0_X]
   have hr := (HS.some H).symm; subst hr
   refine Hid.mk ⟨_, Wk.refl _, ?_⟩
   try simp -implicitDefEqProofs (maxSteps := 999999) [-selQ_sel]
  ·dsimp only at H
   try simp -implicitDefEqProofs (maxSteps := 999999) [-selQ_sel, impl_pointsOk_l0_X]
   have hr := (HS.some H).symm; subst hr
   refine Hid.mk ⟨_, Wk.refl _, ?_⟩
   try simp -implicitDefEqProofs (maxSteps := 999999) [-selQ_sel]
theorem impl_NeedOf_ok0 (hm : Try.prog.follows .mixedOrders = true) : Sound Try.prog 219 impl_NeedOf_x := by
 refine xOf_sound fun q r h => ?_
 revert h; revert r; revert q; intro a0 r h
 refine fn_ok E0 hm Try.func219 rfl (by decide +kernel) (by rfl) fun Γ hn hk => ?_
 dsimp only [impl_NeedOf_e, impl_NeedOf_v]
 replace hn : Γ.n = 13 := hn
 replace hk : Γ.k = 0 := hk
 have H : HS (impl_NeedOf a0) r := h
 clear h; unfold impl_NeedOf at H
 try simp -implicitDefEqProofs at H
 refine Tr.of_vc (cl := tabC []) (E := E0) [] tab_nil hm (by rw [hn]; decide +kernel) ?_
 try simp -implicitDefEqProofs (maxSteps := 999999) [-selQ_sel]
 refine Hid.brV (fun h_1 => ?_) (fun h_1 => ?_)
 ·replace H := HS.cnd_t h_1 H
  try simp -implicitDefEqProofs (maxSteps := 999999) [-selQ_sel, h_1]
  have hr := (HS.some H).symm; subst hr
  refine Hid.mk ⟨_, Wk.refl _, ?_⟩
  try simp -implicitDefEqProofs (maxSteps := 999999) [-selQ_sel, h_1]
 ·replace H := HS.cnd_f h_1 H
  try simp -implicitDefEqProofs (maxSteps := 999999) [-selQ_sel, h_1]
  refine Hid.brV (fun h_2 => ?_) (fun h_2 => ?_)
  ·replace H := HS.cnd_t h_2 H
   try simp -implicitDefEqProofs (maxSteps := 999999) [-selQ_sel, h_1, h_2]
   have hr := (HS.some H).symm; subst hr
   refine Hid.mk ⟨_, Wk.refl _, ?_⟩
   try simp -implicitDefEqProofs (maxSteps := 999999) [-selQ_sel, h_1, h_2]
  ·replace H := HS.cnd_f h_2 H
   try simp -implicitDefEqProofs (maxSteps := 999999) [-selQ_sel, h_1, h_2]
   refine Hid.brV (fun h_3 => ?_) (fun h_3 => ?_)
   ·replace H := HS.cnd_t h_3 H
    try simp -implicitDefEqProofs (maxSteps := 999999) [-selQ_sel, h_1, h_2, h_3]
    have hr := (HS.some H).symm; subst hr
    refine Hid.mk ⟨_, Wk.refl _, ?_⟩
    try simp -implicitDefEqProofs (maxSteps := 999999) [-selQ_sel, h_1, h_2, h_3]
   ·replace H := HS.cnd_f h_3 H
    try simp -implicitDefEqProofs (maxSteps := 999999) [-selQ_sel, h_1, h_2, h_3]
    refine Hid.brV (fun h_4 => ?_) (fun h_4 => ?_)
    ·replace H := HS.cnd_t h_4 H
     try simp -implicitDefEqProofs (maxSteps := 999999) [-selQ_sel, h_1, h_2, h_3, h_4]
     have hr := (HS.some H).symm; subst hr
     refine Hid.mk ⟨_, Wk.refl _, ?_⟩
     try simp -implicitDefEqProofs (maxSteps := 999999) [-selQ_sel, h_1, h_2, h_3, h_4]
    ·replace H := HS.cnd_f h_4 H
     try simp -implicitDefEqProofs (maxSteps := 999999) [-selQ_sel, h_1, h_2, h_3, h_4]
     refine Hid.brV (fun h_5 => ?_) (fun h_5 => ?_)
     ·replace H := HS.cnd_t h_5 H
      try simp -implicitDefEqProofs (maxSteps := 999999) [-selQ_sel, h_1, h_2, h_3, h_4, h_5]
      have hr := (HS.some H).symm; subst hr
      refine Hid.mk ⟨_, Wk.refl _, ?_⟩
      try simp -implicitDefEqProofs (maxSteps := 999999) [-selQ_sel, h_1, h_2, h_3, h_4, h_5]
     ·replace H := HS.cnd_f h_5 H
      try simp -implicitDefEqProofs (maxSteps := 999999) [-selQ_sel, h_1, h_2, h_3, h_4, h_5]
      have hr := (HS.some H).symm; subst hr
      refine Hid.mk ⟨_, Wk.refl _, ?_⟩
      try simp -implicitDefEqProofs (maxSteps := 999999) [-selQ_sel, h_1, h_2, h_3, h_4, h_5]
theorem impl_ColorOk_ok0 (hm : Try.prog.follows .mixedOrders = true) (k_impl_isByte : Sound Try.prog 179 impl_isByte_x) : Sound Try.prog 203 impl_ColorOk_x := by
 refine xOf_sound fun q r h => ?_
 revert h; revert r; revert q; intro a0 r h
 refine fn_ok E0 hm Try.func203 rfl (by decide +kernel) (by rfl) fun Γ hn hk => ?_
 dsimp only [impl_ColorOk_e, impl_ColorOk_v]
 replace hn : Γ.n = 21 := hn
 replace hk : Γ.k = 0 := hk
 have H : HS (impl_ColorOk a0) r := h
 clear h; unfold impl_ColorOk at H
 try simp -implicitDefEqProofs at H
 refine Tr.of_vc (cl := tabC [(179, impl_isByte_x)]) (E := E0) [] (tab_cons k_impl_isByte tab_nil) hm (by rw [hn]; decide +kernel) ?_
 try simp -implicitDefEqProofs (maxSteps := 999999) [-selQ_sel]
 obtain ⟨v1, h_1, H⟩ := HS.bnd H
 try simp -implicitDefEqProofs (maxSteps := 999999) [-selQ_sel, h_1]
 refine Hid.selQ (fun h_2 => ?_) (fun h_2 => ?_)
 ·replace H := HS.cnd_t h_2 H
  try simp -implicitDefEqProofs (maxSteps := 999999) [-selQ_sel, h_1, h_2]
  obtain ⟨v2, h_3, H⟩ := HS.bnd H
  try simp -implicitDefEqProofs (maxSteps := 999999) [-selQ_sel, h_1, h_2, h_3]
  refine Hid.selQ (fun h_4 => ?_) (fun h_4 => ?_)
  ·replace H := HS.cnd_t h_4 H
   try simp -implicitDefEqProofs (maxSteps := 999999) [-selQ_sel, h_1, h_2, h_3, h_4]
   obtain ⟨v3, h_5, H⟩ := HS.bnd H
   try simp -implicitDefEqProofs (maxSteps := 999999) [-selQ_sel, h_1, h_2, h_3, h_4, h_5]
   refine Hid.selQ (fun h_6 => ?_) (fun h_6 => ?_)
   ·replace H := HS.cnd_t h_6 H
    try simp -implicitDefEqProofs (maxSteps := 999999) [-selQ_sel, h_1, h_2, h_3, h_4, h_5, h_6]
    obtain ⟨v4, h_7, H⟩ := HS.bnd H
    try simp -implicitDefEqProofs (maxSteps := 999999) [-selQ_sel, h_1, h_2, h_3, h_4, h_5, h_6, h_7]
    have hr := (HS.some H).symm; subst hr
    refine Hid.mk ⟨_, Wk.refl _, ?_⟩
    try simp -implicitDefEqProofs (maxSteps := 999999) [-selQ_sel, h_1, h_2, h_3, h_4, h_5, h_6, h_7]
   ·replace H := HS.cnd_f h_6 H
    try simp -implicitDefEqProofs (maxSteps := 999999) [-selQ_sel, h_1, h_2, h_3, h_4, h_5, h_6]
    have hr := (HS.some H).symm; subst hr
    refine Hid.mk ⟨_, Wk.refl _, ?_⟩
    try simp -implicitDefEqProofs (maxSteps := 999999) [-selQ_sel, h_1, h_2, h_3, h_4, h_5, h_6]
  ·replace H := HS.cnd_f h_4 H
   try simp -implicitDefEqProofs (maxSteps := 999999) [-selQ_sel, h_1, h_2, h_3, h_4]
   have hr := (HS.some H).symm; subst hr
   refine Hid.mk ⟨_, Wk.refl _, ?_⟩
   try simp -implicitDefEqProofs (maxSteps := 999999) [-selQ_sel, h_1, h_2, h_3, h_4]
 ·replace H := HS.cnd_f h_2 H
  try simp -implicitDefEqProofs (maxSteps := 999999) [-selQ_sel, h_1, h_2]
  have hr := (HS.some H).symm; subst hr
  refine Hid.mk ⟨_, Wk.refl _, ?_⟩
  try simp -implicitDefEqProofs (maxSteps := 999999) [-selQ_sel, h_1, h_2]
theorem spec_RectPath_ok0 (hm : Try.prog.follows .mixedOrders = true) (k_spec_Empty : Sound Try.prog 205 spec_Empty_x) (k_spec_PointOk : Sound Try.prog 222 spec_PointOk_x) : Sound Try.prog 213 spec_RectPath_x := by
 refine xOf_sound fun q r h => ?_
 revert h; revert r; revert q; intro a0 r h
 refine fn_ok E0 hm Try.func213 rfl (by decide +kernel) (by rfl) fun Γ hn hk => ?_
 dsimp only [spec_RectPath_e, spec_RectPath_v]
 replace hn : Γ.n = 45 := hn
 replace hk : Γ.k = 0 := hk
 have H : HS (spec_RectPath a0) r := h
 clear h; unfold spec_RectPath at H
 try simp -implicitDefEqProofs at H
 refine Tr.of_vc (cl := tabC [(205, spec_Empty_x), (222, spec_PointOk_x)]) (E := E0) [] (tab_cons k_spec_Empty (tab_cons k_spec_PointOk tab_nil)) hm (by rw [hn]; decide +kernel) ?_
 try simp -implicitDefEqProofs (maxSteps := 999999) [-selQ_sel]
 obtain ⟨v1, h_1, H⟩ := HS.bnd H
 try simp -implicitDefEqProofs (maxSteps := 999999) [-selQ_sel, h_1]
 refine Hid.selQ (fun h_2 => ?_) (fun h_2 => ?_)
 ·replace H := HS.cnd_t h_2 H
  try simp -implicitDefEqProofs (maxSteps := 999999) [-selQ_sel, h_1, h_2]
  have hr := (HS.some H).symm; subst hr
  refine Hid.mk ⟨_, Wk.refl _, ?_⟩
  try simp -implicitDefEqProofs (maxSteps := 999999) [-selQ_sel, h_1, h_2]
 ·replace H := HS.cnd_f h_2 H
  try simp -implicitDefEqProofs (maxSteps := 999999) [-selQ_sel, h_1, h_2]
  obtain ⟨v2, h_3, H⟩ := HS.bnd H
  try simp -implicitDefEqProofs (maxSteps := 999999) [-selQ_sel, h_1, h_2, h_3]
  refine Hid.selQ (fun h_4 => ?_) (fun h_4 => ?_)
  ·replace H := HS.cnd_t h_4 H
   try simp -implicitDefEqProofs (maxSteps := 999999) [-selQ_sel, h_1, h_2, h_3, h_4]
   obtain ⟨v3, h_5, H⟩ := HS.bnd H
   try simp -implicitDefEqProofs (maxSteps := 999999) [-selQ_sel, h_1, h_2, h_3, h_4, h_5]
   refine Hid.brV (fun h_6 => ?_) (fun h_6 => ?_)
   ·replace H := HS.cnd_t h_6 H
    try simp -implicitDefEqProofs (maxSteps := 999999) [-selQ_sel, h_1, h_2, h_3, h_4, h_5, h_6]
    have hr := (HS.some H).symm; subst hr
    refine Hid.mk ⟨_, Wk.refl _, ?_⟩
    try simp -implicitDefEqProofs (maxSteps := 999999) [-selQ_sel, h_1, h_2, h_3, h_4, h_5, h_6]
   ·replace H := HS.cnd_f h_6 H
    try simp -implicitDefEqProofs (maxSteps := 999999) [-selQ_sel, h_1, h_2, h_3, h_4, h_5, h_6]
    have hr := (HS.some H).symm; subst hr
    refine Hid.mk ⟨_, Wk.refl _, ?_⟩
    try simp -implicitDefEqProofs (maxSteps := 999999) [-selQ_sel, h_1, h_2, h_3, h_4, h_5, h_6]
  ·replace H := HS.cnd_f h_4 H
   try simp -implicitDefEqProofs (maxSteps := 999999) [-selQ_sel, h_1, h_2, h_3, h_4]
   have hr := (HS.some H).symm; subst hr
   refine Hid.mk ⟨_, Wk.refl _, ?_⟩
   try simp -implicitDefEqProofs (maxSteps := 999999) [-selQ_sel, h_1, h_2, h_3, h_4]
theorem impl_PointOk_ok0 (hm : Try.prog.follows .mixedOrders = true) (k_impl_isFar : Sound Try.prog 217 impl_isFar_x) : Sound Try.prog 220 impl_PointOk_x := by
 refine xOf_sound fun q r h => ?_
 revert h; revert r; revert q; intro a0 r h
 refine fn_ok E0 hm Try.func220 rfl (by decide +kernel) (by rfl) fun Γ hn hk => ?_
 dsimp only [impl_PointOk_e, impl_PointOk_v]
 replace hn : Γ.n = 11 := hn
 replace hk : Γ.k = 0 := hk
 have H : HS (impl_PointOk a0) r := h
 clear h; unfold impl_PointOk at H
 try simp -implicitDefEqProofs at H
 refine Tr.of_vc (cl := tabC [(217, impl_isFar_x)]) (E := E0) [] (tab_cons k_impl_isFar tab_nil) hm (by rw [hn]; decide +kernel) ?_
 try simp -implicitDefEqProofs (maxSteps := 999999) [-selQ_sel]
 obtain ⟨v1, h_1, H⟩ := HS.bnd H
 try simp -implicitDefEqProofs (maxSteps := 999999) [-selQ_sel, h_1]
 refine Hid.selQ (fun h_2 => ?_) (fun h_2 => ?_)
 ·replace H := HS.cnd_t h_2 H
  try simp -implicitDefEqProofs (maxSteps := 999999) [-selQ_sel, h_1, h_2]
  obtain ⟨v2, h_3, H⟩ := HS.bnd H
  try simp -implicitDefEqProofs (maxSteps := 999999) [-selQ_sel, h_1, h_2, h_3]
  have hr := (HS.some H).symm; subst hr
  refine Hid.mk ⟨_, Wk.refl _, ?_⟩
  try simp -implicitDefEqProofs (maxSteps := 999999) [-selQ_sel, h_1, h_2, h_3]
 ·replace H := HS.cnd_f h_2 H
  try simp -implicitDefEqProofs (maxSteps := 999999) [-selQ_sel, h_1, h_2]
  have hr := (HS.some H).symm; subst hr
  refine Hid.mk ⟨_, Wk.refl _, ?_⟩
  try simp -implicitDefEqProofs (maxSteps := 999999) [-selQ_sel, h_1, h_2]
theorem spec_DrawNode_ok0 (hm : Try.prog.follows .mixedOrders = true) (k_spec_l01New : Sound Try.prog 104 spec_l01New_x) (k_spec_l01Below : Sound Try.prog 107 spec_l01Below_x) (k_spec_l15Node : Sound Try.prog 110 spec_l15Node_x) : Sound Try.prog 45 spec_DrawNode_x := by
 refine xOf_sound fun q r h => ?_
 revert h; revert r; revert q; intro a0 r h
 refine fn_ok E0 hm Try.func45 rfl (by decide +kernel) (by rfl) fun Γ hn hk => ?_
 dsimp only [spec_DrawNode_e, spec_DrawNode_v]
 replace hn : Γ.n = 10 := hn
 replace hk : Γ.k = 0 := hk
 have H : HS (spec_DrawNode a0) r := h
 clear h; unfold spec_DrawNode at H
 try simp -implicitDefEqProofs at H
 refine Tr.of_vc (cl := tabC [(104, spec_l01New_x), (107, spec_l01Below_x), (110, spec_l15Node_x)]) (E := E0) [] (tab_cons k_spec_l01New (tab_cons k_spec_l01Below (tab_cons k_spec_l15Node tab_nil))) hm (by rw [hn]; decide +kernel) ?_
 try simp -implicitDefEqProofs (maxSteps := 999999) [-selQ_sel]
 obtain ⟨v1, h_1, H⟩ := HS.bnd H
 try simp -implicitDefEqProofs (maxSteps := 999999) [-selQ_sel, h_1]
 obtain ⟨⟨w3, w4⟩, h_2, H⟩ := HS.bnd H
 dsimp only at H
 try simp -implicitDefEqProofs (maxSteps := 999999) [-selQ_sel, h_1, h_2]
 obtain ⟨⟨w6, w7⟩, h_3, H⟩ := HS.bnd H
 dsimp only at H
 try simp -implicitDefEqProofs (maxSteps := 999999) [-selQ_sel, h_1, h_2, h_3]
 have hr := (HS.some H).symm; subst hr
 refine Hid.mk ⟨_, Wk.refl _, ?_⟩
 try simp -implicitDefEqProofs (maxSteps := 999999) [-selQ_sel, h_1, h_2, h_3]
theorem spec_DrawScene_ok0 (hm : Try.prog.follows .mixedOrders = true) (k_spec_l01New : Sound Try.prog 104 spec_l01New_x) (k_spec_l15Scene : Sound Try.prog 109 spec_l15Scene_x) : Sound Try.prog 44 spec_DrawScene_x := by
 refine xOf_sound fun q r h => ?_
 revert h; revert r; revert q; intro a0 r h
 refine fn_ok E0 hm Try.func44 rfl (by decide +kernel) (by rfl) fun Γ hn hk => ?_
 dsimp only [spec_DrawScene_e, spec_DrawScene_v]
 replace hn : Γ.n = 6 := hn
 replace hk : Γ.k = 0 := hk
 have H : HS (spec_DrawScene a0) r := h
 clear h; unfold spec_DrawScene at H
 try simp -implicitDefEqProofs at H
 refine Tr.of_vc (cl := tabC [(104, spec_l01New_x), (109, spec_l15Scene_x)]) (E := E0) [] (tab_cons k_spec_l01New (tab_cons k_spec_l15Scene tab_nil)) hm (by rw [hn]; decide +kernel) ?_
 try simp -implicitDefEqProofs (maxSteps := 999999) [-selQ_sel]
 obtain ⟨v1, h_1, H⟩ := HS.bnd H
 try simp -implicitDefEqProofs (maxSteps := 999999) [-selQ_sel, h_1]
 obtain ⟨⟨w3, w4⟩, h_2, H⟩ := HS.bnd H
 dsimp only at H
 try simp -implicitDefEqProofs (maxSteps := 999999) [-selQ_sel, h_1, h_2]
 have hr := (HS.some H).symm; subst hr
 refine Hid.mk ⟨_, Wk.refl _, ?_⟩
 try simp -implicitDefEqProofs (maxSteps := 999999) [-selQ_sel, h_1, h_2]
theorem impl_inRange_ok0 (hm : Try.prog.follows .mixedOrders = true) : Sound Try.prog 95 impl_inRange_x := by
 refine xOf_sound fun q r h => ?_
 obtain ⟨a0, a1, a2⟩ := q
 refine fn_ok E0 hm Try.func95 rfl (by decide +kernel) (by rfl) fun Γ hn hk => ?_
 dsimp only [impl_inRange_e, impl_inRange_v]
 replace hn : Γ.n = 15 := hn
 replace hk : Γ.k = 0 := hk
 have H : HS (impl_inRange a0 a1 a2) r := h
 clear h; unfold impl_inRange at H
 try simp -implicitDefEqProofs at H
 refine Tr.of_vc (cl := tabC []) (E := E0) [] tab_nil hm (by rw [hn]; decide +kernel) ?_
 try simp -implicitDefEqProofs (maxSteps := 999999) [-selQ_sel]
 refine Hid.selQ (fun h_1 => ?_) (fun h_1 => ?_)
 ·replace H := HS.cnd_t h_1 H
  try simp -implicitDefEqProofs (maxSteps := 999999) [-selQ_sel, h_1]
  have hr := (HS.some H).symm; subst hr
  refine Hid.mk ⟨_, Wk.refl _, ?_⟩
  try simp -implicitDefEqProofs (maxSteps := 999999) [-selQ_sel, h_1]
 ·replace H := HS.cnd_f h_1 H
  try simp -implicitDefEqProofs (maxSteps := 999999) [-selQ_sel, h_1]
  have hr := (HS.some H).symm; subst hr
  refine Hid.mk ⟨_, Wk.refl _, ?_⟩
  try simp -implicitDefEqProofs (maxSteps := 999999) [-selQ_sel, h_1]
theorem impl_NodeAt_ok0 (hm : Try.prog.follows .mixedOrders = true) (k_slices_IndexFunc_Node_NodeAt_1 : Sound Try.prog 127 slices_IndexFunc_Node_NodeAt_1_x) : Sound Try.prog 53 impl_NodeAt_x := by
 refine xOf_sound fun q r h => ?_
 obtain ⟨a0, a1⟩ := q
 refine fn_ok E0 hm Try.func53 rfl (by decide +kernel) (by rfl) fun Γ hn hk => ?_
 dsimp only [impl_NodeAt_e, impl_NodeAt_v]
 replace hn : Γ.n = 9 := hn
 replace hk : Γ.k = 0 := hk
 have H : HS (impl_NodeAt a0 a1) r := h
 clear h; unfold impl_NodeAt at H
 try simp -implicitDefEqProofs at H
 refine Tr.of_vc (cl := tabC [(127, slices_IndexFunc_Node_NodeAt_1_x)]) (E := E0) [] (tab_cons k_slices_IndexFunc_Node_NodeAt_1 tab_nil) hm (by rw [hn]; decide +kernel) ?_
 try simp -implicitDefEqProofs (maxSteps := 999999) [-selQ_sel]
 obtain ⟨v1, h_1, H⟩ := HS.bnd H
 try simp -implicitDefEqProofs (maxSteps := 999999) [-selQ_sel, h_1]
 have hr := (HS.some H).symm; subst hr
 refine Hid.mk ⟨_, Wk.refl _, ?_⟩
 try simp -implicitDefEqProofs (maxSteps := 999999) [-selQ_sel, h_1]
theorem impl_isMode_ok0 (hm : Try.prog.follows .mixedOrders = true) (k_impl_inRange : Sound Try.prog 95 impl_inRange_x) : Sound Try.prog 178 impl_isMode_x := by
 refine xOf_sound fun q r h => ?_
 revert h; revert r; revert q; intro a0 r h
 refine fn_ok E0 hm Try.func178 rfl (by decide +kernel) (by rfl) fun Γ hn hk => ?_
 dsimp only [impl_isMode_e, impl_isMode_v]
 replace hn : Γ.n = 5 := hn
 replace hk : Γ.k = 0 := hk
 have H : HS (impl_isMode a0) r := h
 clear h; unfold impl_isMode at H
 try simp -implicitDefEqProofs at H
 refine Tr.of_vc (cl := tabC [(95, impl_inRange_x)]) (E := E0) [] (tab_cons k_impl_inRange tab_nil) hm (by rw [hn]; decide +kernel) ?_
 try simp -implicitDefEqProofs (maxSteps := 999999) [-selQ_sel]
 obtain ⟨v1, h_1, H⟩ := HS.bnd H
 try simp -implicitDefEqProofs (maxSteps := 999999) [-selQ_sel, h_1]
 have hr := (HS.some H).symm; subst hr
 refine Hid.mk ⟨_, Wk.refl _, ?_⟩
 try simp -implicitDefEqProofs (maxSteps := 999999) [-selQ_sel, h_1]
theorem impl_NodeAt_1_ok0 (hm : Try.prog.follows .mixedOrders = true) : Sound Try.prog 128 impl_NodeAt_1_x := by
 refine xOf_sound fun q r h => ?_
 obtain ⟨a0, a1⟩ := q
 refine fn_ok E0 hm Try.func128 rfl (by decide +kernel) (by rfl) fun Γ hn hk => ?_
 dsimp only [impl_NodeAt_1_e, impl_NodeAt_1_v]
 replace hn : Γ.n = 8 := hn
 replace hk : Γ.k = 0 := hk
 have H : HS (impl_NodeAt_1 a0 a1) r := h
 clear h; unfold impl_NodeAt_1 at H
 try simp -implicitDefEqProofs at H
 refine Tr.of_vc (cl := tabC []) (E := E0) [] tab_nil hm (by rw [hn]; decide +kernel) ?_
 try simp -implicitDefEqProofs (maxSteps := 999999) [-selQ_sel]
 have hr := (HS.some H).symm; subst hr
 refine Hid.mk ⟨_, Wk.refl _, ?_⟩
 try simp -implicitDefEqProofs (maxSteps := 999999) [-selQ_sel]
end Go.Proofs.Ytafljhadfoaceaa.Am
