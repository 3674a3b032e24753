import Derived.Test.YtapchldnmkfkoabAmStMo
set_option linter.unusedVariables false
set_option linter.unusedSimpArgs false
set_option linter.unusedSectionVars false
namespace Go.Proofs.Ytapchldnmkfkoab.Am
open Go Go.Proofs
set_option maxRecDepth 100000
set_option linter.unusedSimpArgs false
set_option linter.unusedVariables false
set_option maxHeartbeats 4000000
theorem spec_SetNode_ok0 (hm : Try.prog.follows .mixedOrders = true) (k_spec_l15Copy : Sound Try.prog 43 spec_l15Copy_x) (k_spec_SceneOk : Sound Try.prog 44 spec_SceneOk_x) (k_spec_NodeOk : Sound Try.prog 57 spec_NodeOk_x) (k_spec_NodeAt : Sound Try.prog 45 spec_NodeAt_x) (k_spec_l15CopyNode : Sound Try.prog 47 spec_l15CopyNode_x) (k_spec_KidsOf : Sound Try.prog 74 spec_KidsOf_x) : Sound Try.prog 27 spec_SetNode_x := by
 refine xOf_sound fun q r h => ?_
 obtain ⟨a0, a1⟩ := q
 refine fn_ok E0 hm Try.func27 rfl (by decide +kernel) (by rfl) fun Γ hn hk => ?_
 dsimp only [spec_SetNode_e, spec_SetNode_v]
 replace hn : Γ.n = 54 := hn
 replace hk : Γ.k = 0 := hk
 have H : HS (spec_SetNode a0 a1) r := h
 clear h; unfold spec_SetNode at H
 try simp -implicitDefEqProofs at H
 refine Tr.of_vc (cl := tabC [(43, spec_l15Copy_x), (44, spec_SceneOk_x), (57, spec_NodeOk_x), (45, spec_NodeAt_x), (47, spec_l15CopyNode_x), (74, spec_KidsOf_x)]) (E := E0) [] (tab_cons k_spec_l15Copy (tab_cons k_spec_SceneOk (tab_cons k_spec_NodeOk (tab_cons k_spec_NodeAt (tab_cons k_spec_l15CopyNode (tab_cons k_spec_KidsOf tab_nil)))))) hm (by rw [hn]; decide +kernel) ?_
 try simp -implicitDefEqProofs (maxSteps := 999999) [-selQ_sel]
 obtain ⟨v1, h_1, H⟩ := HS.bnd H
 try simp -implicitDefEqProofs (maxSteps := 999999) [-selQ_sel, h_1]
 obtain ⟨v2, h_2, H⟩ := HS.bnd H
 try simp -implicitDefEqProofs (maxSteps := 999999) [-selQ_sel, h_1, h_2]
 refine Hid.selQ (fun h_3 => ?_) (fun h_3 => ?_)
 ·replace H := HS.cnd_t h_3 H
  try simp -implicitDefEqProofs (maxSteps := 999999) [-selQ_sel, h_1, h_2, h_3]
  obtain ⟨v3, h_4, H⟩ := HS.bnd H
  try simp -implicitDefEqProofs (maxSteps := 999999) [-selQ_sel, h_1, h_2, h_3, h_4]
  refine Hid.brV (fun h_5 => ?_) (fun h_5 => ?_)
  ·replace H := HS.cnd_t h_5 H
   try simp -implicitDefEqProofs (maxSteps := 999999) [-selQ_sel, h_1, h_2, h_3, h_4, h_5]
   obtain ⟨v4, h_6, H⟩ := HS.bnd H
   try simp -implicitDefEqProofs (maxSteps := 999999) [-selQ_sel, h_1, h_2, h_3, h_4, h_5, h_6]
   refine Hid.brV (fun h_7 => ?_) (fun h_7 => ?_)
   ·replace H := HS.cnd_t h_7 H
    try simp -implicitDefEqProofs (maxSteps := 999999) [-selQ_sel, h_1, h_2, h_3, h_4, h_5, h_6, h_7]
    refine Hid.selQ (fun h_8 => ?_) (fun h_8 => ?_)
    ·replace H := HS.cnd_t h_8 H
     try simp -implicitDefEqProofs (maxSteps := 999999) [-selQ_sel, h_1, h_2, h_3, h_4, h_5, h_6, h_7, h_8]
     obtain ⟨⟨w6, w7, w8, w9, w10, w11, w12, w13, w14, w15, w16, w17, w18, w19⟩, h_9, H⟩ := HS.bnd H
     dsimp only at H
     have k_10 := spec_l15CopyNode_k ((TNode.mk a1.id a1.parent true a1.mat a1.path a1.even a1.width a1.dashes a1.paint a1.mode a1.fade a1.clip).id) ((TNode.mk a1.id a1.parent true a1.mat a1.path a1.even a1.width a1.dashes a1.paint a1.mode a1.fade a1.clip).parent) ((TNode.mk a1.id a1.parent true a1.mat a1.path a1.even a1.width a1.dashes a1.paint a1.mode a1.fade a1.clip).group) (((TNode.mk a1.id a1.parent true a1.mat a1.path a1.even a1.width a1.dashes a1.paint a1.mode a1.fade a1.clip).mat).a) (((TNode.mk a1.id a1.parent true a1.mat a1.path a1.even a1.width a1.dashes a1.paint a1.mode a1.fade a1.clip).mat).b) (((TNode.mk a1.id a1.parent true a1.mat a1.path a1.even a1.width a1.dashes a1.paint a1.mode a1.fade a1.clip).mat).c) (((TNode.mk a1.id a1.parent true a1.mat a1.path a1.even a1.width a1.dashes a1.paint a1.mode a1.fade a1.clip).mat).d) (((TNode.mk a1.id a1.parent true a1.mat a1.path a1.even a1.width a1.dashes a1.paint a1.mode a1.fade a1.clip).mat).e) (((TNode.mk a1.id a1.parent true a1.mat a1.path a1.even a1.width a1.dashes a1.paint a1.mode a1.fade a1.clip).mat).f) (((TNode.mk a1.id a1.parent true a1.mat a1.path a1.even a1.width a1.dashes a1.paint a1.mode a1.fade a1.clip).path).verbs) (((TNode.mk a1.id a1.parent true a1.mat a1.path a1.even a1.width a1.dashes a1.paint a1.mode a1.fade a1.clip).path).points) ((TNode.mk a1.id a1.parent true a1.mat a1.path a1.even a1.width a1.dashes a1.paint a1.mode a1.fade a1.clip).even) ((TNode.mk a1.id a1.parent true a1.mat a1.path a1.even a1.width a1.dashes a1.paint a1.mode a1.fade a1.clip).width) ((TNode.mk a1.id a1.parent true a1.mat a1.path a1.even a1.width a1.dashes a1.paint a1.mode a1.fade a1.clip).dashes) (((TNode.mk a1.id a1.parent true a1.mat a1.path a1.even a1.width a1.dashes a1.paint a1.mode a1.fade a1.clip).paint).kind) ((((TNode.mk a1.id a1.parent true a1.mat a1.path a1.even a1.width a1.dashes a1.paint a1.mode a1.fade a1.clip).paint).first).r) ((((TNode.mk a1.id a1.parent true a1.mat a1.path a1.even a1.width a1.dashes a1.paint a1.mode a1.fade a1.clip).paint).first).g) ((((TNode.mk a1.id a1.parent true a1.mat a1.path a1.even a1.width a1.dashes a1.paint a1.mode a1.fade a1.clip).paint).first).b) ((((TNode.mk a1.id a1.parent true a1.mat a1.path a1.even a1.width a1.dashes a1.paint a1.mode a1.fade a1.clip).paint).first).a) ((((TNode.mk a1.id a1.parent true a1.mat a1.path a1.even a1.width a1.dashes a1.paint a1.mode a1.fade a1.clip).paint).last).r) ((((TNode.mk a1.id a1.parent true a1.mat a1.path a1.even a1.width a1.dashes a1.paint a1.mode a1.fade a1.clip).paint).last).g) ((((TNode.mk a1.id a1.parent true a1.mat a1.path a1.even a1.width a1.dashes a1.paint a1.mode a1.fade a1.clip).paint).last).b) ((((TNode.mk a1.id a1.parent true a1.mat a1.path a1.even a1.width a1.dashes a1.paint a1.mode a1.fade a1.clip).paint).last).a) ((((TNode.mk a1.id a1.parent true a1.mat a1.path a1.even a1.width a1.dashes a1.paint a1.mode a1.fade a1.clip).paint).from_).x) ((((TNode.mk a1.id a1.parent true a1.mat a1.path a1.even a1.width a1.dashes a1.paint a1.mode a1.fade a1.clip).paint).from_).y) ((((TNode.mk a1.id a1.parent true a1.mat a1.path a1.even a1.width a1.dashes a1.paint a1.mode a1.fade a1.clip).paint).to).x) ((((TNode.mk a1.id a1.parent true a1.mat a1.path a1.even a1.width a1.dashes a1.paint a1.mode a1.fade a1.clip).paint).to).y) ((TNode.mk a1.id a1.parent true a1.mat a1.path a1.even a1.width a1.dashes a1.paint a1.mode a1.fade a1.clip).mode) ((TNode.mk a1.id a1.parent true a1.mat a1.path a1.even a1.width a1.dashes a1.paint a1.mode a1.fade a1.clip).fade) (((TNode.mk a1.id a1.parent true a1.mat a1.path a1.even a1.width a1.dashes a1.paint a1.mode a1.fade a1.clip).clip).verbs) (((TNode.mk a1.id a1.parent true a1.mat a1.path a1.even a1.width a1.dashes a1.paint a1.mode a1.fade a1.clip).clip).points)
     simp -implicitDefEqProofs [-spec_l15CopyNode_k] at k_10
     try simp -implicitDefEqProofs (maxSteps := 999999) [-selQ_sel, h_1, h_2, h_3, h_4, h_5, h_6, h_7, h_8, h_9, k_10]
     obtain ⟨v20, h_11, H⟩ := HS.bnd H
     try simp -implicitDefEqProofs (maxSteps := 999999) [-selQ_sel, h_1, h_2, h_3, h_4, h_5, h_6, h_7, h_8, h_9, k_10, h_11]
     obtain ⟨v21, h_12, H⟩ := HS.bnd H
     have g_13 := idx_get h_12
     have g_14 := idx_lt h_12
     have g_15 := idx_getE h_12
     try simp -implicitDefEqProofs (maxSteps := 999999) [-selQ_sel, h_1, h_2, h_3, h_4, h_5, h_6, h_7, h_8, h_9, k_10, h_11, h_12, g_13, g_14, g_15]
     have hr := (HS.some H).symm; subst hr
     refine Hid.mk ⟨⟨[(4, AV.optr 0 0 1), (5, AV.int .i64 0)], [(0, Ob.box [AV.osl 1 0 (List.length (List.set v1 (Int.toNat v4) (TNode.mk w6 v20.parent w8 w9 (TPath.mk w15 w16) w10 w11 w17 w12 w13 w14 (TPath.mk w18 w19)))) (List.length (List.set v1 (Int.toNat v4) (TNode.mk w6 v20.parent w8 w9 (TPath.mk w15 w16) w10 w11 w17 w12 w13 w14 (TPath.mk w18 w19))))]), (1, Ob.nar 31 (List.map eNode (List.set v1 (Int.toNat v4) (TNode.mk w6 v20.parent w8 w9 (TPath.mk w15 w16) w10 w11 w17 w12 w13 w14 (TPath.mk w18 w19)))) [0, 0, 0, 0, 0, 0, 0, 0, 0, 1, 2, 0, 0, 1, 0, 0, 0, 0, 0, 0, 0, 0, 0, 0, 0, 0, 0, 0, 0, 1, 2])], 2⟩, Wk.trans (Wk.abs (id := 3) (j := 5) (js := [6, 7, 8, 9]) (by rfl) (by rfl) (by decide) (by simp -implicitDefEqProofs [h_1, h_2, h_3, h_4, h_5, h_6, h_7, h_8, h_9, k_10, h_11, h_12, g_13, g_14, g_15]) (by rfl) (by simp -implicitDefEqProofs [h_1, h_2, h_3, h_4, h_5, h_6, h_7, h_8, h_9, k_10, h_11, h_12, g_13, g_14, g_15]) (by simp -implicitDefEqProofs [h_1, h_2, h_3, h_4, h_5, h_6, h_7, h_8, h_9, k_10, h_11, h_12, g_13, g_14, g_15])) (Wk.trans (Wk.abs (id := 3) (j := 6) (js := [7, 8, 9]) (by rfl) (by rfl) (by decide) (by simp -implicitDefEqProofs [h_1, h_2, h_3, h_4, h_5, h_6, h_7, h_8, h_9, k_10, h_11, h_12, g_13, g_14, g_15]) (by rfl) (by simp -implicitDefEqProofs [h_1, h_2, h_3, h_4, h_5, h_6, h_7, h_8, h_9, k_10, h_11, h_12, g_13, g_14, g_15]) (by simp -implicitDefEqProofs [h_1, h_2, h_3, h_4, h_5, h_6, h_7, h_8, h_9, k_10, h_11, h_12, g_13, g_14, g_15])) (Wk.trans (Wk.abs (id := 3) (j := 7) (js := [8, 9]) (by rfl) (by rfl) (by decide) (by simp -implicitDefEqProofs [h_1, h_2, h_3, h_4, h_5, h_6, h_7, h_8, h_9, k_10, h_11, h_12, g_13, g_14, g_15]) (by rfl) (by simp -implicitDefEqProofs [h_1, h_2, h_3, h_4, h_5, h_6, h_7, h_8, h_9, k_10, h_11, h_12, g_13, g_14, g_15]) (by simp -implicitDefEqProofs [h_1, h_2, h_3, h_4, h_5, h_6, h_7, h_8, h_9, k_10, h_11, h_12, g_13, g_14, g_15])) (Wk.trans (Wk.abs (id := 3) (j := 8) (js := [9]) (by rfl) (by rfl) (by decide) (by simp -implicitDefEqProofs [h_1, h_2, h_3, h_4, h_5, h_6, h_7, h_8, h_9, k_10, h_11, h_12, g_13, g_14, g_15]) (by rfl) (by simp -implicitDefEqProofs [h_1, h_2, h_3, h_4, h_5, h_6, h_7, h_8, h_9, k_10, h_11, h_12, g_13, g_14, g_15]) (by simp -implicitDefEqProofs [h_1, h_2, h_3, h_4, h_5, h_6, h_7, h_8, h_9, k_10, h_11, h_12, g_13, g_14, g_15])) (Wk.trans (Wk.abs (id := 3) (j := 9) (js := []) (by rfl) (by rfl) (by decide) (by simp -implicitDefEqProofs [h_1, h_2, h_3, h_4, h_5, h_6, h_7, h_8, h_9, k_10, h_11, h_12, g_13, g_14, g_15]) (by rfl) (by simp -implicitDefEqProofs [h_1, h_2, h_3, h_4, h_5, h_6, h_7, h_8, h_9, k_10, h_11, h_12, g_13, g_14, g_15]) (by simp -implicitDefEqProofs [h_1, h_2, h_3, h_4, h_5, h_6, h_7, h_8, h_9, k_10, h_11, h_12, g_13, g_14, g_15])) (Wk.ofk [2, 3] hk (by rfl) (by simp -implicitDefEqProofs [h_1, h_2, h_3, h_4, h_5, h_6, h_7, h_8, h_9, k_10, h_11, h_12, g_13, g_14, g_15]) (by simp -implicitDefEqProofs [h_1, h_2, h_3, h_4, h_5, h_6, h_7, h_8, h_9, k_10, h_11, h_12, g_13, g_14, g_15])))))), ?_⟩
     try simp -implicitDefEqProofs (maxSteps := 999999) [-selQ_sel, h_1, h_2, h_3, h_4, h_5, h_6, h_7, h_8, h_9, k_10, h_11, h_12, g_13, g_14, g_15]
    ·replace H := HS.cnd_f h_8 H
     try simp -implicitDefEqProofs (maxSteps := 999999) [-selQ_sel, h_1, h_2, h_3, h_4, h_5, h_6, h_7, h_8]
     obtain ⟨v22, h_16, H⟩ := HS.bnd H
     try simp -implicitDefEqProofs (maxSteps := 999999) [-selQ_sel, h_1, h_2, h_3, h_4, h_5, h_6, h_7, h_8, h_16]
     refine Hid.brV (fun h_17 => ?_) (fun h_17 => ?_)
     ·replace H := HS.cnd_t h_17 H
      try simp -implicitDefEqProofs (maxSteps := 999999) [-selQ_sel, h_1, h_2, h_3, h_4, h_5, h_6, h_7, h_8, h_16, h_17]
      obtain ⟨⟨w24, w25, w26, w27, w28, w29, w30, w31, w32, w33, w34, w35, w36, w37⟩, h_18, H⟩ := HS.bnd H
      dsimp only at H
      have k_19 := spec_l15CopyNode_k ((TNode.mk a1.id a1.parent false a1.mat a1.path a1.even a1.width a1.dashes a1.paint a1.mode a1.fade a1.clip).id) ((TNode.mk a1.id a1.parent false a1.mat a1.path a1.even a1.width a1.dashes a1.paint a1.mode a1.fade a1.clip).parent) ((TNode.mk a1.id a1.parent false a1.mat a1.path a1.even a1.width a1.dashes a1.paint a1.mode a1.fade a1.clip).group) (((TNode.mk a1.id a1.parent false a1.mat a1.path a1.even a1.width a1.dashes a1.paint a1.mode a1.fade a1.clip).mat).a) (((TNode.mk a1.id a1.parent false a1.mat a1.path a1.even a1.width a1.dashes a1.paint a1.mode a1.fade a1.clip).mat).b) (((TNode.mk a1.id a1.parent false a1.mat a1.path a1.even a1.width a1.dashes a1.paint a1.mode a1.fade a1.clip).mat).c) (((TNode.mk a1.id a1.parent false a1.mat a1.path a1.even a1.width a1.dashes a1.paint a1.mode a1.fade a1.clip).mat).d) (((TNode.mk a1.id a1.parent false a1.mat a1.path a1.even a1.width a1.dashes a1.paint a1.mode a1.fade a1.clip).mat).e) (((TNode.mk a1.id a1.parent false a1.mat a1.path a1.even a1.width a1.dashes a1.paint a1.mode a1.fade a1.clip).mat).f) (((TNode.mk a1.id a1.parent false a1.mat a1.path a1.even a1.width a1.dashes a1.paint a1.mode a1.fade a1.clip).path).verbs) (((TNode.mk a1.id a1.parent false a1.mat a1.path a1.even a1.width a1.dashes a1.paint a1.mode a1.fade a1.clip).path).points) ((TNode.mk a1.id a1.parent false a1.mat a1.path a1.even a1.width a1.dashes a1.paint a1.mode a1.fade a1.clip).even) ((TNode.mk a1.id a1.parent false a1.mat a1.path a1.even a1.width a1.dashes a1.paint a1.mode a1.fade a1.clip).width) ((TNode.mk a1.id a1.parent false a1.mat a1.path a1.even a1.width a1.dashes a1.paint a1.mode a1.fade a1.clip).dashes) (((TNode.mk a1.id a1.parent false a1.mat a1.path a1.even a1.width a1.dashes a1.paint a1.mode a1.fade a1.clip).paint).kind) ((((TNode.mk a1.id a1.parent false a1.mat a1.path a1.even a1.width a1.dashes a1.paint a1.mode a1.fade a1.clip).paint).first).r) ((((TNode.mk a1.id a1.parent false a1.mat a1.path a1.even a1.width a1.dashes a1.paint a1.mode a1.fade a1.clip).paint).first).g) ((((TNode.mk a1.id a1.parent false a1.mat a1.path a1.even a1.width a1.dashes a1.paint a1.mode a1.fade a1.clip).paint).first).b) ((((TNode.mk a1.id a1.parent false a1.mat a1.path a1.even a1.width a1.dashes a1.paint a1.mode a1.fade a1.clip).paint).first).a) ((((TNode.mk a1.id a1.parent false a1.mat a1.path a1.even a1.width a1.dashes a1.paint a1.mode a1.fade a1.clip).paint).last).r) ((((TNode.mk a1.id a1.parent false a1.mat a1.path a1.even a1.width a1.dashes a1.paint a1.mode a1.fade a1.clip).paint).last).g) ((((TNode.mk a1.id a1.parent false a1.mat a1.path a1.even a1.width a1.dashes a1.paint a1.mode a1.fade a1.clip).paint).last).b) ((((TNode.mk a1.id a1.parent false a1.mat a1.path a1.even a1.width a1.dashes a1.paint a1.mode a1.fade a1.clip).paint).last).a) ((((TNode.mk a1.id a1.parent false a1.mat a1.path a1.even a1.width a1.dashes a1.paint a1.mode a1.fade a1.clip).paint).from_).x) ((((TNode.mk a1.id a1.parent false a1.mat a1.path a1.even a1.width a1.dashes a1.paint a1.mode a1.fade a1.clip).paint).from_).y) ((((TNode.mk a1.id a1.parent false a1.mat a1.path a1.even a1.width a1.dashes a1.paint a1.mode a1.fade a1.clip).paint).to).x) ((((TNode.mk a1.id a1.parent false a1.mat a1.path a1.even a1.width a1.dashes a1.paint a1.mode a1.fade a1.clip).paint).to).y) ((TNode.mk a1.id a1.parent false a1.mat a1.path a1.even a1.width a1.dashes a1.paint a1.mode a1.fade a1.clip).mode) ((TNode.mk a1.id a1.parent false a1.mat a1.path a1.even a1.width a1.dashes a1.paint a1.mode a1.fade a1.clip).fade) (((TNode.mk a1.id a1.parent false a1.mat a1.path a1.even a1.width a1.dashes a1.paint a1.mode a1.fade a1.clip).clip).verbs) (((TNode.mk a1.id a1.parent false a1.mat a1.path a1.even a1.width a1.dashes a1.paint a1.mode a1.fade a1.clip).clip).points)
      simp -implicitDefEqProofs [-spec_l15CopyNode_k] at k_19
      try simp -implicitDefEqProofs (maxSteps := 999999) [-selQ_sel, h_1, h_2, h_3, h_4, h_5, h_6, h_7, h_8, h_16, h_17, h_18, k_19]
      obtain ⟨v38, h_20, H⟩ := HS.bnd H
      try simp -implicitDefEqProofs (maxSteps := 999999) [-selQ_sel, h_1, h_2, h_3, h_4, h_5, h_6, h_7, h_8, h_16, h_17, h_18, k_19, h_20]
      obtain ⟨v39, h_21, H⟩ := HS.bnd H
      have g_22 := idx_get h_21
      have g_23 := idx_lt h_21
      have g_24 := idx_getE h_21
      try simp -implicitDefEqProofs (maxSteps := 999999) [-selQ_sel, h_1, h_2, h_3, h_4, h_5, h_6, h_7, h_8, h_16, h_17, h_18, k_19, h_20, h_21, g_22, g_23, g_24]
      have hr := (HS.some H).symm; subst hr
      refine Hid.mk ⟨⟨[(4, AV.optr 0 0 1), (5, AV.int .i64 0)], [(0, Ob.box [AV.osl 1 0 (List.length (List.set v1 (Int.toNat v4) (TNode.mk w24 v38.parent w26 w27 (TPath.mk w33 w34) w28 w29 w35 w30 w31 w32 (TPath.mk w36 w37)))) (List.length (List.set v1 (Int.toNat v4) (TNode.mk w24 v38.parent w26 w27 (TPath.mk w33 w34) w28 w29 w35 w30 w31 w32 (TPath.mk w36 w37))))]), (1, Ob.nar 31 (List.map eNode (List.set v1 (Int.toNat v4) (TNode.mk w24 v38.parent w26 w27 (TPath.mk w33 w34) w28 w29 w35 w30 w31 w32 (TPath.mk w36 w37)))) [0, 0, 0, 0, 0, 0, 0, 0, 0, 1, 2, 0, 0, 1, 0, 0, 0, 0, 0, 0, 0, 0, 0, 0, 0, 0, 0, 0, 0, 1, 2])], 2⟩, Wk.trans (Wk.abs (id := 3) (j := 5) (js := [6, 7, 8, 9]) (by rfl) (by rfl) (by decide) (by simp -implicitDefEqProofs [h_1, h_2, h_3, h_4, h_5, h_6, h_7, h_8, h_16, h_17, h_18, k_19, h_20, h_21, g_22, g_23, g_24]) (by rfl) (by simp -implicitDefEqProofs [h_1, h_2, h_3, h_4, h_5, h_6, h_7, h_8, h_16, h_17, h_18, k_19, h_20, h_21, g_22, g_23, g_24]) (by simp -implicitDefEqProofs [h_1, h_2, h_3, h_4, h_5, h_6, h_7, h_8, h_16, h_17, h_18, k_19, h_20, h_21, g_22, g_23, g_24])) (Wk.trans (Wk.abs (id := 3) (j := 6) (js := [7, 8, 9]) (by rfl) (by rfl) (by decide) (by simp -implicitDefEqProofs [h_1, h_2, h_3, h_4, h_5, h_6, h_7, h_8, h_16, h_17, h_18, k_19, h_20, h_21, g_22, g_23, g_24]) (by rfl) (by simp -implicitDefEqProofs [h_1, h_2, h_3, h_4, h_5, h_6, h_7, h_8, h_16, h_17, h_18, k_19, h_20, h_21, g_22, g_23, g_24]) (by simp -implicitDefEqProofs [h_1, h_2, h_3, h_4, h_5, h_6, h_7, h_8, h_16, h_17, h_18, k_19, h_20, h_21, g_22, g_23, g_24])) (Wk.trans (Wk.abs (id := 3) (j := 7) (js := [8, 9]) (by rfl) (by rfl) (by decide) (by simp -implicitDefEqProofs [h_1, h_2, h_3, h_4, h_5, h_6, h_7, h_8, h_16, h_17, h_18, k_19, h_20, h_21, g_22, g_23, g_24]) (by rfl) (by simp -implicitDefEqProofs [h_1, h_2, h_3, h_4, h_5, h_6, h_7, h_8, h_16, h_17, h_18, k_19, h_20, h_21, g_22, g_23, g_24]) (by simp -implicitDefEqProofs [h_1, h_2, h_3, h_4, h_5, h_6, h_7, h_8, h_16, h_17, h_18, k_19, h_20, h_21, g_22, g_23, g_24])) (Wk.trans (Wk.abs (id := 3) (j := 8) (js := [9]) (by rfl) (by rfl) (by decide) (by simp -implicitDefEqProofs [h_1, h_2, h_3, h_4, h_5, h_6, h_7, h_8, h_16, h_17, h_18, k_19, h_20, h_21, g_22, g_23, g_24]) (by rfl) (by simp -implicitDefEqProofs [h_1, h_2, h_3, h_4, h_5, h_6, h_7, h_8, h_16, h_17, h_18, k_19, h_20, h_21, g_22, g_23, g_24]) (by simp -implicitDefEqProofs [h_1, h_2, h_3, h_4, h_5, h_6, h_7, h_8, h_16, h_17, h_18, k_19, h_20, h_21, g_22, g_23, g_24])) (Wk.trans (Wk.abs (id := 3) (j := 9) (js := []) (by rfl) (by rfl) (by decide) (by simp -implicitDefEqProofs [h_1, h_2, h_3, h_4, h_5, h_6, h_7, h_8, h_16, h_17, h_18, k_19, h_20, h_21, g_22, g_23, g_24]) (by rfl) (by simp -implicitDefEqProofs [h_1, h_2, h_3, h_4, h_5, h_6, h_7, h_8, h_16, h_17, h_18, k_19, h_20, h_21, g_22, g_23, g_24]) (by simp -implicitDefEqProofs [h_1, h_2, h_3, h_4, h_5, h_6, h_7, h_8, h_16, h_17, h_18, k_19, h_20, h_21, g_22, g_23, g_24])) (Wk.ofk [2, 3] hk (by rfl) (by simp -implicitDefEqProofs [h_1, h_2, h_3, h_4, h_5, h_6, h_7, h_8, h_16, h_17, h_18, k_19, h_20, h_21, g_22, g_23, g_24]) (by simp -implicitDefEqProofs [h_1, h_2, h_3, h_4, h_5, h_6, h_7, h_8, h_16, h_17, h_18, k_19, h_20, h_21, g_22, g_23, g_24])))))), ?_⟩
      try simp -implicitDefEqProofs (maxSteps := 999999) [-selQ_sel, h_1, h_2, h_3, h_4, h_5, h_6, h_7, h_8, h_16, h_17, h_18, k_19, h_20, h_21, g_22, g_23, g_24]
     ·replace H := HS.cnd_f h_17 H
      try simp -implicitDefEqProofs (maxSteps := 999999) [-selQ_sel, h_1, h_2, h_3, h_4, h_5, h_6, h_7, h_8, h_16, h_17]
      have hr := (HS.some H).symm; subst hr
      refine Hid.mk ⟨⟨[(4, AV.optr 0 0 1), (5, AV.int .i64 1)], [(0, Ob.box [AV.osl 1 0 (List.length v1) (List.length v1)]), (1, Ob.nar 31 (List.map eNode v1) [0, 0, 0, 0, 0, 0, 0, 0, 0, 1, 2, 0, 0, 1, 0, 0, 0, 0, 0, 0, 0, 0, 0, 0, 0, 0, 0, 0, 0, 1, 2])], 2⟩, Wk.ofk [2, 3] hk (by rfl) (by simp -implicitDefEqProofs [h_1, h_2, h_3, h_4, h_5, h_6, h_7, h_8, h_16, h_17]) (by simp -implicitDefEqProofs [h_1, h_2, h_3, h_4, h_5, h_6, h_7, h_8, h_16, h_17]), ?_⟩
      try simp -implicitDefEqProofs (maxSteps := 999999) [-selQ_sel, h_1, h_2, h_3, h_4, h_5, h_6, h_7, h_8, h_16, h_17]
   ·replace H := HS.cnd_f h_7 H
    try simp -implicitDefEqProofs (maxSteps := 999999) [-selQ_sel, h_1, h_2, h_3, h_4, h_5, h_6, h_7]
    have hr := (HS.some H).symm; subst hr
    refine Hid.mk ⟨⟨[(4, AV.optr 0 0 1), (5, AV.int .i64 2)], [(0, Ob.box [AV.osl 1 0 (List.length v1) (List.length v1)]), (1, Ob.nar 31 (List.map eNode v1) [0, 0, 0, 0, 0, 0, 0, 0, 0, 1, 2, 0, 0, 1, 0, 0, 0, 0, 0, 0, 0, 0, 0, 0, 0, 0, 0, 0, 0, 1, 2])], 2⟩, Wk.ofk [2, 3] hk (by rfl) (by simp -implicitDefEqProofs [h_1, h_2, h_3, h_4, h_5, h_6, h_7]) (by simp -implicitDefEqProofs [h_1, h_2, h_3, h_4, h_5, h_6, h_7]), ?_⟩
    try simp -implicitDefEqProofs (maxSteps := 999999) [-selQ_sel, h_1, h_2, h_3, h_4, h_5, h_6, h_7]
  ·replace H := HS.cnd_f h_5 H
   try simp -implicitDefEqProofs (maxSteps := 999999) [-selQ_sel, h_1, h_2, h_3, h_4, h_5]
   have hr := (HS.some H).symm; subst hr
   refine Hid.mk ⟨⟨[(4, AV.optr 0 0 1), (5, AV.int .i64 1)], [(0, Ob.box [AV.osl 1 0 (List.length v1) (List.length v1)]), (1, Ob.nar 31 (List.map eNode v1) [0, 0, 0, 0, 0, 0, 0, 0, 0, 1, 2, 0, 0, 1, 0, 0, 0, 0, 0, 0, 0, 0, 0, 0, 0, 0, 0, 0, 0, 1, 2])], 2⟩, Wk.ofk [2, 3] hk (by rfl) (by simp -implicitDefEqProofs [h_1, h_2, h_3, h_4, h_5]) (by simp -implicitDefEqProofs [h_1, h_2, h_3, h_4, h_5]), ?_⟩
   try simp -implicitDefEqProofs (maxSteps := 999999) [-selQ_sel, h_1, h_2, h_3, h_4, h_5]
 ·replace H := HS.cnd_f h_3 H
  try simp -implicitDefEqProofs (maxSteps := 999999) [-selQ_sel, h_1, h_2, h_3]
  have hr := (HS.some H).symm; subst hr
  refine Hid.mk ⟨⟨[(4, AV.optr 0 0 1), (5, AV.int .i64 1)], [(0, Ob.box [AV.osl 1 0 (List.length v1) (List.length v1)]), (1, Ob.nar 31 (List.map eNode v1) [0, 0, 0, 0, 0, 0, 0, 0, 0, 1, 2, 0, 0, 1, 0, 0, 0, 0, 0, 0, 0, 0, 0, 0, 0, 0, 0, 0, 0, 1, 2])], 2⟩, Wk.ofk [2, 3] hk (by rfl) (by simp -implicitDefEqProofs [h_1, h_2, h_3]) (by simp -implicitDefEqProofs [h_1, h_2, h_3]), ?_⟩
  try simp -implicitDefEqProofs (maxSteps := 999999) [-selQ_sel, h_1, h_2, h_3]
theorem impl_SetNode_ok0 (hm : Try.prog.follows .mixedOrders = true) (k_impl_copyScene : Sound Try.prog 35 impl_copyScene_x) (k_impl_NodeAt : Sound Try.prog 13 impl_NodeAt_x) (k_impl_NodeOk : Sound Try.prog 50 impl_NodeOk_x) (k_impl_SceneOk : Sound Try.prog 14 impl_SceneOk_x) (k_impl_copyNode : Sound Try.prog 64 impl_copyNode_x) (k_impl_KidsOf : Sound Try.prog 75 impl_KidsOf_x) : Sound Try.prog 28 impl_SetNode_x := by
 refine xOf_sound fun q r h => ?_
 obtain ⟨a0, a1⟩ := q
 refine fn_ok E0 hm Try.func28 rfl (by decide +kernel) (by rfl) fun Γ hn hk => ?_
 dsimp only [impl_SetNode_e, impl_SetNode_v]
 replace hn : Γ.n = 61 := hn
 replace hk : Γ.k = 0 := hk
 have H : HS (impl_SetNode a0 a1) r := h
 clear h; unfold impl_SetNode at H
 try simp -implicitDefEqProofs at H
 refine Tr.of_vc (cl := tabC [(35, impl_copyScene_x), (13, impl_NodeAt_x), (50, impl_NodeOk_x), (14, impl_SceneOk_x), (64, impl_copyNode_x), (75, impl_KidsOf_x)]) (E := E0) [] (tab_cons k_impl_copyScene (tab_cons k_impl_NodeAt (tab_cons k_impl_NodeOk (tab_cons k_impl_SceneOk (tab_cons k_impl_copyNode (tab_cons k_impl_KidsOf tab_nil)))))) hm (by rw [hn]; decide +kernel) ?_
 try simp -implicitDefEqProofs +decide (maxSteps := 999999) [-selQ_sel, hokQ_of]
 obtain ⟨v1, h_1, H⟩ := HS.bnd H
 try simp -implicitDefEqProofs +decide (maxSteps := 999999) [-selQ_sel, hokQ_of, h_1]
 obtain ⟨v2, h_2, H⟩ := HS.bnd H
 try simp -implicitDefEqProofs +decide (maxSteps := 999999) [-selQ_sel, hokQ_of, h_1, h_2]
 obtain ⟨v3, h_3, H⟩ := HS.bnd H
 try simp -implicitDefEqProofs +decide (maxSteps := 999999) [-selQ_sel, hokQ_of, h_1, h_2, h_3]
 refine Hid.selQ (fun h_4 => ?_) (fun h_4 => ?_)
 ·replace H := HS.cnd_t h_4 H
  try simp -implicitDefEqProofs +decide (maxSteps := 999999) [-selQ_sel, hokQ_of, h_1, h_2, h_3, h_4]
  obtain ⟨v4, h_5, H⟩ := HS.bnd H
  try simp -implicitDefEqProofs +decide (maxSteps := 999999) [-selQ_sel, hokQ_of, h_1, h_2, h_3, h_4, h_5]
  refine Hid.brV (fun h_6 => ?_) (fun h_6 => ?_)
  ·replace H := HS.cnd_t h_6 H
   try simp -implicitDefEqProofs +decide (maxSteps := 999999) [-selQ_sel, hokQ_of, h_1, h_2, h_3, h_4, h_5, h_6]
   refine Hid.brV (fun h_7 => ?_) (fun h_7 => ?_)
   ·replace H := HS.cnd_t h_7 H
    try simp -implicitDefEqProofs +decide (maxSteps := 999999) [-selQ_sel, hokQ_of, h_1, h_2, h_3, h_4, h_5, h_6, h_7]
    refine Hid.selQ (fun h_8 => ?_) (fun h_8 => ?_)
    ·replace H := HS.cnd_t h_8 H
     try simp -implicitDefEqProofs +decide (maxSteps := 999999) [-selQ_sel, hokQ_of, h_1, h_2, h_3, h_4, h_5, h_6, h_7, h_8]
     obtain ⟨v5, h_9, H⟩ := HS.bnd H
     have g_10 := idx_get h_9
     have g_11 := idx_lt h_9
     have g_12 := idx_getE h_9
     try simp -implicitDefEqProofs +decide (maxSteps := 999999) [-selQ_sel, hokQ_of, h_1, h_2, h_3, h_4, h_5, h_6, h_7, h_8, h_9, g_10, g_11, g_12]
     obtain ⟨⟨w7, w8, w9, w10, w11, w12, w13, w14, w15, w16, w17, w18, w19, w20⟩, h_13, H⟩ := HS.bnd H
     dsimp only at H
     have k_14 := impl_copyNode_k ((TNode.mk a1.id a1.parent true a1.mat a1.path a1.even a1.width a1.dashes a1.paint a1.mode a1.fade a1.clip).id) ((TNode.mk a1.id a1.parent true a1.mat a1.path a1.even a1.width a1.dashes a1.paint a1.mode a1.fade a1.clip).parent) ((TNode.mk a1.id a1.parent true a1.mat a1.path a1.even a1.width a1.dashes a1.paint a1.mode a1.fade a1.clip).group) (((TNode.mk a1.id a1.parent true a1.mat a1.path a1.even a1.width a1.dashes a1.paint a1.mode a1.fade a1.clip).mat).a) (((TNode.mk a1.id a1.parent true a1.mat a1.path a1.even a1.width a1.dashes a1.paint a1.mode a1.fade a1.clip).mat).b) (((TNode.mk a1.id a1.parent true a1.mat a1.path a1.even a1.width a1.dashes a1.paint a1.mode a1.fade a1.clip).mat).c) (((TNode.mk a1.id a1.parent true a1.mat a1.path a1.even a1.width a1.dashes a1.paint a1.mode a1.fade a1.clip).mat).d) (((TNode.mk a1.id a1.parent true a1.mat a1.path a1.even a1.width a1.dashes a1.paint a1.mode a1.fade a1.clip).mat).e) (((TNode.mk a1.id a1.parent true a1.mat a1.path a1.even a1.width a1.dashes a1.paint a1.mode a1.fade a1.clip).mat).f) (((TNode.mk a1.id a1.parent true a1.mat a1.path a1.even a1.width a1.dashes a1.paint a1.mode a1.fade a1.clip).path).verbs) (((TNode.mk a1.id a1.parent true a1.mat a1.path a1.even a1.width a1.dashes a1.paint a1.mode a1.fade a1.clip).path).points) ((TNode.mk a1.id a1.parent true a1.mat a1.path a1.even a1.width a1.dashes a1.paint a1.mode a1.fade a1.clip).even) ((TNode.mk a1.id a1.parent true a1.mat a1.path a1.even a1.width a1.dashes a1.paint a1.mode a1.fade a1.clip).width) ((TNode.mk a1.id a1.parent true a1.mat a1.path a1.even a1.width a1.dashes a1.paint a1.mode a1.fade a1.clip).dashes) (((TNode.mk a1.id a1.parent true a1.mat a1.path a1.even a1.width a1.dashes a1.paint a1.mode a1.fade a1.clip).paint).kind) ((((TNode.mk a1.id a1.parent true a1.mat a1.path a1.even a1.width a1.dashes a1.paint a1.mode a1.fade a1.clip).paint).first).r) ((((TNode.mk a1.id a1.parent true a1.mat a1.path a1.even a1.width a1.dashes a1.paint a1.mode a1.fade a1.clip).paint).first).g) ((((TNode.mk a1.id a1.parent true a1.mat a1.path a1.even a1.width a1.dashes a1.paint a1.mode a1.fade a1.clip).paint).first).b) ((((TNode.mk a1.id a1.parent true a1.mat a1.path a1.even a1.width a1.dashes a1.paint a1.mode a1.fade a1.clip).paint).first).a) ((((TNode.mk a1.id a1.parent true a1.mat a1.path a1.even a1.width a1.dashes a1.paint a1.mode a1.fade a1.clip).paint).last).r) ((((TNode.mk a1.id a1.parent true a1.mat a1.path a1.even a1.width a1.dashes a1.paint a1.mode a1.fade a1.clip).paint).last).g) ((((TNode.mk a1.id a1.parent true a1.mat a1.path a1.even a1.width a1.dashes a1.paint a1.mode a1.fade a1.clip).paint).last).b) ((((TNode.mk a1.id a1.parent true a1.mat a1.path a1.even a1.width a1.dashes a1.paint a1.mode a1.fade a1.clip).paint).last).a) ((((TNode.mk a1.id a1.parent true a1.mat a1.path a1.even a1.width a1.dashes a1.paint a1.mode a1.fade a1.clip).paint).from_).x) ((((TNode.mk a1.id a1.parent true a1.mat a1.path a1.even a1.width a1.dashes a1.paint a1.mode a1.fade a1.clip).paint).from_).y) ((((TNode.mk a1.id a1.parent true a1.mat a1.path a1.even a1.width a1.dashes a1.paint a1.mode a1.fade a1.clip).paint).to).x) ((((TNode.mk a1.id a1.parent true a1.mat a1.path a1.even a1.width a1.dashes a1.paint a1.mode a1.fade a1.clip).paint).to).y) ((TNode.mk a1.id a1.parent true a1.mat a1.path a1.even a1.width a1.dashes a1.paint a1.mode a1.fade a1.clip).mode) ((TNode.mk a1.id a1.parent true a1.mat a1.path a1.even a1.width a1.dashes a1.paint a1.mode a1.fade a1.clip).fade) (((TNode.mk a1.id a1.parent true a1.mat a1.path a1.even a1.width a1.dashes a1.paint a1.mode a1.fade a1.clip).clip).verbs) (((TNode.mk a1.id a1.parent true a1.mat a1.path a1.even a1.width a1.dashes a1.paint a1.mode a1.fade a1.clip).clip).points)
     simp -implicitDefEqProofs [-impl_copyNode_k] at k_14
     try simp -implicitDefEqProofs +decide (maxSteps := 999999) [-selQ_sel, hokQ_of, h_1, h_2, h_3, h_4, h_5, h_6, h_7, h_8, h_9, g_10, g_11, g_12, h_13, k_14]
     have hr := (HS.some H).symm; subst hr
     refine Hid.mk ⟨⟨[(4, AV.optr 0 0 1), (5, AV.int .i64 0)], [(0, Ob.box [AV.osl 1 0 (List.length (List.set v1 (Int.toNat v2) (TNode.mk w7 v5.parent w9 w10 (TPath.mk w16 w17) w11 w12 w18 w13 w14 w15 (TPath.mk w19 w20)))) (List.length (List.set v1 (Int.toNat v2) (TNode.mk w7 v5.parent w9 w10 (TPath.mk w16 w17) w11 w12 w18 w13 w14 w15 (TPath.mk w19 w20))))]), (1, Ob.nar 31 (List.map eNode (List.set v1 (Int.toNat v2) (TNode.mk w7 v5.parent w9 w10 (TPath.mk w16 w17) w11 w12 w18 w13 w14 w15 (TPath.mk w19 w20)))) [0, 0, 0, 0, 0, 0, 0, 0, 0, 1, 2, 0, 0, 1, 0, 0, 0, 0, 0, 0, 0, 0, 0, 0, 0, 0, 0, 0, 0, 1, 2])], 2⟩, Wk.trans (Wk.abs (id := 3) (j := 5) (js := [6, 7, 8, 9]) (by rfl) (by rfl) (by decide) (by simp -implicitDefEqProofs [h_1, h_2, h_3, h_4, h_5, h_6, h_7, h_8, h_9, g_10, g_11, g_12, h_13, k_14]) (by rfl) (by simp -implicitDefEqProofs [h_1, h_2, h_3, h_4, h_5, h_6, h_7, h_8, h_9, g_10, g_11, g_12, h_13, k_14]) (by simp -implicitDefEqProofs [h_1, h_2, h_3, h_4, h_5, h_6, h_7, h_8, h_9, g_10, g_11, g_12, h_13, k_14])) (Wk.trans (Wk.abs (id := 3) (j := 6) (js := [7, 8, 9]) (by rfl) (by rfl) (by decide) (by simp -implicitDefEqProofs [h_1, h_2, h_3, h_4, h_5, h_6, h_7, h_8, h_9, g_10, g_11, g_12, h_13, k_14]) (by rfl) (by simp -implicitDefEqProofs [h_1, h_2, h_3, h_4, h_5, h_6, h_7, h_8, h_9, g_10, g_11, g_12, h_13, k_14]) (by simp -implicitDefEqProofs [h_1, h_2, h_3, h_4, h_5, h_6, h_7, h_8, h_9, g_10, g_11, g_12, h_13, k_14])) (Wk.trans (Wk.abs (id := 3) (j := 7) (js := [8, 9]) (by rfl) (by rfl) (by decide) (by simp -implicitDefEqProofs [h_1, h_2, h_3, h_4, h_5, h_6, h_7, h_8, h_9, g_10, g_11, g_12, h_13, k_14]) (by rfl) (by simp -implicitDefEqProofs [h_1, h_2, h_3, h_4, h_5, h_6, h_7, h_8, h_9, g_10, g_11, g_12, h_13, k_14]) (by simp -implicitDefEqProofs [h_1, h_2, h_3, h_4, h_5, h_6, h_7, h_8, h_9, g_10, g_11, g_12, h_13, k_14])) (Wk.trans (Wk.abs (id := 3) (j := 8) (js := [9]) (by rfl) (by rfl) (by decide) (by simp -implicitDefEqProofs [h_1, h_2, h_3, h_4, h_5, h_6, h_7, h_8, h_9, g_10, g_11, g_12, h_13, k_14]) (by rfl) (by simp -implicitDefEqProofs [h_1, h_2, h_3, h_4, h_5, h_6, h_7, h_8, h_9, g_10, g_11, g_12, h_13, k_14]) (by simp -implicitDefEqProofs [h_1, h_2, h_3, h_4, h_5, h_6, h_7, h_8, h_9, g_10, g_11, g_12, h_13, k_14])) (Wk.trans (Wk.abs (id := 3) (j := 9) (js := []) (by rfl) (by rfl) (by decide) (by simp -implicitDefEqProofs [h_1, h_2, h_3, h_4, h_5, h_6, h_7, h_8, h_9, g_10, g_11, g_12, h_13, k_14]) (by rfl) (by simp -implicitDefEqProofs [h_1, h_2, h_3, h_4, h_5, h_6, h_7, h_8, h_9, g_10, g_11, g_12, h_13, k_14]) (by simp -implicitDefEqProofs [h_1, h_2, h_3, h_4, h_5, h_6, h_7, h_8, h_9, g_10, g_11, g_12, h_13, k_14])) (Wk.ofk [2, 3] hk (by rfl) (by simp -implicitDefEqProofs [h_1, h_2, h_3, h_4, h_5, h_6, h_7, h_8, h_9, g_10, g_11, g_12, h_13, k_14]) (by simp -implicitDefEqProofs [h_1, h_2, h_3, h_4, h_5, h_6, h_7, h_8, h_9, g_10, g_11, g_12, h_13, k_14])))))), ?_⟩
     try simp -implicitDefEqProofs +decide (maxSteps := 999999) [-selQ_sel, hokQ_of, h_1, h_2, h_3, h_4, h_5, h_6, h_7, h_8, h_9, g_10, g_11, g_12, h_13, k_14]
    ·replace H := HS.cnd_f h_8 H
     try simp -implicitDefEqProofs +decide (maxSteps := 999999) [-selQ_sel, hokQ_of, h_1, h_2, h_3, h_4, h_5, h_6, h_7, h_8]
     obtain ⟨v21, h_15, H⟩ := HS.bnd H
     try simp -implicitDefEqProofs +decide (maxSteps := 999999) [-selQ_sel, hokQ_of, h_1, h_2, h_3, h_4, h_5, h_6, h_7, h_8, h_15]
     refine Hid.brV (fun h_16 => ?_) (fun h_16 => ?_)
     ·replace H := HS.cnd_t h_16 H
      try simp -implicitDefEqProofs +decide (maxSteps := 999999) [-selQ_sel, hokQ_of, h_1, h_2, h_3, h_4, h_5, h_6, h_7, h_8, h_15, h_16]
      obtain ⟨v22, h_17, H⟩ := HS.bnd H
      have g_18 := idx_get h_17
      have g_19 := idx_lt h_17
      have g_20 := idx_getE h_17
      try simp -implicitDefEqProofs +decide (maxSteps := 999999) [-selQ_sel, hokQ_of, h_1, h_2, h_3, h_4, h_5, h_6, h_7, h_8, h_15, h_16, h_17, g_18, g_19, g_20]
      obtain ⟨⟨w24, w25, w26, w27, w28, w29, w30, w31, w32, w33, w34, w35, w36, w37⟩, h_21, H⟩ := HS.bnd H
      dsimp only at H
      have k_22 := impl_copyNode_k ((TNode.mk a1.id a1.parent false a1.mat a1.path a1.even a1.width a1.dashes a1.paint a1.mode a1.fade a1.clip).id) ((TNode.mk a1.id a1.parent false a1.mat a1.path a1.even a1.width a1.dashes a1.paint a1.mode a1.fade a1.clip).parent) ((TNode.mk a1.id a1.parent false a1.mat a1.path a1.even a1.width a1.dashes a1.paint a1.mode a1.fade a1.clip).group) (((TNode.mk a1.id a1.parent false a1.mat a1.path a1.even a1.width a1.dashes a1.paint a1.mode a1.fade a1.clip).mat).a) (((TNode.mk a1.id a1.parent false a1.mat a1.path a1.even a1.width a1.dashes a1.paint a1.mode a1.fade a1.clip).mat).b) (((TNode.mk a1.id a1.parent false a1.mat a1.path a1.even a1.width a1.dashes a1.paint a1.mode a1.fade a1.clip).mat).c) (((TNode.mk a1.id a1.parent false a1.mat a1.path a1.even a1.width a1.dashes a1.paint a1.mode a1.fade a1.clip).mat).d) (((TNode.mk a1.id a1.parent false a1.mat a1.path a1.even a1.width a1.dashes a1.paint a1.mode a1.fade a1.clip).mat).e) (((TNode.mk a1.id a1.parent false a1.mat a1.path a1.even a1.width a1.dashes a1.paint a1.mode a1.fade a1.clip).mat).f) (((TNode.mk a1.id a1.parent false a1.mat a1.path a1.even a1.width a1.dashes a1.paint a1.mode a1.fade a1.clip).path).verbs) (((TNode.mk a1.id a1.parent false a1.mat a1.path a1.even a1.width a1.dashes a1.paint a1.mode a1.fade a1.clip).path).points) ((TNode.mk a1.id a1.parent false a1.mat a1.path a1.even a1.width a1.dashes a1.paint a1.mode a1.fade a1.clip).even) ((TNode.mk a1.id a1.parent false a1.mat a1.path a1.even a1.width a1.dashes a1.paint a1.mode a1.fade a1.clip).width) ((TNode.mk a1.id a1.parent false a1.mat a1.path a1.even a1.width a1.dashes a1.paint a1.mode a1.fade a1.clip).dashes) (((TNode.mk a1.id a1.parent false a1.mat a1.path a1.even a1.width a1.dashes a1.paint a1.mode a1.fade a1.clip).paint).kind) ((((TNode.mk a1.id a1.parent false a1.mat a1.path a1.even a1.width a1.dashes a1.paint a1.mode a1.fade a1.clip).paint).first).r) ((((TNode.mk a1.id a1.parent false a1.mat a1.path a1.even a1.width a1.dashes a1.paint a1.mode a1.fade a1.clip).paint).first).g) ((((TNode.mk a1.id a1.parent false a1.mat a1.path a1.even a1.width a1.dashes a1.paint a1.mode a1.fade a1.clip).paint).first).b) ((((TNode.mk a1.id a1.parent false a1.mat a1.path a1.even a1.width a1.dashes a1.paint a1.mode a1.fade a1.clip).paint).first).a) ((((TNode.mk a1.id a1.parent false a1.mat a1.path a1.even a1.width a1.dashes a1.paint a1.mode a1.fade a1.clip).paint).last).r) ((((TNode.mk a1.id a1.parent false a1.mat a1.path a1.even a1.width a1.dashes a1.paint a1.mode a1.fade a1.clip).paint).last).g) ((((TNode.mk a1.id a1.parent false a1.mat a1.path a1.even a1.width a1.dashes a1.paint a1.mode a1.fade a1.clip).paint).last).b) ((((TNode.mk a1.id a1.parent false a1.mat a1.path a1.even a1.width a1.dashes a1.paint a1.mode a1.fade a1.clip).paint).last).a) ((((TNode.mk a1.id a1.parent false a1.mat a1.path a1.even a1.width a1.dashes a1.paint a1.mode a1.fade a1.clip).paint).from_).x) ((((TNode.mk a1.id a1.parent false a1.mat a1.path a1.even a1.width a1.dashes a1.paint a1.mode a1.fade a1.clip).paint).from_).y) ((((TNode.mk a1.id a1.parent false a1.mat a1.path a1.even a1.width a1.dashes a1.paint a1.mode a1.fade a1.clip).paint).to).x) ((((TNode.mk a1.id a1.parent false a1.mat a1.path a1.even a1.width a1.dashes a1.paint a1.mode a1.fade a1.clip).paint).to).y) ((TNode.mk a1.id a1.parent false a1.mat a1.path a1.even a1.width a1.dashes a1.paint a1.mode a1.fade a1.clip).mode) ((TNode.mk a1.id a1.parent false a1.mat a1.path a1.even a1.width a1.dashes a1.paint a1.mode a1.fade a1.clip).fade) (((TNode.mk a1.id a1.parent false a1.mat a1.path a1.even a1.width a1.dashes a1.paint a1.mode a1.fade a1.clip).clip).verbs) (((TNode.mk a1.id a1.parent false a1.mat a1.path a1.even a1.width a1.dashes a1.paint a1.mode a1.fade a1.clip).clip).points)
      simp -implicitDefEqProofs [-impl_copyNode_k] at k_22
      try simp -implicitDefEqProofs +decide (maxSteps := 999999) [-selQ_sel, hokQ_of, h_1, h_2, h_3, h_4, h_5, h_6, h_7, h_8, h_15, h_16, h_17, g_18, g_19, g_20, h_21, k_22]
      have hr := (HS.some H).symm; subst hr
      refine Hid.mk ⟨⟨[(4, AV.optr 0 0 1), (5, AV.int .i64 0)], [(0, Ob.box [AV.osl 1 0 (List.length (List.set v1 (Int.toNat v2) (TNode.mk w24 v22.parent w26 w27 (TPath.mk w33 w34) w28 w29 w35 w30 w31 w32 (TPath.mk w36 w37)))) (List.length (List.set v1 (Int.toNat v2) (TNode.mk w24 v22.parent w26 w27 (TPath.mk w33 w34) w28 w29 w35 w30 w31 w32 (TPath.mk w36 w37))))]), (1, Ob.nar 31 (List.map eNode (List.set v1 (Int.toNat v2) (TNode.mk w24 v22.parent w26 w27 (TPath.mk w33 w34) w28 w29 w35 w30 w31 w32 (TPath.mk w36 w37)))) [0, 0, 0, 0, 0, 0, 0, 0, 0, 1, 2, 0, 0, 1, 0, 0, 0, 0, 0, 0, 0, 0, 0, 0, 0, 0, 0, 0, 0, 1, 2])], 2⟩, Wk.trans (Wk.abs (id := 3) (j := 5) (js := [6, 7, 8, 9]) (by rfl) (by rfl) (by decide) (by simp -implicitDefEqProofs [h_1, h_2, h_3, h_4, h_5, h_6, h_7, h_8, h_15, h_16, h_17, g_18, g_19, g_20, h_21, k_22]) (by rfl) (by simp -implicitDefEqProofs [h_1, h_2, h_3, h_4, h_5, h_6, h_7, h_8, h_15, h_16, h_17, g_18, g_19, g_20, h_21, k_22]) (by simp -implicitDefEqProofs [h_1, h_2, h_3, h_4, h_5, h_6, h_7, h_8, h_15, h_16, h_17, g_18, g_19, g_20, h_21, k_22])) (Wk.trans (Wk.abs (id := 3) (j := 6) (js := [7, 8, 9]) (by rfl) (by rfl) (by decide) (by simp -implicitDefEqProofs [h_1, h_2, h_3, h_4, h_5, h_6, h_7, h_8, h_15, h_16, h_17, g_18, g_19, g_20, h_21, k_22]) (by rfl) (by simp -implicitDefEqProofs [h_1, h_2, h_3, h_4, h_5, h_6, h_7, h_8, h_15, h_16, h_17, g_18, g_19, g_20, h_21, k_22]) (by simp -implicitDefEqProofs [h_1, h_2, h_3, h_4, h_5, h_6, h_7, h_8, h_15, h_16, h_17, g_18, g_19, g_20, h_21, k_22])) (Wk.trans (Wk.abs (id := 3) (j := 7) (js := [8, 9]) (by rfl) (by rfl) (by decide) (by simp -implicitDefEqProofs [h_1, h_2, h_3, h_4, h_5, h_6, h_7, h_8, h_15, h_16, h_17, g_18, g_19, g_20, h_21, k_22]) (by rfl) (by simp -implicitDefEqProofs [h_1, h_2, h_3, h_4, h_5, h_6, h_7, h_8, h_15, h_16, h_17, g_18, g_19, g_20, h_21, k_22]) (by simp -implicitDefEqProofs [h_1, h_2, h_3, h_4, h_5, h_6, h_7, h_8, h_15, h_16, h_17, g_18, g_19, g_20, h_21, k_22])) (Wk.trans (Wk.abs (id := 3) (j := 8) (js := [9]) (by rfl) (by rfl) (by decide) (by simp -implicitDefEqProofs [h_1, h_2, h_3, h_4, h_5, h_6, h_7, h_8, h_15, h_16, h_17, g_18, g_19, g_20, h_21, k_22]) (by rfl) (by simp -implicitDefEqProofs [h_1, h_2, h_3, h_4, h_5, h_6, h_7, h_8, h_15, h_16, h_17, g_18, g_19, g_20, h_21, k_22]) (by simp -implicitDefEqProofs [h_1, h_2, h_3, h_4, h_5, h_6, h_7, h_8, h_15, h_16, h_17, g_18, g_19, g_20, h_21, k_22])) (Wk.trans (Wk.abs (id := 3) (j := 9) (js := []) (by rfl) (by rfl) (by decide) (by simp -implicitDefEqProofs [h_1, h_2, h_3, h_4, h_5, h_6, h_7, h_8, h_15, h_16, h_17, g_18, g_19, g_20, h_21, k_22]) (by rfl) (by simp -implicitDefEqProofs [h_1, h_2, h_3, h_4, h_5, h_6, h_7, h_8, h_15, h_16, h_17, g_18, g_19, g_20, h_21, k_22]) (by simp -implicitDefEqProofs [h_1, h_2, h_3, h_4, h_5, h_6, h_7, h_8, h_15, h_16, h_17, g_18, g_19, g_20, h_21, k_22])) (Wk.ofk [2, 3] hk (by rfl) (by simp -implicitDefEqProofs [h_1, h_2, h_3, h_4, h_5, h_6, h_7, h_8, h_15, h_16, h_17, g_18, g_19, g_20, h_21, k_22]) (by simp -implicitDefEqProofs [h_1, h_2, h_3, h_4, h_5, h_6, h_7, h_8, h_15, h_16, h_17, g_18, g_19, g_20, h_21, k_22])))))), ?_⟩
      try simp -implicitDefEqProofs +decide (maxSteps := 999999) [-selQ_sel, hokQ_of, h_1, h_2, h_3, h_4, h_5, h_6, h_7, h_8, h_15, h_16, h_17, g_18, g_19, g_20, h_21, k_22]
     ·replace H := HS.cnd_f h_16 H
      try simp -implicitDefEqProofs +decide (maxSteps := 999999) [-selQ_sel, hokQ_of, h_1, h_2, h_3, h_4, h_5, h_6, h_7, h_8, h_15, h_16]
      have hr := (HS.some H).symm; subst hr
      refine Hid.mk ⟨⟨[(4, AV.optr 0 0 1), (5, AV.int .i64 1)], [(0, Ob.box [AV.osl 1 0 (List.length v1) (List.length v1)]), (1, Ob.nar 31 (List.map eNode v1) [0, 0, 0, 0, 0, 0, 0, 0, 0, 1, 2, 0, 0, 1, 0, 0, 0, 0, 0, 0, 0, 0, 0, 0, 0, 0, 0, 0, 0, 1, 2])], 2⟩, Wk.ofk [2, 3] hk (by rfl) (by simp -implicitDefEqProofs [h_1, h_2, h_3, h_4, h_5, h_6, h_7, h_8, h_15, h_16]) (by simp -implicitDefEqProofs [h_1, h_2, h_3, h_4, h_5, h_6, h_7, h_8, h_15, h_16]), ?_⟩
      try simp -implicitDefEqProofs +decide (maxSteps := 999999) [-selQ_sel, hokQ_of, h_1, h_2, h_3, h_4, h_5, h_6, h_7, h_8, h_15, h_16]
   ·replace H := HS.cnd_f h_7 H
    try simp -implicitDefEqProofs +decide (maxSteps := 999999) [-selQ_sel, hokQ_of, h_1, h_2, h_3, h_4, h_5, h_6, h_7]
    have hr := (HS.some H).symm; subst hr
    refine Hid.mk ⟨⟨[(4, AV.optr 0 0 1), (5, AV.int .i64 2)], [(0, Ob.box [AV.osl 1 0 (List.length v1) (List.length v1)]), (1, Ob.nar 31 (List.map eNode v1) [0, 0, 0, 0, 0, 0, 0, 0, 0, 1, 2, 0, 0, 1, 0, 0, 0, 0, 0, 0, 0, 0, 0, 0, 0, 0, 0, 0, 0, 1, 2])], 2⟩, Wk.ofk [2, 3] hk (by rfl) (by simp -implicitDefEqProofs [h_1, h_2, h_3, h_4, h_5, h_6, h_7]) (by simp -implicitDefEqProofs [h_1, h_2, h_3, h_4, h_5, h_6, h_7]), ?_⟩
    try simp -implicitDefEqProofs +decide (maxSteps := 999999) [-selQ_sel, hokQ_of, h_1, h_2, h_3, h_4, h_5, h_6, h_7]
  ·replace H := HS.cnd_f h_6 H
   try simp -implicitDefEqProofs +decide (maxSteps := 999999) [-selQ_sel, hokQ_of, h_1, h_2, h_3, h_4, h_5, h_6]
   have hr := (HS.some H).symm; subst hr
   refine Hid.mk ⟨⟨[(4, AV.optr 0 0 1), (5, AV.int .i64 1)], [(0, Ob.box [AV.osl 1 0 (List.length v1) (List.length v1)]), (1, Ob.nar 31 (List.map eNode v1) [0, 0, 0, 0, 0, 0, 0, 0, 0, 1, 2, 0, 0, 1, 0, 0, 0, 0, 0, 0, 0, 0, 0, 0, 0, 0, 0, 0, 0, 1, 2])], 2⟩, Wk.ofk [2, 3] hk (by rfl) (by simp -implicitDefEqProofs [h_1, h_2, h_3, h_4, h_5, h_6]) (by simp -implicitDefEqProofs [h_1, h_2, h_3, h_4, h_5, h_6]), ?_⟩
   try simp -implicitDefEqProofs +decide (maxSteps := 999999) [-selQ_sel, hokQ_of, h_1, h_2, h_3, h_4, h_5, h_6]
 ·replace H := HS.cnd_f h_4 H
  try simp -implicitDefEqProofs +decide (maxSteps := 999999) [-selQ_sel, hokQ_of, h_1, h_2, h_3, h_4]
  have hr := (HS.some H).symm; subst hr
  refine Hid.mk ⟨⟨[(4, AV.optr 0 0 1), (5, AV.int .i64 1)], [(0, Ob.box [AV.osl 1 0 (List.length v1) (List.length v1)]), (1, Ob.nar 31 (List.map eNode v1) [0, 0, 0, 0, 0, 0, 0, 0, 0, 1, 2, 0, 0, 1, 0, 0, 0, 0, 0, 0, 0, 0, 0, 0, 0, 0, 0, 0, 0, 1, 2])], 2⟩, Wk.ofk [2, 3] hk (by rfl) (by simp -implicitDefEqProofs [h_1, h_2, h_3, h_4]) (by simp -implicitDefEqProofs [h_1, h_2, h_3, h_4]), ?_⟩
  try simp -implicitDefEqProofs +decide (maxSteps := 999999) [-selQ_sel, hokQ_of, h_1, h_2, h_3, h_4]
theorem laws_markNodeS_ok0 (hm : Try.prog.follows .mixedOrders = true) (k_laws_markIntS : Sound Try.prog 72 laws_markIntS_x) (k_laws_markPointS : Sound Try.prog 112 laws_markPointS_x) : Sound Try.prog 70 laws_markNodeS_x := by
 refine xOf_sound fun q r h => ?_
 obtain ⟨a0, a1⟩ := q
 refine fn_ok E0 hm Try.func70 rfl (by decide +kernel) (by rfl) fun Γ hn hk => ?_
 dsimp only [laws_markNodeS_e, laws_markNodeS_v]
 replace hn : Γ.n = 269 := hn
 replace hk : Γ.k = 1 := hk
 have H : HS (laws_markNodeS a0 a1) r := h
 clear h; unfold laws_markNodeS at H
 try simp -implicitDefEqProofs at H
 refine Tr.of_vc (cl := tabC [(72, laws_markIntS_x), (112, laws_markPointS_x)]) (E := E0) [] (tab_cons k_laws_markIntS (tab_cons k_laws_markPointS tab_nil)) hm (by rw [hn]; decide +kernel) ?_
 try simp -implicitDefEqProofs (maxSteps := 999999) [-selQ_sel]
 obtain ⟨q, h_1, H⟩ := HS.bnd H
 refine Hid.mk (Tr.weak (s' := laws_markNodeS_l0_S (a0, 0, a1)) (Wk.ofk [0] hk (by rfl) (by simp -implicitDefEqProofs [laws_markNodeS_l0_S]) (by simp -implicitDefEqProofs [laws_markNodeS_l0_S])) ?_)
 refine wp_loop_of (S := laws_markNodeS_l0_S) (f := laws_markNodeS_l0) (xt := laws_markNodeS_l0_X) ?_ ?_ h_1 ?_
 ·intro q; rcases q with ⟨y36, y37⟩ <;> simp [laws_markNodeS_l0_X]
 ·clear H h_1 q
  rintro ⟨x17, x18, x19⟩ o R hf hR
  have H : HS (laws_markNodeS_l0 (x17, x18, x19)) o := hf
  clear hf; unfold laws_markNodeS_l0 at H
  try simp -implicitDefEqProofs at H
  refine Tr.of_vc (cl := tabC [(72, laws_markIntS_x), (112, laws_markPointS_x)]) (E := E0) [] (tab_cons k_laws_markIntS (tab_cons k_laws_markPointS tab_nil)) hm (by rw [hn]; decide +kernel) ?_
  try simp -implicitDefEqProofs (maxSteps := 999999) [-selQ_sel, laws_markNodeS_l0_S]
  refine Hid.brV (fun h_2 => ?_) (fun h_2 => ?_)
  ·replace H := HS.cnd_t h_2 H
   try simp -implicitDefEqProofs (maxSteps := 999999) [-selQ_sel, h_2]
   have hr := (HS.some H).symm; subst hr
   exact Hid.mk ⟨(laws_markNodeS_l0_X (x19, x17)).2, Wk.ofk [0] hk (by rfl) (by simp -implicitDefEqProofs [laws_markNodeS_l0_X, h_2]) (by simp -implicitDefEqProofs [laws_markNodeS_l0_X, h_2]), hR⟩
  ·replace H := HS.cnd_f h_2 H
   try simp -implicitDefEqProofs (maxSteps := 999999) [-selQ_sel, h_2]
   obtain ⟨v20, h_3, H⟩ := HS.bnd H
   have g_4 := idx_get h_3
   have g_5 := idx_lt h_3
   have g_6 := idx_getE h_3
   try simp -implicitDefEqProofs (maxSteps := 999999) [-selQ_sel, h_2, h_3, g_4, g_5, g_6]
   obtain ⟨⟨w22, w23⟩, h_7, H⟩ := HS.bnd H
   dsimp only at H
   have g_8 := laws_markIntS_n h_7
   try simp -implicitDefEqProofs (maxSteps := 999999) [-selQ_sel, h_2, h_3, g_4, g_5, g_6, h_7, g_8]
   obtain ⟨⟨w25, w26⟩, h_9, H⟩ := HS.bnd H
   dsimp only at H
   have g_10 := laws_markPointS_n h_9
   try simp -implicitDefEqProofs (maxSteps := 999999) [-selQ_sel, h_2, h_3, g_4, g_5, g_6, h_7, g_8, h_9, g_10]
   obtain ⟨⟨w28, w29⟩, h_11, H⟩ := HS.bnd H
   dsimp only at H
   have g_12 := laws_markIntS_n h_11
   try simp -implicitDefEqProofs (maxSteps := 999999) [-selQ_sel, h_2, h_3, g_4, g_5, g_6, h_7, g_8, h_9, g_10, h_11, g_12]
   obtain ⟨⟨w31, w32⟩, h_13, H⟩ := HS.bnd H
   dsimp only at H
   have g_14 := laws_markIntS_n h_13
   try simp -implicitDefEqProofs (maxSteps := 999999) [-selQ_sel, h_2, h_3, g_4, g_5, g_6, h_7, g_8, h_9, g_10, h_11, g_12, h_13, g_14]
   obtain ⟨⟨w34, w35⟩, h_15, H⟩ := HS.bnd H
   dsimp only at H
   have g_16 := laws_markPointS_n h_15
   try simp -implicitDefEqProofs (maxSteps := 999999) [-selQ_sel, h_2, h_3, g_4, g_5, g_6, h_7, g_8, h_9, g_10, h_11, g_12, h_13, g_14, h_15, g_16]
   have hr := (HS.some H).symm; subst hr
   exact Hid.mk ⟨laws_markNodeS_l0_S (w34, (IntKind.i64.wrap (x18 + 1)), (List.set x19 (Int.toNat x18) (TNode.mk x17 (IntKind.i64.wrap (x17 + 1)) (ieq (Int.tmod (IntKind.i64.wrap ((IntKind.i64.wrap (x17 + 1)) + 1)) 3) 0) (TMat.mk (IntKind.i64.wrap ((IntKind.i64.wrap ((IntKind.i64.wrap (x17 + 1)) + 1)) + 1)) (IntKind.i64.wrap ((IntKind.i64.wrap ((IntKind.i64.wrap ((IntKind.i64.wrap (x17 + 1)) + 1)) + 1)) + 1)) (IntKind.i64.wrap ((IntKind.i64.wrap ((IntKind.i64.wrap ((IntKind.i64.wrap ((IntKind.i64.wrap (x17 + 1)) + 1)) + 1)) + 1)) + 1)) (IntKind.i64.wrap ((IntKind.i64.wrap ((IntKind.i64.wrap ((IntKind.i64.wrap ((IntKind.i64.wrap ((IntKind.i64.wrap (x17 + 1)) + 1)) + 1)) + 1)) + 1)) + 1)) (IntKind.i64.wrap ((IntKind.i64.wrap ((IntKind.i64.wrap ((IntKind.i64.wrap ((IntKind.i64.wrap ((IntKind.i64.wrap ((IntKind.i64.wrap (x17 + 1)) + 1)) + 1)) + 1)) + 1)) + 1)) + 1)) (IntKind.i64.wrap ((IntKind.i64.wrap ((IntKind.i64.wrap ((IntKind.i64.wrap ((IntKind.i64.wrap ((IntKind.i64.wrap ((IntKind.i64.wrap ((IntKind.i64.wrap (x17 + 1)) + 1)) + 1)) + 1)) + 1)) + 1)) + 1)) + 1))) (TPath.mk w23 w26) (ieq (Int.tmod w25 3) 0) (IntKind.i64.wrap (w25 + 1)) w29 (TPaint.mk w28 (TColor.mk (IntKind.i64.wrap (w28 + 1)) (IntKind.i64.wrap ((IntKind.i64.wrap (w28 + 1)) + 1)) (IntKind.i64.wrap ((IntKind.i64.wrap ((IntKind.i64.wrap (w28 + 1)) + 1)) + 1)) (IntKind.i64.wrap ((IntKind.i64.wrap ((IntKind.i64.wrap ((IntKind.i64.wrap (w28 + 1)) + 1)) + 1)) + 1))) (TColor.mk (IntKind.i64.wrap ((IntKind.i64.wrap ((IntKind.i64.wrap ((IntKind.i64.wrap ((IntKind.i64.wrap (w28 + 1)) + 1)) + 1)) + 1)) + 1)) (IntKind.i64.wrap ((IntKind.i64.wrap ((IntKind.i64.wrap ((IntKind.i64.wrap ((IntKind.i64.wrap ((IntKind.i64.wrap (w28 + 1)) + 1)) + 1)) + 1)) + 1)) + 1)) (IntKind.i64.wrap ((IntKind.i64.wrap ((IntKind.i64.wrap ((IntKind.i64.wrap ((IntKind.i64.wrap ((IntKind.i64.wrap ((IntKind.i64.wrap (w28 + 1)) + 1)) + 1)) + 1)) + 1)) + 1)) + 1)) (IntKind.i64.wrap ((IntKind.i64.wrap ((IntKind.i64.wrap ((IntKind.i64.wrap ((IntKind.i64.wrap ((IntKind.i64.wrap ((IntKind.i64.wrap ((IntKind.i64.wrap (w28 + 1)) + 1)) + 1)) + 1)) + 1)) + 1)) + 1)) + 1))) (TPoint.mk (IntKind.i64.wrap ((IntKind.i64.wrap ((IntKind.i64.wrap ((IntKind.i64.wrap ((IntKind.i64.wrap ((IntKind.i64.wrap ((IntKind.i64.wrap ((IntKind.i64.wrap ((IntKind.i64.wrap (w28 + 1)) + 1)) + 1)) + 1)) + 1)) + 1)) + 1)) + 1)) + 1)) (IntKind.i64.wrap ((IntKind.i64.wrap ((IntKind.i64.wrap ((IntKind.i64.wrap ((IntKind.i64.wrap ((IntKind.i64.wrap ((IntKind.i64.wrap ((IntKind.i64.wrap ((IntKind.i64.wrap ((IntKind.i64.wrap (w28 + 1)) + 1)) + 1)) + 1)) + 1)) + 1)) + 1)) + 1)) + 1)) + 1))) (TPoint.mk (IntKind.i64.wrap ((IntKind.i64.wrap ((IntKind.i64.wrap ((IntKind.i64.wrap ((IntKind.i64.wrap ((IntKind.i64.wrap ((IntKind.i64.wrap ((IntKind.i64.wrap ((IntKind.i64.wrap ((IntKind.i64.wrap ((IntKind.i64.wrap (w28 + 1)) + 1)) + 1)) + 1)) + 1)) + 1)) + 1)) + 1)) + 1)) + 1)) + 1)) (IntKind.i64.wrap ((IntKind.i64.wrap ((IntKind.i64.wrap ((IntKind.i64.wrap ((IntKind.i64.wrap ((IntKind.i64.wrap ((IntKind.i64.wrap ((IntKind.i64.wrap ((IntKind.i64.wrap ((IntKind.i64.wrap ((IntKind.i64.wrap ((IntKind.i64.wrap (w28 + 1)) + 1)) + 1)) + 1)) + 1)) + 1)) + 1)) + 1)) + 1)) + 1)) + 1)) + 1)))) (IntKind.i64.wrap ((IntKind.i64.wrap ((IntKind.i64.wrap ((IntKind.i64.wrap ((IntKind.i64.wrap ((IntKind.i64.wrap ((IntKind.i64.wrap ((IntKind.i64.wrap ((IntKind.i64.wrap ((IntKind.i64.wrap ((IntKind.i64.wrap ((IntKind.i64.wrap ((IntKind.i64.wrap (w28 + 1)) + 1)) + 1)) + 1)) + 1)) + 1)) + 1)) + 1)) + 1)) + 1)) + 1)) + 1)) + 1)) (IntKind.i64.wrap ((IntKind.i64.wrap ((IntKind.i64.wrap ((IntKind.i64.wrap ((IntKind.i64.wrap ((IntKind.i64.wrap ((IntKind.i64.wrap ((IntKind.i64.wrap ((IntKind.i64.wrap ((IntKind.i64.wrap ((IntKind.i64.wrap ((IntKind.i64.wrap ((IntKind.i64.wrap ((IntKind.i64.wrap (w28 + 1)) + 1)) + 1)) + 1)) + 1)) + 1)) + 1)) + 1)) + 1)) + 1)) + 1)) + 1)) + 1)) + 1)) (TPath.mk w32 w35)))), Wk.trans (Wk.abs (id := 0) (j := 1) (js := [2, 3, 4, 5]) (by rfl) (by rfl) (by decide) (by simp -implicitDefEqProofs [laws_markNodeS_l0_S, h_2, h_3, g_4, g_5, g_6, h_7, g_8, h_9, g_10, h_11, g_12, h_13, g_14, h_15, g_16]) (by rfl) (by simp -implicitDefEqProofs [laws_markNodeS_l0_S, h_2, h_3, g_4, g_5, g_6, h_7, g_8, h_9, g_10, h_11, g_12, h_13, g_14, h_15, g_16]) (by simp -implicitDefEqProofs [laws_markNodeS_l0_S, h_2, h_3, g_4, g_5, g_6, h_7, g_8, h_9, g_10, h_11, g_12, h_13, g_14, h_15, g_16])) (Wk.trans (Wk.abs (id := 0) (j := 2) (js := [3, 4, 5]) (by rfl) (by rfl) (by decide) (by simp -implicitDefEqProofs [laws_markNodeS_l0_S, h_2, h_3, g_4, g_5, g_6, h_7, g_8, h_9, g_10, h_11, g_12, h_13, g_14, h_15, g_16]) (by rfl) (by simp -implicitDefEqProofs [laws_markNodeS_l0_S, h_2, h_3, g_4, g_5, g_6, h_7, g_8, h_9, g_10, h_11, g_12, h_13, g_14, h_15, g_16]) (by simp -implicitDefEqProofs [laws_markNodeS_l0_S, h_2, h_3, g_4, g_5, g_6, h_7, g_8, h_9, g_10, h_11, g_12, h_13, g_14, h_15, g_16])) (Wk.trans (Wk.abs (id := 0) (j := 3) (js := [4, 5]) (by rfl) (by rfl) (by decide) (by simp -implicitDefEqProofs [laws_markNodeS_l0_S, h_2, h_3, g_4, g_5, g_6, h_7, g_8, h_9, g_10, h_11, g_12, h_13, g_14, h_15, g_16]) (by rfl) (by simp -implicitDefEqProofs [laws_markNodeS_l0_S, h_2, h_3, g_4, g_5, g_6, h_7, g_8, h_9, g_10, h_11, g_12, h_13, g_14, h_15, g_16]) (by simp -implicitDefEqProofs [laws_markNodeS_l0_S, h_2, h_3, g_4, g_5, g_6, h_7, g_8, h_9, g_10, h_11, g_12, h_13, g_14, h_15, g_16])) (Wk.trans (Wk.abs (id := 0) (j := 4) (js := [5]) (by rfl) (by rfl) (by decide) (by simp -implicitDefEqProofs [laws_markNodeS_l0_S, h_2, h_3, g_4, g_5, g_6, h_7, g_8, h_9, g_10, h_11, g_12, h_13, g_14, h_15, g_16]) (by rfl) (by simp -implicitDefEqProofs [laws_markNodeS_l0_S, h_2, h_3, g_4, g_5, g_6, h_7, g_8, h_9, g_10, h_11, g_12, h_13, g_14, h_15, g_16]) (by simp -implicitDefEqProofs [laws_markNodeS_l0_S, h_2, h_3, g_4, g_5, g_6, h_7, g_8, h_9, g_10, h_11, g_12, h_13, g_14, h_15, g_16])) (Wk.trans (Wk.abs (id := 0) (j := 5) (js := []) (by rfl) (by rfl) (by decide) (by simp -implicitDefEqProofs [laws_markNodeS_l0_S, h_2, h_3, g_4, g_5, g_6, h_7, g_8, h_9, g_10, h_11, g_12, h_13, g_14, h_15, g_16]) (by rfl) (by simp -implicitDefEqProofs [laws_markNodeS_l0_S, h_2, h_3, g_4, g_5, g_6, h_7, g_8, h_9, g_10, h_11, g_12, h_13, g_14, h_15, g_16]) (by simp -implicitDefEqProofs [laws_markNodeS_l0_S, h_2, h_3, g_4, g_5, g_6, h_7, g_8, h_9, g_10, h_11, g_12, h_13, g_14, h_15, g_16])) (Wk.ofk [0] hk (by rfl) (by simp -implicitDefEqProofs [laws_markNodeS_l0_S, h_2, h_3, g_4, g_5, g_6, h_7, g_8, h_9, g_10, h_11, g_12, h_13, g_14, h_15, g_16]) (by simp -implicitDefEqProofs [laws_markNodeS_l0_S, h_2, h_3, g_4, g_5, g_6, h_7, g_8, h_9, g_10, h_11, g_12, h_13, g_14, h_15, g_16])))))), hR⟩
 ·obtain ⟨y36, y37⟩ := q
  try dsimp only at H
  try simp -implicitDefEqProofs (maxSteps := 999999) [-selQ_sel, laws_markNodeS_l0_X]
  have hr := (HS.some H).symm; subst hr
  refine Hid.mk ⟨_, Wk.refl _, ?_⟩
  try simp -implicitDefEqProofs (maxSteps := 999999) [-selQ_sel]
theorem impl_PathOk_ok0 (hm : Try.prog.follows .mixedOrders = true) (k_impl_pointsOk : Sound Try.prog 120 impl_pointsOk_x) (k_impl_NeedOf : Sound Try.prog 121 impl_NeedOf_x) : Sound Try.prog 90 impl_PathOk_x := by
 refine xOf_sound fun q r h => ?_
 revert h; revert r; revert q; intro a0 r h
 refine fn_ok E0 hm Try.func90 rfl (by decide +kernel) (by rfl) fun Γ hn hk => ?_
 dsimp only [impl_PathOk_e, impl_PathOk_v]
 replace hn : Γ.n = 63 := hn
 replace hk : Γ.k = 0 := hk
 have H : HS (impl_PathOk a0) r := h
 clear h; unfold impl_PathOk at H
 try simp -implicitDefEqProofs at H
 refine Tr.of_vc (cl := tabC [(120, impl_pointsOk_x), (121, impl_NeedOf_x)]) (E := E0) [] (tab_cons k_impl_pointsOk (tab_cons k_impl_NeedOf tab_nil)) hm (by rw [hn]; decide +kernel) ?_
 try simp -implicitDefEqProofs (maxSteps := 999999) [-selQ_sel]
 refine Hid.selQ (fun h_1 => ?_) (fun h_1 => ?_)
 ·replace H := HS.cnd_t h_1 H
  try simp -implicitDefEqProofs (maxSteps := 999999) [-selQ_sel, h_1]
  refine Hid.selQ (fun h_2 => ?_) (fun h_2 => ?_)
  ·replace H := HS.cnd_t h_2 H
   try simp -implicitDefEqProofs (maxSteps := 999999) [-selQ_sel, h_1, h_2]
   obtain ⟨v1, h_3, H⟩ := HS.bnd H
   try simp -implicitDefEqProofs (maxSteps := 999999) [-selQ_sel, h_1, h_2, h_3]
   refine Hid.brV (fun h_4 => ?_) (fun h_4 => ?_)
   ·replace H := HS.cnd_t h_4 H
    try simp -implicitDefEqProofs (maxSteps := 999999) [-selQ_sel, h_1, h_2, h_3, h_4]
    obtain ⟨q, h_5, H⟩ := HS.bnd H
    refine Hid.mk (Tr.weak (s' := (impl_PathOk_l0_S a0) (0, 0)) (Wk.ofk [0] hk (by rfl) (by simp -implicitDefEqProofs [impl_PathOk_l0_S, h_1, h_2, h_3, h_4]) (by simp -implicitDefEqProofs [impl_PathOk_l0_S, h_1, h_2, h_3, h_4])) ?_)
    refine wp_loop_of (S := (impl_PathOk_l0_S a0)) (f := (impl_PathOk_l0 a0)) (xt := (impl_PathOk_l0_X a0)) ?_ ?_ h_5 ?_
    ·intro q; rcases q with y9 | ⟨⟩ <;> simp [impl_PathOk_l0_X]
    ·clear H h_5 q
     rintro ⟨x4, x5⟩ o R hf hR
     have H : HS (impl_PathOk_l0 a0 (x4, x5)) o := hf
     clear hf; unfold impl_PathOk_l0 at H
     try simp -implicitDefEqProofs at H
     refine Tr.of_vc (cl := tabC [(120, impl_pointsOk_x), (121, impl_NeedOf_x)]) (E := E0) [] (tab_cons k_impl_pointsOk (tab_cons k_impl_NeedOf tab_nil)) hm (by rw [hn]; decide +kernel) ?_
     try simp -implicitDefEqProofs (maxSteps := 999999) [-selQ_sel, impl_PathOk_l0_S]
     refine Hid.brV (fun h_6 => ?_) (fun h_6 => ?_)
     ·replace H := HS.cnd_t h_6 H
      try simp -implicitDefEqProofs (maxSteps := 999999) [-selQ_sel, h_6]
      have hr := (HS.some H).symm; subst hr
      exact Hid.mk ⟨(impl_PathOk_l0_X a0 (.inl x4)).2, Wk.ofk [0] hk (by rfl) (by simp -implicitDefEqProofs [impl_PathOk_l0_X, h_6]) (by simp -implicitDefEqProofs [impl_PathOk_l0_X, h_6]), hR⟩
     ·replace H := HS.cnd_f h_6 H
      try simp -implicitDefEqProofs (maxSteps := 999999) [-selQ_sel, h_6]
      obtain ⟨v6, h_7, H⟩ := HS.bnd H
      try simp -implicitDefEqProofs (maxSteps := 999999) [-selQ_sel, h_6, h_7]
      obtain ⟨v7, h_8, H⟩ := HS.bnd H
      try simp -implicitDefEqProofs (maxSteps := 999999) [-selQ_sel, h_6, h_7, h_8]
      refine Hid.selQ (fun h_9 => ?_) (fun h_9 => ?_)
      ·replace H := HS.cnd_t h_9 H
       try simp -implicitDefEqProofs (maxSteps := 999999) [-selQ_sel, h_6, h_7, h_8, h_9]
       refine Hid.selQ (fun h_10 => ?_) (fun h_10 => ?_)
       ·replace H := HS.cnd_t h_10 H
        try simp -implicitDefEqProofs (maxSteps := 999999) [-selQ_sel, h_6, h_7, h_8, h_9, h_10]
        refine Hid.brV (fun h_11 => ?_) (fun h_11 => ?_)
        ·replace H := HS.cnd_t h_11 H
         try simp -implicitDefEqProofs (maxSteps := 999999) [-selQ_sel, h_6, h_7, h_8, h_9, h_10, h_11]
         have hr := (HS.some H).symm; subst hr
         exact Hid.mk ⟨impl_PathOk_l0_S a0 ((IntKind.i64.wrap (x4 + v7)), (IntKind.i64.wrap (x5 + 1))), Wk.ofk [0] hk (by rfl) (by simp -implicitDefEqProofs [impl_PathOk_l0_S, h_6, h_7, h_8, h_9, h_10, h_11]) (by simp -implicitDefEqProofs [impl_PathOk_l0_S, h_6, h_7, h_8, h_9, h_10, h_11]), hR⟩
        ·replace H := HS.cnd_f h_11 H
         try simp -implicitDefEqProofs (maxSteps := 999999) [-selQ_sel, h_6, h_7, h_8, h_9, h_10, h_11]
         have hr := (HS.some H).symm; subst hr
         exact Hid.mk ⟨(impl_PathOk_l0_X a0 (.inr ())).2, Wk.ofk [] hk (by rfl) (by simp -implicitDefEqProofs [impl_PathOk_l0_X, h_6, h_7, h_8, h_9, h_10, h_11]) (by simp -implicitDefEqProofs [impl_PathOk_l0_X, h_6, h_7, h_8, h_9, h_10, h_11]), hR⟩
       ·replace H := HS.cnd_f h_10 H
        try simp -implicitDefEqProofs (maxSteps := 999999) [-selQ_sel, h_6, h_7, h_8, h_9, h_10]
        have hr := (HS.some H).symm; subst hr
        exact Hid.mk ⟨(impl_PathOk_l0_X a0 (.inr ())).2, Wk.ofk [] hk (by rfl) (by simp -implicitDefEqProofs [impl_PathOk_l0_X, h_6, h_7, h_8, h_9, h_10]) (by simp -implicitDefEqProofs [impl_PathOk_l0_X, h_6, h_7, h_8, h_9, h_10]), hR⟩
      ·replace H := HS.cnd_f h_9 H
       try simp -implicitDefEqProofs (maxSteps := 999999) [-selQ_sel, h_6, h_7, h_8, h_9]
       obtain ⟨v8, h_12, H⟩ := HS.bnd H
       try simp -implicitDefEqProofs (maxSteps := 999999) [-selQ_sel, h_6, h_7, h_8, h_9, h_12]
       refine Hid.selQ (fun h_13 => ?_) (fun h_13 => ?_)
       ·replace H := HS.cnd_t h_13 H
        try simp -implicitDefEqProofs (maxSteps := 999999) [-selQ_sel, h_6, h_7, h_8, h_9, h_12, h_13]
        refine Hid.selQ (fun h_14 => ?_) (fun h_14 => ?_)
        ·replace H := HS.cnd_t h_14 H
         try simp -implicitDefEqProofs (maxSteps := 999999) [-selQ_sel, h_6, h_7, h_8, h_9, h_12, h_13, h_14]
         refine Hid.brV (fun h_15 => ?_) (fun h_15 => ?_)
         ·replace H := HS.cnd_t h_15 H
          try simp -implicitDefEqProofs (maxSteps := 999999) [-selQ_sel, h_6, h_7, h_8, h_9, h_12, h_13, h_14, h_15]
          have hr := (HS.some H).symm; subst hr
          exact Hid.mk ⟨impl_PathOk_l0_S a0 ((IntKind.i64.wrap (x4 + v7)), (IntKind.i64.wrap (x5 + 1))), Wk.ofk [0] hk (by rfl) (by simp -implicitDefEqProofs [impl_PathOk_l0_S, h_6, h_7, h_8, h_9, h_12, h_13, h_14, h_15]) (by simp -implicitDefEqProofs [impl_PathOk_l0_S, h_6, h_7, h_8, h_9, h_12, h_13, h_14, h_15]), hR⟩
         ·replace H := HS.cnd_f h_15 H
          try simp -implicitDefEqProofs (maxSteps := 999999) [-selQ_sel, h_6, h_7, h_8, h_9, h_12, h_13, h_14, h_15]
          have hr := (HS.some H).symm; subst hr
          exact Hid.mk ⟨(impl_PathOk_l0_X a0 (.inr ())).2, Wk.ofk [] hk (by rfl) (by simp -implicitDefEqProofs [impl_PathOk_l0_X, h_6, h_7, h_8, h_9, h_12, h_13, h_14, h_15]) (by simp -implicitDefEqProofs [impl_PathOk_l0_X, h_6, h_7, h_8, h_9, h_12, h_13, h_14, h_15]), hR⟩
        ·replace H := HS.cnd_f h_14 H
         try simp -implicitDefEqProofs (maxSteps := 999999) [-selQ_sel, h_6, h_7, h_8, h_9, h_12, h_13, h_14]
         have hr := (HS.some H).symm; subst hr
         exact Hid.mk ⟨impl_PathOk_l0_S a0 ((IntKind.i64.wrap (x4 + v7)), (IntKind.i64.wrap (x5 + 1))), Wk.ofk [0] hk (by rfl) (by simp -implicitDefEqProofs [impl_PathOk_l0_S, h_6, h_7, h_8, h_9, h_12, h_13, h_14]) (by simp -implicitDefEqProofs [impl_PathOk_l0_S, h_6, h_7, h_8, h_9, h_12, h_13, h_14]), hR⟩
       ·replace H := HS.cnd_f h_13 H
        try simp -implicitDefEqProofs (maxSteps := 999999) [-selQ_sel, h_6, h_7, h_8, h_9, h_12, h_13]
        have hr := (HS.some H).symm; subst hr
        exact Hid.mk ⟨(impl_PathOk_l0_X a0 (.inr ())).2, Wk.ofk [] hk (by rfl) (by simp -implicitDefEqProofs [impl_PathOk_l0_X, h_6, h_7, h_8, h_9, h_12, h_13]) (by simp -implicitDefEqProofs [impl_PathOk_l0_X, h_6, h_7, h_8, h_9, h_12, h_13]), hR⟩
    ·rcases q with y9 | ⟨⟩
     ·dsimp only at H
      try simp -implicitDefEqProofs (maxSteps := 999999) [-selQ_sel, h_1, h_2, h_3, h_4, impl_PathOk_l0_X]
      have hr := (HS.some H).symm; subst hr
      refine Hid.mk ⟨_, Wk.refl _, ?_⟩
      try simp -implicitDefEqProofs (maxSteps := 999999) [-selQ_sel, h_1, h_2, h_3, h_4]
     ·dsimp only at H
      try simp -implicitDefEqProofs (maxSteps := 999999) [-selQ_sel, h_1, h_2, h_3, h_4, impl_PathOk_l0_X]
      have hr := (HS.some H).symm; subst hr
      refine Hid.mk ⟨_, Wk.refl _, ?_⟩
      try simp -implicitDefEqProofs (maxSteps := 999999) [-selQ_sel, h_1, h_2, h_3, h_4]
   ·replace H := HS.cnd_f h_4 H
    try simp -implicitDefEqProofs (maxSteps := 999999) [-selQ_sel, h_1, h_2, h_3, h_4]
    have hr := (HS.some H).symm; subst hr
    refine Hid.mk ⟨_, Wk.refl _, ?_⟩
    try simp -implicitDefEqProofs (maxSteps := 999999) [-selQ_sel, h_1, h_2, h_3, h_4]
  ·replace H := HS.cnd_f h_2 H
   try simp -implicitDefEqProofs (maxSteps := 999999) [-selQ_sel, h_1, h_2]
   have hr := (HS.some H).symm; subst hr
   refine Hid.mk ⟨_, Wk.refl _, ?_⟩
   try simp -implicitDefEqProofs (maxSteps := 999999) [-selQ_sel, h_1, h_2]
 ·replace H := HS.cnd_f h_1 H
  try simp -implicitDefEqProofs (maxSteps := 999999) [-selQ_sel, h_1]
  have hr := (HS.some H).symm; subst hr
  refine Hid.mk ⟨_, Wk.refl _, ?_⟩
  try simp -implicitDefEqProofs (maxSteps := 999999) [-selQ_sel, h_1]
theorem laws_toNodeS_ok0 (hm : Try.prog.follows .mixedOrders = true) (k_laws_toNode : Sound Try.prog 20 laws_toNode_x) : Sound Try.prog 59 laws_toNodeS_x := by
 refine xOf_sound fun q r h => ?_
 revert h; revert r; revert q; intro a0 r h
 refine fn_ok E0 hm Try.func59 rfl (by decide +kernel) (by rfl) fun Γ hn hk => ?_
 dsimp only [laws_toNodeS_e, laws_toNodeS_v]
 replace hn : Γ.n = 23 := hn
 replace hk : Γ.k = 0 := hk
 have H : HS (laws_toNodeS a0) r := h
 clear h; unfold laws_toNodeS at H
 try simp -implicitDefEqProofs at H
 refine Tr.of_vc (cl := tabC [(20, laws_toNode_x)]) (E := E0) [] (tab_cons k_laws_toNode tab_nil) hm (by rw [hn]; decide +kernel) ?_
 try simp -implicitDefEqProofs (maxSteps := 999999) [-selQ_sel]
 obtain ⟨h_1, H⟩ := HS.chkP H
 try simp -implicitDefEqProofs (maxSteps := 999999) [-selQ_sel, h_1]
 obtain ⟨l1, h_2, H⟩ := HS.nam H
 have m_3 := congrArg (List.map eNode) h_2
 have q_4 := congrArg List.length h_2
 simp -implicitDefEqProofs at m_3 q_4
 try simp only [q_4] at m_3
 try simp only [q_4] at h_1
 try simp -implicitDefEqProofs (maxSteps := 999999) [-selQ_sel, h_1, m_3, q_4]
 obtain ⟨q, h_5, H⟩ := HS.bnd H
 refine Hid.mk (Tr.weak (s' := (laws_toNodeS_l0_S a0) (0, l1)) (Wk.ofk [0] hk (by rfl) (by simp -implicitDefEqProofs [laws_toNodeS_l0_S, h_1, m_3, q_4]) (by simp -implicitDefEqProofs [laws_toNodeS_l0_S, h_1, m_3, q_4])) ?_)
 refine wp_loop_of (S := (laws_toNodeS_l0_S a0)) (f := (laws_toNodeS_l0 a0)) (xt := (laws_toNodeS_l0_X a0)) ?_ ?_ h_5 ?_
 ·intro q; simp [laws_toNodeS_l0_X]
 ·clear H h_5 q
  rintro ⟨x19, x20⟩ o R hf hR
  have H : HS (laws_toNodeS_l0 a0 (x19, x20)) o := hf
  clear hf; unfold laws_toNodeS_l0 at H
  try simp -implicitDefEqProofs at H
  refine Tr.of_vc (cl := tabC [(20, laws_toNode_x)]) (E := E0) [] (tab_cons k_laws_toNode tab_nil) hm (by rw [hn]; decide +kernel) ?_
  try simp -implicitDefEqProofs (maxSteps := 999999) [-selQ_sel, laws_toNodeS_l0_S]
  refine Hid.brV (fun h_6 => ?_) (fun h_6 => ?_)
  ·replace H := HS.cnd_t h_6 H
   try simp -implicitDefEqProofs (maxSteps := 999999) [-selQ_sel, h_6]
   have hr := (HS.some H).symm; subst hr
   exact Hid.mk ⟨(laws_toNodeS_l0_X a0 x20).2, Wk.ofk [0] hk (by rfl) (by simp -implicitDefEqProofs [laws_toNodeS_l0_X, h_6]) (by simp -implicitDefEqProofs [laws_toNodeS_l0_X, h_6]), hR⟩
  ·replace H := HS.cnd_f h_6 H
   try simp -implicitDefEqProofs (maxSteps := 999999) [-selQ_sel, h_6]
   obtain ⟨v21, h_7, H⟩ := HS.bnd H
   try simp -implicitDefEqProofs (maxSteps := 999999) [-selQ_sel, h_6, h_7]
   obtain ⟨⟨w23, w24, w25, w26, w27, w28, w29, w30, w31, w32, w33, w34, w35, w36⟩, h_8, H⟩ := HS.bnd H
   dsimp only at H
   try simp -implicitDefEqProofs (maxSteps := 999999) [-selQ_sel, h_6, h_7, h_8]
   obtain ⟨v37, h_9, H⟩ := HS.bnd H
   have g_10 := idx_get h_9
   have g_11 := idx_lt h_9
   have g_12 := idx_getE h_9
   try simp -implicitDefEqProofs (maxSteps := 999999) [-selQ_sel, h_6, h_7, h_8, h_9, g_10, g_11, g_12]
   have hr := (HS.some H).symm; subst hr
   exact Hid.mk ⟨laws_toNodeS_l0_S a0 ((IntKind.i64.wrap (x19 + 1)), (List.set x20 (Int.toNat x19) (TNode.mk w23 w24 w25 w26 (TPath.mk w32 w33) w27 w28 w34 w29 w30 w31 (TPath.mk w35 w36)))), Wk.trans (Wk.abs (id := 0) (j := 1) (js := [2, 3, 4, 5]) (by rfl) (by rfl) (by decide) (by simp -implicitDefEqProofs [laws_toNodeS_l0_S, h_6, h_7, h_8, h_9, g_10, g_11, g_12]) (by rfl) (by simp -implicitDefEqProofs [laws_toNodeS_l0_S, h_6, h_7, h_8, h_9, g_10, g_11, g_12]) (by simp -implicitDefEqProofs [laws_toNodeS_l0_S, h_6, h_7, h_8, h_9, g_10, g_11, g_12])) (Wk.trans (Wk.abs (id := 0) (j := 2) (js := [3, 4, 5]) (by rfl) (by rfl) (by decide) (by simp -implicitDefEqProofs [laws_toNodeS_l0_S, h_6, h_7, h_8, h_9, g_10, g_11, g_12]) (by rfl) (by simp -implicitDefEqProofs [laws_toNodeS_l0_S, h_6, h_7, h_8, h_9, g_10, g_11, g_12]) (by simp -implicitDefEqProofs [laws_toNodeS_l0_S, h_6, h_7, h_8, h_9, g_10, g_11, g_12])) (Wk.trans (Wk.abs (id := 0) (j := 3) (js := [4, 5]) (by rfl) (by rfl) (by decide) (by simp -implicitDefEqProofs [laws_toNodeS_l0_S, h_6, h_7, h_8, h_9, g_10, g_11, g_12]) (by rfl) (by simp -implicitDefEqProofs [laws_toNodeS_l0_S, h_6, h_7, h_8, h_9, g_10, g_11, g_12]) (by simp -implicitDefEqProofs [laws_toNodeS_l0_S, h_6, h_7, h_8, h_9, g_10, g_11, g_12])) (Wk.trans (Wk.abs (id := 0) (j := 4) (js := [5]) (by rfl) (by rfl) (by decide) (by simp -implicitDefEqProofs [laws_toNodeS_l0_S, h_6, h_7, h_8, h_9, g_10, g_11, g_12]) (by rfl) (by simp -implicitDefEqProofs [laws_toNodeS_l0_S, h_6, h_7, h_8, h_9, g_10, g_11, g_12]) (by simp -implicitDefEqProofs [laws_toNodeS_l0_S, h_6, h_7, h_8, h_9, g_10, g_11, g_12])) (Wk.trans (Wk.abs (id := 0) (j := 5) (js := []) (by rfl) (by rfl) (by decide) (by simp -implicitDefEqProofs [laws_toNodeS_l0_S, h_6, h_7, h_8, h_9, g_10, g_11, g_12]) (by rfl) (by simp -implicitDefEqProofs [laws_toNodeS_l0_S, h_6, h_7, h_8, h_9, g_10, g_11, g_12]) (by simp -implicitDefEqProofs [laws_toNodeS_l0_S, h_6, h_7, h_8, h_9, g_10, g_11, g_12])) (Wk.ofk [0] hk (by rfl) (by simp -implicitDefEqProofs [laws_toNodeS_l0_S, h_6, h_7, h_8, h_9, g_10, g_11, g_12]) (by simp -implicitDefEqProofs [laws_toNodeS_l0_S, h_6, h_7, h_8, h_9, g_10, g_11, g_12])))))), hR⟩
 ·revert H h_5; revert q; intro y38 h_5 H
  try dsimp only at H
  try simp -implicitDefEqProofs (maxSteps := 999999) [-selQ_sel, h_1, m_3, q_4, laws_toNodeS_l0_X]
  have hr := (HS.some H).symm; subst hr
  refine Hid.mk ⟨⟨[(2, AV.osl 0 0 (List.length y38) (List.length y38))], [(0, Ob.nar 31 (List.map eNode y38) [0, 0, 0, 0, 0, 0, 0, 0, 0, 1, 2, 0, 0, 1, 0, 0, 0, 0, 0, 0, 0, 0, 0, 0, 0, 0, 0, 0, 0, 1, 2])], 1⟩, Wk.ofk [0] hk (by rfl) (by simp -implicitDefEqProofs [h_1, m_3, q_4]) (by simp -implicitDefEqProofs [h_1, m_3, q_4]), ?_⟩
  try simp -implicitDefEqProofs (maxSteps := 999999) [-selQ_sel, h_1, m_3, q_4]
theorem impl_PaintOk_ok0 (hm : Try.prog.follows .mixedOrders = true) (k_impl_ColorOk : Sound Try.prog 122 impl_ColorOk_x) (k_impl_PointOk : Sound Try.prog 123 impl_PointOk_x) : Sound Try.prog 95 impl_PaintOk_x := by
 refine xOf_sound fun q r h => ?_
 revert h; revert r; revert q; intro a0 r h
 refine fn_ok E0 hm Try.func95 rfl (by decide +kernel) (by rfl) fun Γ hn hk => ?_
 dsimp only [impl_PaintOk_e, impl_PaintOk_v]
 replace hn : Γ.n = 44 := hn
 replace hk : Γ.k = 0 := hk
 have H : HS (impl_PaintOk a0) r := h
 clear h; unfold impl_PaintOk at H
 try simp -implicitDefEqProofs at H
 refine Tr.of_vc (cl := tabC [(122, impl_ColorOk_x), (123, impl_PointOk_x)]) (E := E0) [] (tab_cons k_impl_ColorOk (tab_cons k_impl_PointOk tab_nil)) hm (by rw [hn]; decide +kernel) ?_
 try simp -implicitDefEqProofs (maxSteps := 999999) [-selQ_sel]
 refine Hid.brV (fun h_1 => ?_) (fun h_1 => ?_)
 ·replace H := HS.cnd_t h_1 H
  try simp -implicitDefEqProofs (maxSteps := 999999) [-selQ_sel, h_1]
  obtain ⟨v1, h_2, H⟩ := HS.bnd H
  try simp -implicitDefEqProofs (maxSteps := 999999) [-selQ_sel, h_1, h_2]
  refine Hid.selQ (fun h_3 => ?_) (fun h_3 => ?_)
  ·replace H := HS.cnd_t h_3 H
   try simp -implicitDefEqProofs (maxSteps := 999999) [-selQ_sel, h_1, h_2, h_3]
   have hr := (HS.some H).symm; subst hr
   refine Hid.mk ⟨_, Wk.refl _, ?_⟩
   try simp -implicitDefEqProofs (maxSteps := 999999) [-selQ_sel, h_1, h_2, h_3]
  ·replace H := HS.cnd_f h_3 H
   try simp -implicitDefEqProofs (maxSteps := 999999) [-selQ_sel, h_1, h_2, h_3]
   have hr := (HS.some H).symm; subst hr
   refine Hid.mk ⟨_, Wk.refl _, ?_⟩
   try simp -implicitDefEqProofs (maxSteps := 999999) [-selQ_sel, h_1, h_2, h_3]
 ·replace H := HS.cnd_f h_1 H
  try simp -implicitDefEqProofs (maxSteps := 999999) [-selQ_sel, h_1]
  refine Hid.brV (fun h_4 => ?_) (fun h_4 => ?_)
  ·replace H := HS.cnd_t h_4 H
   try simp -implicitDefEqProofs (maxSteps := 999999) [-selQ_sel, h_1, h_4]
   obtain ⟨v2, h_5, H⟩ := HS.bnd H
   try simp -implicitDefEqProofs (maxSteps := 999999) [-selQ_sel, h_1, h_4, h_5]
   refine Hid.selQ (fun h_6 => ?_) (fun h_6 => ?_)
   ·replace H := HS.cnd_t h_6 H
    try simp -implicitDefEqProofs (maxSteps := 999999) [-selQ_sel, h_1, h_4, h_5, h_6]
    obtain ⟨v3, h_7, H⟩ := HS.bnd H
    try simp -implicitDefEqProofs (maxSteps := 999999) [-selQ_sel, h_1, h_4, h_5, h_6, h_7]
    refine Hid.selQ (fun h_8 => ?_) (fun h_8 => ?_)
    ·replace H := HS.cnd_t h_8 H
     try simp -implicitDefEqProofs (maxSteps := 999999) [-selQ_sel, h_1, h_4, h_5, h_6, h_7, h_8]
     obtain ⟨v4, h_9, H⟩ := HS.bnd H
     try simp -implicitDefEqProofs (maxSteps := 999999) [-selQ_sel, h_1, h_4, h_5, h_6, h_7, h_8, h_9]
     refine Hid.selQ (fun h_10 => ?_) (fun h_10 => ?_)
     ·replace H := HS.cnd_t h_10 H
      try simp -implicitDefEqProofs (maxSteps := 999999) [-selQ_sel, h_1, h_4, h_5, h_6, h_7, h_8, h_9, h_10]
      obtain ⟨v5, h_11, H⟩ := HS.bnd H
      try simp -implicitDefEqProofs (maxSteps := 999999) [-selQ_sel, h_1, h_4, h_5, h_6, h_7, h_8, h_9, h_10, h_11]
      refine Hid.selQ (fun h_12 => ?_) (fun h_12 => ?_)
      ·replace H := HS.cnd_t h_12 H
       try simp -implicitDefEqProofs (maxSteps := 999999) [-selQ_sel, h_1, h_4, h_5, h_6, h_7, h_8, h_9, h_10, h_11, h_12]
       have hr := (HS.some H).symm; subst hr
       refine Hid.mk ⟨_, Wk.refl _, ?_⟩
       try simp -implicitDefEqProofs (maxSteps := 999999) [-selQ_sel, h_1, h_4, h_5, h_6, h_7, h_8, h_9, h_10, h_11, h_12]
      ·replace H := HS.cnd_f h_12 H
       try simp -implicitDefEqProofs (maxSteps := 999999) [-selQ_sel, h_1, h_4, h_5, h_6, h_7, h_8, h_9, h_10, h_11, h_12]
       have hr := (HS.some H).symm; subst hr
       refine Hid.mk ⟨_, Wk.refl _, ?_⟩
       try simp -implicitDefEqProofs (maxSteps := 999999) [-selQ_sel, h_1, h_4, h_5, h_6, h_7, h_8, h_9, h_10, h_11, h_12]
     ·replace H := HS.cnd_f h_10 H
      try simp -implicitDefEqProofs (maxSteps := 999999) [-selQ_sel, h_1, h_4, h_5, h_6, h_7, h_8, h_9, h_10]
      have hr := (HS.some H).symm; subst hr
      refine Hid.mk ⟨_, Wk.refl _, ?_⟩
      try simp -implicitDefEqProofs (maxSteps := 999999) [-selQ_sel, h_1, h_4, h_5, h_6, h_7, h_8, h_9, h_10]
    ·replace H := HS.cnd_f h_8 H
     try simp -implicitDefEqProofs (maxSteps := 999999) [-selQ_sel, h_1, h_4, h_5, h_6, h_7, h_8]
     have hr := (HS.some H).symm; subst hr
     refine Hid.mk ⟨_, Wk.refl _, ?_⟩
     try simp -implicitDefEqProofs (maxSteps := 999999) [-selQ_sel, h_1, h_4, h_5, h_6, h_7, h_8]
   ·replace H := HS.cnd_f h_6 H
    try simp -implicitDefEqProofs (maxSteps := 999999) [-selQ_sel, h_1, h_4, h_5, h_6]
    have hr := (HS.some H).symm; subst hr
    refine Hid.mk ⟨_, Wk.refl _, ?_⟩
    try simp -implicitDefEqProofs (maxSteps := 999999) [-selQ_sel, h_1, h_4, h_5, h_6]
  ·replace H := HS.cnd_f h_4 H
   try simp -implicitDefEqProofs (maxSteps := 999999) [-selQ_sel, h_1, h_4]
   have hr := (HS.some H).symm; subst hr
   refine Hid.mk ⟨_, Wk.refl _, ?_⟩
   try simp -implicitDefEqProofs (maxSteps := 999999) [-selQ_sel, h_1, h_4]
theorem impl_DepthOf_ok0 (hm : Try.prog.follows .mixedOrders = true) (k_impl_NodeAt : Sound Try.prog 13 impl_NodeAt_x) : Sound Try.prog 42 impl_DepthOf_x := by
 refine xOf_sound fun q r h => ?_
 obtain ⟨a0, a1⟩ := q
 refine fn_ok E0 hm Try.func42 rfl (by decide +kernel) (by rfl) fun Γ hn hk => ?_
 dsimp only [impl_DepthOf_e, impl_DepthOf_v]
 replace hn : Γ.n = 27 := hn
 replace hk : Γ.k = 0 := hk
 have H : HS (impl_DepthOf a0 a1) r := h
 clear h; unfold impl_DepthOf at H
 try simp -implicitDefEqProofs at H
 refine Tr.of_vc (cl := tabC [(13, impl_NodeAt_x)]) (E := E0) [] (tab_cons k_impl_NodeAt tab_nil) hm (by rw [hn]; decide +kernel) ?_
 try simp -implicitDefEqProofs (maxSteps := 999999) [-selQ_sel]
 refine Hid.brV (fun h_1 => ?_) (fun h_1 => ?_)
 ·replace H := HS.cnd_t h_1 H
  try simp -implicitDefEqProofs (maxSteps := 999999) [-selQ_sel, h_1]
  have hr := (HS.some H).symm; subst hr
  refine Hid.mk ⟨_, Wk.refl _, ?_⟩
  try simp -implicitDefEqProofs (maxSteps := 999999) [-selQ_sel, h_1]
 ·replace H := HS.cnd_f h_1 H
  try simp -implicitDefEqProofs (maxSteps := 999999) [-selQ_sel, h_1]
  obtain ⟨q, h_2, H⟩ := HS.bnd H
  refine Hid.mk (Tr.weak (s' := (impl_DepthOf_l0_S a0) (a1, 1)) (Wk.ofk [0] hk (by rfl) (by simp -implicitDefEqProofs [impl_DepthOf_l0_S, h_1]) (by simp -implicitDefEqProofs [impl_DepthOf_l0_S, h_1])) ?_)
  refine wp_loop_of (S := (impl_DepthOf_l0_S a0)) (f := (impl_DepthOf_l0 a0)) (xt := (impl_DepthOf_l0_X a0)) ?_ ?_ h_2 ?_
  ·intro q; rcases q with y7 | ⟨⟩ <;> simp [impl_DepthOf_l0_X]
  ·clear H h_2 q
   rintro ⟨x3, x4⟩ o R hf hR
   have H : HS (impl_DepthOf_l0 a0 (x3, x4)) o := hf
   clear hf; unfold impl_DepthOf_l0 at H
   try simp -implicitDefEqProofs at H
   refine Tr.of_vc (cl := tabC [(13, impl_NodeAt_x)]) (E := E0) [] (tab_cons k_impl_NodeAt tab_nil) hm (by rw [hn]; decide +kernel) ?_
   try simp -implicitDefEqProofs (maxSteps := 999999) [-selQ_sel, impl_DepthOf_l0_S]
   refine Hid.brV (fun h_3 => ?_) (fun h_3 => ?_)
   ·replace H := HS.cnd_t h_3 H
    try simp -implicitDefEqProofs (maxSteps := 999999) [-selQ_sel, h_3]
    obtain ⟨v5, h_4, H⟩ := HS.bnd H
    try simp -implicitDefEqProofs (maxSteps := 999999) [-selQ_sel, h_3, h_4]
    refine Hid.brV (fun h_5 => ?_) (fun h_5 => ?_)
    ·replace H := HS.cnd_t h_5 H
     try simp -implicitDefEqProofs (maxSteps := 999999) [-selQ_sel, h_3, h_4, h_5]
     obtain ⟨v6, h_6, H⟩ := HS.bnd H
     try simp -implicitDefEqProofs (maxSteps := 999999) [-selQ_sel, h_3, h_4, h_5, h_6]
     refine Hid.brV (fun h_7 => ?_) (fun h_7 => ?_)
     ·replace H := HS.cnd_t h_7 H
      try simp -implicitDefEqProofs (maxSteps := 999999) [-selQ_sel, h_3, h_4, h_5, h_6, h_7]
      have hr := (HS.some H).symm; subst hr
      exact Hid.mk ⟨(impl_DepthOf_l0_X a0 (.inl x4)).2, Wk.ofk [] hk (by rfl) (by simp -implicitDefEqProofs [impl_DepthOf_l0_X, h_3, h_4, h_5, h_6, h_7]) (by simp -implicitDefEqProofs [impl_DepthOf_l0_X, h_3, h_4, h_5, h_6, h_7]), hR⟩
     ·replace H := HS.cnd_f h_7 H
      try simp -implicitDefEqProofs (maxSteps := 999999) [-selQ_sel, h_3, h_4, h_5, h_6, h_7]
      have hr := (HS.some H).symm; subst hr
      exact Hid.mk ⟨impl_DepthOf_l0_S a0 (v6.parent, (IntKind.i64.wrap (x4 + 1))), Wk.ofk [0] hk (by rfl) (by simp -implicitDefEqProofs [impl_DepthOf_l0_S, h_3, h_4, h_5, h_6, h_7]) (by simp -implicitDefEqProofs [impl_DepthOf_l0_S, h_3, h_4, h_5, h_6, h_7]), hR⟩
    ·replace H := HS.cnd_f h_5 H
     try simp -implicitDefEqProofs (maxSteps := 999999) [-selQ_sel, h_3, h_4, h_5]
     have hr := (HS.some H).symm; subst hr
     exact Hid.mk ⟨(impl_DepthOf_l0_X a0 (.inl 0)).2, Wk.ofk [] hk (by rfl) (by simp -implicitDefEqProofs [impl_DepthOf_l0_X, h_3, h_4, h_5]) (by simp -implicitDefEqProofs [impl_DepthOf_l0_X, h_3, h_4, h_5]), hR⟩
   ·replace H := HS.cnd_f h_3 H
    try simp -implicitDefEqProofs (maxSteps := 999999) [-selQ_sel, h_3]
    have hr := (HS.some H).symm; subst hr
    exact Hid.mk ⟨(impl_DepthOf_l0_X a0 (.inr ())).2, Wk.ofk [] hk (by rfl) (by simp -implicitDefEqProofs [impl_DepthOf_l0_X, h_3]) (by simp -implicitDefEqProofs [impl_DepthOf_l0_X, h_3]), hR⟩
  ·rcases q with y7 | ⟨⟩
   ·dsimp only at H
    try simp -implicitDefEqProofs (maxSteps := 999999) [-selQ_sel, h_1, impl_DepthOf_l0_X]
    have hr := (HS.some H).symm; subst hr
    refine Hid.mk ⟨_, Wk.refl _, ?_⟩
    try simp -implicitDefEqProofs (maxSteps := 999999) [-selQ_sel, h_1]
   ·dsimp only at H
    try simp -implicitDefEqProofs (maxSteps := 999999) [-selQ_sel, h_1, impl_DepthOf_l0_X]
    have hr := (HS.some H).symm; subst hr
    refine Hid.mk ⟨_, Wk.refl _, ?_⟩
    try simp -implicitDefEqProofs (maxSteps := 999999) [-selQ_sel, h_1]
theorem impl_MatOk_ok0 (hm : Try.prog.follows .mixedOrders = true) (k_impl_inRange : Sound Try.prog 41 impl_inRange_x) (k_impl_isFar : Sound Try.prog 119 impl_isFar_x) : Sound Try.prog 89 impl_MatOk_x := by
 refine xOf_sound fun q r h => ?_
 revert h; revert r; revert q; intro a0 r h
 refine fn_ok E0 hm Try.func89 rfl (by decide +kernel) (by rfl) fun Γ hn hk => ?_
 dsimp only [impl_MatOk_e, impl_MatOk_v]
 replace hn : Γ.n = 29 := hn
 replace hk : Γ.k = 0 := hk
 have H : HS (impl_MatOk a0) r := h
 clear h; unfold impl_MatOk at H
 try simp -implicitDefEqProofs at H
 refine Tr.of_vc (cl := tabC [(41, impl_inRange_x), (119, impl_isFar_x)]) (E := E0) [] (tab_cons k_impl_inRange (tab_cons k_impl_isFar tab_nil)) hm (by rw [hn]; decide +kernel) ?_
 try simp -implicitDefEqProofs (maxSteps := 999999) [-selQ_sel]
 obtain ⟨q, h_1, H⟩ := HS.bnd H
 refine Hid.mk (Tr.weak (s' := (impl_MatOk_l0_S a0) 0) (Wk.ofk [0] hk (by rfl) (by simp -implicitDefEqProofs [impl_MatOk_l0_S]) (by simp -implicitDefEqProofs [impl_MatOk_l0_S])) ?_)
 refine wp_loop_of (S := (impl_MatOk_l0_S a0)) (f := (impl_MatOk_l0 a0)) (xt := (impl_MatOk_l0_X a0)) ?_ ?_ h_1 ?_
 ·intro q; rcases q with ⟨⟩ | ⟨⟩ <;> simp [impl_MatOk_l0_X]
 ·clear H h_1 q
  rintro x2 o R hf hR
  have H : HS (impl_MatOk_l0 a0 x2) o := hf
  clear hf; unfold impl_MatOk_l0 at H
  try simp -implicitDefEqProofs at H
  refine Tr.of_vc (cl := tabC [(41, impl_inRange_x), (119, impl_isFar_x)]) (E := E0) [] (tab_cons k_impl_inRange (tab_cons k_impl_isFar tab_nil)) hm (by rw [hn]; decide +kernel) ?_
  try simp -implicitDefEqProofs (maxSteps := 999999) [-selQ_sel, impl_MatOk_l0_S]
  refine Hid.brV (fun h_2 => ?_) (fun h_2 => ?_)
  ·replace H := HS.cnd_t h_2 H
   try simp -implicitDefEqProofs (maxSteps := 999999) [-selQ_sel, h_2]
   have hr := (HS.some H).symm; subst hr
   exact Hid.mk ⟨(impl_MatOk_l0_X a0 (.inl ())).2, Wk.ofk [0] hk (by rfl) (by simp -implicitDefEqProofs [impl_MatOk_l0_X, h_2]) (by simp -implicitDefEqProofs [impl_MatOk_l0_X, h_2]), hR⟩
  ·replace H := HS.cnd_f h_2 H
   try simp -implicitDefEqProofs (maxSteps := 999999) [-selQ_sel, h_2]
   obtain ⟨v3, h_3, H⟩ := HS.bnd H
   have g_4 := idx_map (e := (AV.int .i64)) h_3
   simp only [List.map_cons, List.map_nil] at g_4
   try simp -implicitDefEqProofs (maxSteps := 999999) [-selQ_sel, h_2, h_3, g_4]
   obtain ⟨v4, h_5, H⟩ := HS.bnd H
   try simp -implicitDefEqProofs (maxSteps := 999999) [-selQ_sel, h_2, h_3, g_4, h_5]
   refine Hid.brV (fun h_6 => ?_) (fun h_6 => ?_)
   ·replace H := HS.cnd_t h_6 H
    try simp -implicitDefEqProofs (maxSteps := 999999) [-selQ_sel, h_2, h_3, g_4, h_5, h_6]
    have hr := (HS.some H).symm; subst hr
    exact Hid.mk ⟨impl_MatOk_l0_S a0 (IntKind.i64.wrap (x2 + 1)), Wk.ofk [0] hk (by rfl) (by simp -implicitDefEqProofs [impl_MatOk_l0_S, h_2, h_3, g_4, h_5, h_6]) (by simp -implicitDefEqProofs [impl_MatOk_l0_S, h_2, h_3, g_4, h_5, h_6]), hR⟩
   ·replace H := HS.cnd_f h_6 H
    try simp -implicitDefEqProofs (maxSteps := 999999) [-selQ_sel, h_2, h_3, g_4, h_5, h_6]
    have hr := (HS.some H).symm; subst hr
    exact Hid.mk ⟨(impl_MatOk_l0_X a0 (.inr ())).2, Wk.ofk [] hk (by rfl) (by simp -implicitDefEqProofs [impl_MatOk_l0_X, h_2, h_3, g_4, h_5, h_6]) (by simp -implicitDefEqProofs [impl_MatOk_l0_X, h_2, h_3, g_4, h_5, h_6]), hR⟩
 ·rcases q with ⟨⟩ | ⟨⟩
  ·dsimp only at H
   try simp -implicitDefEqProofs (maxSteps := 999999) [-selQ_sel, impl_MatOk_l0_X]
   obtain ⟨v5, h_7, H⟩ := HS.bnd H
   try simp -implicitDefEqProofs (maxSteps := 999999) [-selQ_sel, h_7]
   refine Hid.selQ (fun h_8 => ?_) (fun h_8 => ?_)
   ·replace H := HS.cnd_t h_8 H
    try simp -implicitDefEqProofs (maxSteps := 999999) [-selQ_sel, h_7, h_8]
    obtain ⟨v6, h_9, H⟩ := HS.bnd H
    try simp -implicitDefEqProofs (maxSteps := 999999) [-selQ_sel, h_7, h_8, h_9]
    have hr := (HS.some H).symm; subst hr
    refine Hid.mk ⟨_, Wk.refl _, ?_⟩
    try simp -implicitDefEqProofs (maxSteps := 999999) [-selQ_sel, h_7, h_8, h_9]
   ·replace H := HS.cnd_f h_8 H
    try simp -implicitDefEqProofs (maxSteps := 999999) [-selQ_sel, h_7, h_8]
    have hr := (HS.some H).symm; subst hr
    refine Hid.mk ⟨_, Wk.refl _, ?_⟩
    try simp -implicitDefEqProofs (maxSteps := 999999) [-selQ_sel, h_7, h_8]
  ·dsimp only at H
   try simp -implicitDefEqProofs (maxSteps := 999999) [-selQ_sel, impl_MatOk_l0_X]
   have hr := (HS.some H).symm; subst hr
   refine Hid.mk ⟨_, Wk.refl _, ?_⟩
   try simp -implicitDefEqProofs (maxSteps := 999999) [-selQ_sel]
theorem laws_szNodeS_ok0 (hm : Try.prog.follows .mixedOrders = true) (k_laws_szNode : Sound Try.prog 17 laws_szNode_x) : Sound Try.prog 54 laws_szNodeS_x := by
 refine xOf_sound fun q r h => ?_
 obtain ⟨a0, a1⟩ := q
 refine fn_ok E0 hm Try.func54 rfl (by decide +kernel) (by rfl) fun Γ hn hk => ?_
 dsimp only [laws_szNodeS_e, laws_szNodeS_v]
 replace hn : Γ.n = 27 := hn
 replace hk : Γ.k = 0 := hk
 have H : HS (laws_szNodeS a0 a1) r := h
 clear h; unfold laws_szNodeS at H
 try simp -implicitDefEqProofs at H
 refine Tr.of_vc (cl := tabC [(17, laws_szNode_x)]) (E := E0) [] (tab_cons k_laws_szNode tab_nil) hm (by rw [hn]; decide +kernel) ?_
 try simp -implicitDefEqProofs (maxSteps := 999999) [-selQ_sel]
 refine Hid.brV (fun h_1 => ?_) (fun h_1 => ?_)
 ·replace H := HS.cnd_t h_1 H
  try simp -implicitDefEqProofs (maxSteps := 999999) [-selQ_sel, h_1]
  obtain ⟨q, h_2, H⟩ := HS.bnd H
  refine Hid.mk (Tr.weak (s' := (laws_szNodeS_l0_S a0) ((IntKind.i64.wrap (a1 - (List.length a0 : Int))), 0)) (Wk.ofk [] hk (by rfl) (by simp -implicitDefEqProofs [laws_szNodeS_l0_S, h_1]) (by simp -implicitDefEqProofs [laws_szNodeS_l0_S, h_1])) ?_)
  refine wp_loop_of (S := (laws_szNodeS_l0_S a0)) (f := (laws_szNodeS_l0 a0)) (xt := (laws_szNodeS_l0_X a0)) ?_ ?_ h_2 ?_
  ·intro q; rcases q with y7 | ⟨⟩ <;> simp [laws_szNodeS_l0_X]
  ·clear H h_2 q
   rintro ⟨x3, x4⟩ o R hf hR
   have H : HS (laws_szNodeS_l0 a0 (x3, x4)) o := hf
   clear hf; unfold laws_szNodeS_l0 at H
   try simp -implicitDefEqProofs at H
   refine Tr.of_vc (cl := tabC [(17, laws_szNode_x)]) (E := E0) [] (tab_cons k_laws_szNode tab_nil) hm (by rw [hn]; decide +kernel) ?_
   try simp -implicitDefEqProofs (maxSteps := 999999) [-selQ_sel, laws_szNodeS_l0_S]
   refine Hid.brV (fun h_3 => ?_) (fun h_3 => ?_)
   ·replace H := HS.cnd_t h_3 H
    try simp -implicitDefEqProofs (maxSteps := 999999) [-selQ_sel, h_3]
    have hr := (HS.some H).symm; subst hr
    exact Hid.mk ⟨(laws_szNodeS_l0_X a0 (.inl x3)).2, Wk.ofk [] hk (by rfl) (by simp -implicitDefEqProofs [laws_szNodeS_l0_X, h_3]) (by simp -implicitDefEqProofs [laws_szNodeS_l0_X, h_3]), hR⟩
   ·replace H := HS.cnd_f h_3 H
    try simp -implicitDefEqProofs (maxSteps := 999999) [-selQ_sel, h_3]
    obtain ⟨v5, h_4, H⟩ := HS.bnd H
    try simp -implicitDefEqProofs (maxSteps := 999999) [-selQ_sel, h_3, h_4]
    obtain ⟨v6, h_5, H⟩ := HS.bnd H
    try simp -implicitDefEqProofs (maxSteps := 999999) [-selQ_sel, h_3, h_4, h_5]
    refine Hid.brV (fun h_6 => ?_) (fun h_6 => ?_)
    ·replace H := HS.cnd_t h_6 H
     try simp -implicitDefEqProofs (maxSteps := 999999) [-selQ_sel, h_3, h_4, h_5, h_6]
     have hr := (HS.some H).symm; subst hr
     exact Hid.mk ⟨laws_szNodeS_l0_S a0 (v6, (IntKind.i64.wrap (x4 + 1))), Wk.ofk [] hk (by rfl) (by simp -implicitDefEqProofs [laws_szNodeS_l0_S, h_3, h_4, h_5, h_6]) (by simp -implicitDefEqProofs [laws_szNodeS_l0_S, h_3, h_4, h_5, h_6]), hR⟩
    ·replace H := HS.cnd_f h_6 H
     try simp -implicitDefEqProofs (maxSteps := 999999) [-selQ_sel, h_3, h_4, h_5, h_6]
     have hr := (HS.some H).symm; subst hr
     exact Hid.mk ⟨(laws_szNodeS_l0_X a0 (.inr ())).2, Wk.ofk [] hk (by rfl) (by simp -implicitDefEqProofs [laws_szNodeS_l0_X, h_3, h_4, h_5, h_6]) (by simp -implicitDefEqProofs [laws_szNodeS_l0_X, h_3, h_4, h_5, h_6]), hR⟩
  ·rcases q with y7 | ⟨⟩
   ·dsimp only at H
    try simp -implicitDefEqProofs (maxSteps := 999999) [-selQ_sel, h_1, laws_szNodeS_l0_X]
    have hr := (HS.some H).symm; subst hr
    refine Hid.mk ⟨_, Wk.refl _, ?_⟩
    try simp -implicitDefEqProofs (maxSteps := 999999) [-selQ_sel, h_1]
   ·dsimp only at H
    try simp -implicitDefEqProofs (maxSteps := 999999) [-selQ_sel, h_1, laws_szNodeS_l0_X]
    have hr := (HS.some H).symm; subst hr
    refine Hid.mk ⟨_, Wk.refl _, ?_⟩
    try simp -implicitDefEqProofs (maxSteps := 999999) [-selQ_sel, h_1]
 ·replace H := HS.cnd_f h_1 H
  try simp -implicitDefEqProofs (maxSteps := 999999) [-selQ_sel, h_1]
  have hr := (HS.some H).symm; subst hr
  refine Hid.mk ⟨_, Wk.refl _, ?_⟩
  try simp -implicitDefEqProofs (maxSteps := 999999) [-selQ_sel, h_1]
theorem laws_heldPointS_ok0 (hm : Try.prog.follows .mixedOrders = true) : Sound Try.prog 114 laws_heldPointS_x := by
 refine xOf_sound fun q r h => ?_
 obtain ⟨a0, a1⟩ := q
 refine fn_ok E0 hm Try.func114 rfl (by decide +kernel) (by rfl) fun Γ hn hk => ?_
 dsimp only [laws_heldPointS_e, laws_heldPointS_v]
 replace hn : Γ.n = 31 := hn
 replace hk : Γ.k = 0 := hk
 have H : HS (laws_heldPointS a0 a1) r := h
 clear h; unfold laws_heldPointS at H
 try simp -implicitDefEqProofs at H
 refine Tr.of_vc (cl := tabC []) (E := E0) [] tab_nil hm (by rw [hn]; decide +kernel) ?_
 try simp -implicitDefEqProofs (maxSteps := 999999) [-selQ_sel]
 obtain ⟨q, h_1, H⟩ := HS.bnd H
 refine Hid.mk (Tr.weak (s' := (laws_heldPointS_l0_S a0) (a1, 0)) (Wk.ofk [] hk (by rfl) (by simp -implicitDefEqProofs [laws_heldPointS_l0_S]) (by simp -implicitDefEqProofs [laws_heldPointS_l0_S])) ?_)
 refine wp_loop_of (S := (laws_heldPointS_l0_S a0)) (f := (laws_heldPointS_l0 a0)) (xt := (laws_heldPointS_l0_X a0)) ?_ ?_ h_1 ?_
 ·intro q; rcases q with y5 | ⟨⟩ <;> simp [laws_heldPointS_l0_X]
 ·clear H h_1 q
  rintro ⟨x2, x3⟩ o R hf hR
  have H : HS (laws_heldPointS_l0 a0 (x2, x3)) o := hf
  clear hf; unfold laws_heldPointS_l0 at H
  try simp -implicitDefEqProofs at H
  refine Tr.of_vc (cl := tabC []) (E := E0) [] tab_nil hm (by rw [hn]; decide +kernel) ?_
  try simp -implicitDefEqProofs (maxSteps := 999999) [-selQ_sel, laws_heldPointS_l0_S]
  refine Hid.brV (fun h_2 => ?_) (fun h_2 => ?_)
  ·replace H := HS.cnd_t h_2 H
   try simp -implicitDefEqProofs (maxSteps := 999999) [-selQ_sel, h_2]
   have hr := (HS.some H).symm; subst hr
   exact Hid.mk ⟨(laws_heldPointS_l0_X a0 (.inl x2)).2, Wk.ofk [] hk (by rfl) (by simp -implicitDefEqProofs [laws_heldPointS_l0_X, h_2]) (by simp -implicitDefEqProofs [laws_heldPointS_l0_X, h_2]), hR⟩
  ·replace H := HS.cnd_f h_2 H
   try simp -implicitDefEqProofs (maxSteps := 999999) [-selQ_sel, h_2]
   obtain ⟨v4, h_3, H⟩ := HS.bnd H
   try simp -implicitDefEqProofs (maxSteps := 999999) [-selQ_sel, h_2, h_3]
   refine Hid.brV (fun h_4 => ?_) (fun h_4 => ?_)
   ·replace H := HS.cnd_t h_4 H
    try simp -implicitDefEqProofs (maxSteps := 999999) [-selQ_sel, h_2, h_3, h_4]
    refine Hid.brV (fun h_5 => ?_) (fun h_5 => ?_)
    ·replace H := HS.cnd_t h_5 H
     try simp -implicitDefEqProofs (maxSteps := 999999) [-selQ_sel, h_2, h_3, h_4, h_5]
     have hr := (HS.some H).symm; subst hr
     exact Hid.mk ⟨laws_heldPointS_l0_S a0 ((IntKind.i64.wrap ((IntKind.i64.wrap (x2 + 1)) + 1)), (IntKind.i64.wrap (x3 + 1))), Wk.ofk [] hk (by rfl) (by simp -implicitDefEqProofs [laws_heldPointS_l0_S, h_2, h_3, h_4, h_5]) (by simp -implicitDefEqProofs [laws_heldPointS_l0_S, h_2, h_3, h_4, h_5]), hR⟩
    ·replace H := HS.cnd_f h_5 H
     try simp -implicitDefEqProofs (maxSteps := 999999) [-selQ_sel, h_2, h_3, h_4, h_5]
     have hr := (HS.some H).symm; subst hr
     exact Hid.mk ⟨(laws_heldPointS_l0_X a0 (.inr ())).2, Wk.ofk [] hk (by rfl) (by simp -implicitDefEqProofs [laws_heldPointS_l0_X, h_2, h_3, h_4, h_5]) (by simp -implicitDefEqProofs [laws_heldPointS_l0_X, h_2, h_3, h_4, h_5]), hR⟩
   ·replace H := HS.cnd_f h_4 H
    try simp -implicitDefEqProofs (maxSteps := 999999) [-selQ_sel, h_2, h_3, h_4]
    have hr := (HS.some H).symm; subst hr
    exact Hid.mk ⟨(laws_heldPointS_l0_X a0 (.inr ())).2, Wk.ofk [] hk (by rfl) (by simp -implicitDefEqProofs [laws_heldPointS_l0_X, h_2, h_3, h_4]) (by simp -implicitDefEqProofs [laws_heldPointS_l0_X, h_2, h_3, h_4]), hR⟩
 ·rcases q with y5 | ⟨⟩
  ·dsimp only at H
   try simp -implicitDefEqProofs (maxSteps := 999999) [-selQ_sel, laws_heldPointS_l0_X]
   have hr := (HS.some H).symm; subst hr
   refine Hid.mk ⟨_, Wk.refl _, ?_⟩
   try simp -implicitDefEqProofs (maxSteps := 999999) [-selQ_sel]
  ·dsimp only at H
   try simp -implicitDefEqProofs (maxSteps := 999999) [-selQ_sel, laws_heldPointS_l0_X]
   have hr := (HS.some H).symm; subst hr
   refine Hid.mk ⟨_, Wk.refl _, ?_⟩
   try simp -implicitDefEqProofs (maxSteps := 999999) [-selQ_sel]
theorem laws_toPointS_ok0 (hm : Try.prog.follows .mixedOrders = true) (k_laws_toPoint : Sound Try.prog 106 laws_toPoint_x) : Sound Try.prog 104 laws_toPointS_x := by
 refine xOf_sound fun q r h => ?_
 revert h; revert r; revert q; intro a0 r h
 refine fn_ok E0 hm Try.func104 rfl (by decide +kernel) (by rfl) fun Γ hn hk => ?_
 dsimp only [laws_toPointS_e, laws_toPointS_v]
 replace hn : Γ.n = 23 := hn
 replace hk : Γ.k = 0 := hk
 have H : HS (laws_toPointS a0) r := h
 clear h; unfold laws_toPointS at H
 try simp -implicitDefEqProofs at H
 refine Tr.of_vc (cl := tabC [(106, laws_toPoint_x)]) (E := E0) [] (tab_cons k_laws_toPoint tab_nil) hm (by rw [hn]; decide +kernel) ?_
 try simp -implicitDefEqProofs (maxSteps := 999999) [-selQ_sel]
 obtain ⟨h_1, H⟩ := HS.chkP H
 try simp -implicitDefEqProofs (maxSteps := 999999) [-selQ_sel, h_1]
 obtain ⟨l1, h_2, H⟩ := HS.nam H
 have m_3 := congrArg (List.map ePoint) h_2
 have q_4 := congrArg List.length h_2
 simp -implicitDefEqProofs at m_3 q_4
 try simp only [q_4] at m_3
 try simp only [q_4] at h_1
 try simp -implicitDefEqProofs (maxSteps := 999999) [-selQ_sel, h_1, m_3, q_4]
 obtain ⟨q, h_5, H⟩ := HS.bnd H
 refine Hid.mk (Tr.weak (s' := (laws_toPointS_l0_S a0) (0, l1)) (Wk.ofk [0] hk (by rfl) (by simp -implicitDefEqProofs [laws_toPointS_l0_S, h_1, m_3, q_4]) (by simp -implicitDefEqProofs [laws_toPointS_l0_S, h_1, m_3, q_4])) ?_)
 refine wp_loop_of (S := (laws_toPointS_l0_S a0)) (f := (laws_toPointS_l0 a0)) (xt := (laws_toPointS_l0_X a0)) ?_ ?_ h_5 ?_
 ·intro q; simp [laws_toPointS_l0_X]
 ·clear H h_5 q
  rintro ⟨x6, x7⟩ o R hf hR
  have H : HS (laws_toPointS_l0 a0 (x6, x7)) o := hf
  clear hf; unfold laws_toPointS_l0 at H
  try simp -implicitDefEqProofs at H
  refine Tr.of_vc (cl := tabC [(106, laws_toPoint_x)]) (E := E0) [] (tab_cons k_laws_toPoint tab_nil) hm (by rw [hn]; decide +kernel) ?_
  try simp -implicitDefEqProofs (maxSteps := 999999) [-selQ_sel, laws_toPointS_l0_S]
  refine Hid.brV (fun h_6 => ?_) (fun h_6 => ?_)
  ·replace H := HS.cnd_t h_6 H
   try simp -implicitDefEqProofs (maxSteps := 999999) [-selQ_sel, h_6]
   have hr := (HS.some H).symm; subst hr
   exact Hid.mk ⟨(laws_toPointS_l0_X a0 x7).2, Wk.ofk [0] hk (by rfl) (by simp -implicitDefEqProofs [laws_toPointS_l0_X, h_6]) (by simp -implicitDefEqProofs [laws_toPointS_l0_X, h_6]), hR⟩
  ·replace H := HS.cnd_f h_6 H
   try simp -implicitDefEqProofs (maxSteps := 999999) [-selQ_sel, h_6]
   obtain ⟨v8, h_7, H⟩ := HS.bnd H
   try simp -implicitDefEqProofs (maxSteps := 999999) [-selQ_sel, h_6, h_7]
   obtain ⟨v9, h_8, H⟩ := HS.bnd H
   try simp -implicitDefEqProofs (maxSteps := 999999) [-selQ_sel, h_6, h_7, h_8]
   obtain ⟨v10, h_9, H⟩ := HS.bnd H
   have g_10 := idx_get h_9
   try simp -implicitDefEqProofs (maxSteps := 999999) [-selQ_sel, h_6, h_7, h_8, h_9, g_10]
   obtain ⟨l11, h_11, H⟩ := HS.nam H
   have m_12 := congrArg (List.map ePoint) h_11
   have q_13 := congrArg List.length h_11
   simp -implicitDefEqProofs at m_12 q_13
   try simp only [q_13] at m_12
   try simp only [q_13] at g_10
   try simp -implicitDefEqProofs (maxSteps := 999999) [-selQ_sel, h_6, h_7, h_8, h_9, g_10, m_12, q_13]
   have hr := (HS.some H).symm; subst hr
   exact Hid.mk ⟨laws_toPointS_l0_S a0 ((IntKind.i64.wrap (x6 + 1)), l11), Wk.ofk [0] hk (by rfl) (by simp -implicitDefEqProofs [laws_toPointS_l0_S, h_6, h_7, h_8, h_9, g_10, m_12, q_13]) (by simp -implicitDefEqProofs [laws_toPointS_l0_S, h_6, h_7, h_8, h_9, g_10, m_12, q_13]), hR⟩
 ·revert H h_5; revert q; intro y12 h_5 H
  try dsimp only at H
  try simp -implicitDefEqProofs (maxSteps := 999999) [-selQ_sel, h_1, m_3, q_4, laws_toPointS_l0_X]
  have hr := (HS.some H).symm; subst hr
  refine Hid.mk ⟨⟨[(2, AV.osl 0 0 (List.length y12) (List.length y12))], [(0, Ob.arr 2 (List.map ePoint y12) false)], 1⟩, Wk.ofk [0] hk (by rfl) (by simp -implicitDefEqProofs [h_1, m_3, q_4]) (by simp -implicitDefEqProofs [h_1, m_3, q_4]), ?_⟩
  try simp -implicitDefEqProofs (maxSteps := 999999) [-selQ_sel, h_1, m_3, q_4]
theorem laws_eqMat_ok0 (hm : Try.prog.follows .mixedOrders = true) : Sound Try.prog 66 laws_eqMat_x := by
 refine xOf_sound fun q r h => ?_
 obtain ⟨a0, a1⟩ := q
 refine fn_ok E0 hm Try.func66 rfl (by decide +kernel) (by rfl) fun Γ hn hk => ?_
 dsimp only [laws_eqMat_e, laws_eqMat_v]
 replace hn : Γ.n = 35 := hn
 replace hk : Γ.k = 0 := hk
 have H : HS (laws_eqMat a0 a1) r := h
 clear h; unfold laws_eqMat at H
 try simp -implicitDefEqProofs at H
 refine Tr.of_vc (cl := tabC []) (E := E0) [] tab_nil hm (by rw [hn]; decide +kernel) ?_
 try simp -implicitDefEqProofs (maxSteps := 999999) [-selQ_sel]
 refine Hid.brV (fun h_1 => ?_) (fun h_1 => ?_)
 ·replace H := HS.cnd_t h_1 H
  try simp -implicitDefEqProofs (maxSteps := 999999) [-selQ_sel, h_1]
  refine Hid.brV (fun h_2 => ?_) (fun h_2 => ?_)
  ·replace H := HS.cnd_t h_2 H
   try simp -implicitDefEqProofs (maxSteps := 999999) [-selQ_sel, h_1, h_2]
   refine Hid.brV (fun h_3 => ?_) (fun h_3 => ?_)
   ·replace H := HS.cnd_t h_3 H
    try simp -implicitDefEqProofs (maxSteps := 999999) [-selQ_sel, h_1, h_2, h_3]
    refine Hid.brV (fun h_4 => ?_) (fun h_4 => ?_)
    ·replace H := HS.cnd_t h_4 H
     try simp -implicitDefEqProofs (maxSteps := 999999) [-selQ_sel, h_1, h_2, h_3, h_4]
     refine Hid.brV (fun h_5 => ?_) (fun h_5 => ?_)
     ·replace H := HS.cnd_t h_5 H
      try simp -implicitDefEqProofs (maxSteps := 999999) [-selQ_sel, h_1, h_2, h_3, h_4, h_5]
      refine Hid.brV (fun h_6 => ?_) (fun h_6 => ?_)
      ·replace H := HS.cnd_t h_6 H
       try simp -implicitDefEqProofs (maxSteps := 999999) [-selQ_sel, h_1, h_2, h_3, h_4, h_5, h_6]
       have hr := (HS.some H).symm; subst hr
       refine Hid.mk ⟨_, Wk.refl _, ?_⟩
       try simp -implicitDefEqProofs (maxSteps := 999999) [-selQ_sel, h_1, h_2, h_3, h_4, h_5, h_6]
      ·replace H := HS.cnd_f h_6 H
       try simp -implicitDefEqProofs (maxSteps := 999999) [-selQ_sel, h_1, h_2, h_3, h_4, h_5, h_6]
       have hr := (HS.some H).symm; subst hr
       refine Hid.mk ⟨_, Wk.refl _, ?_⟩
       try simp -implicitDefEqProofs (maxSteps := 999999) [-selQ_sel, h_1, h_2, h_3, h_4, h_5, h_6]
     ·replace H := HS.cnd_f h_5 H
      try simp -implicitDefEqProofs (maxSteps := 999999) [-selQ_sel, h_1, h_2, h_3, h_4, h_5]
      have hr := (HS.some H).symm; subst hr
      refine Hid.mk ⟨_, Wk.refl _, ?_⟩
      try simp -implicitDefEqProofs (maxSteps := 999999) [-selQ_sel, h_1, h_2, h_3, h_4, h_5]
    ·replace H := HS.cnd_f h_4 H
     try simp -implicitDefEqProofs (maxSteps := 999999) [-selQ_sel, h_1, h_2, h_3, h_4]
     have hr := (HS.some H).symm; subst hr
     refine Hid.mk ⟨_, Wk.refl _, ?_⟩
     try simp -implicitDefEqProofs (maxSteps := 999999) [-selQ_sel, h_1, h_2, h_3, h_4]
   ·replace H := HS.cnd_f h_3 H
    try simp -implicitDefEqProofs (maxSteps := 999999) [-selQ_sel, h_1, h_2, h_3]
    have hr := (HS.some H).symm; subst hr
    refine Hid.mk ⟨_, Wk.refl _, ?_⟩
    try simp -implicitDefEqProofs (maxSteps := 999999) [-selQ_sel, h_1, h_2, h_3]
  ·replace H := HS.cnd_f h_2 H
   try simp -implicitDefEqProofs (maxSteps := 999999) [-selQ_sel, h_1, h_2]
   have hr := (HS.some H).symm; subst hr
   refine Hid.mk ⟨_, Wk.refl _, ?_⟩
   try simp -implicitDefEqProofs (maxSteps := 999999) [-selQ_sel, h_1, h_2]
 ·replace H := HS.cnd_f h_1 H
  try simp -implicitDefEqProofs (maxSteps := 999999) [-selQ_sel, h_1]
  have hr := (HS.some H).symm; subst hr
  refine Hid.mk ⟨_, Wk.refl _, ?_⟩
  try simp -implicitDefEqProofs (maxSteps := 999999) [-selQ_sel, h_1]
theorem laws_markPointS_ok0 (hm : Try.prog.follows .mixedOrders = true) : Sound Try.prog 112 laws_markPointS_x := by
 refine xOf_sound fun q r h => ?_
 obtain ⟨a0, a1⟩ := q
 refine fn_ok E0 hm Try.func112 rfl (by decide +kernel) (by rfl) fun Γ hn hk => ?_
 dsimp only [laws_markPointS_e, laws_markPointS_v]
 replace hn : Γ.n = 27 := hn
 replace hk : Γ.k = 1 := hk
 have H : HS (laws_markPointS a0 a1) r := h
 clear h; unfold laws_markPointS at H
 try simp -implicitDefEqProofs at H
 refine Tr.of_vc (cl := tabC []) (E := E0) [] tab_nil hm (by rw [hn]; decide +kernel) ?_
 try simp -implicitDefEqProofs (maxSteps := 999999) [-selQ_sel]
 obtain ⟨q, h_1, H⟩ := HS.bnd H
 refine Hid.mk (Tr.weak (s' := laws_markPointS_l0_S (a0, 0, a1)) (Wk.ofk [0] hk (by rfl) (by simp -implicitDefEqProofs [laws_markPointS_l0_S]) (by simp -implicitDefEqProofs [laws_markPointS_l0_S])) ?_)
 refine wp_loop_of (S := laws_markPointS_l0_S) (f := laws_markPointS_l0) (xt := laws_markPointS_l0_X) ?_ ?_ h_1 ?_
 ·intro q; rcases q with ⟨y12, y13⟩ <;> simp [laws_markPointS_l0_X]
 ·clear H h_1 q
  rintro ⟨x5, x6, x7⟩ o R hf hR
  have H : HS (laws_markPointS_l0 (x5, x6, x7)) o := hf
  clear hf; unfold laws_markPointS_l0 at H
  try simp -implicitDefEqProofs at H
  refine Tr.of_vc (cl := tabC []) (E := E0) [] tab_nil hm (by rw [hn]; decide +kernel) ?_
  try simp -implicitDefEqProofs (maxSteps := 999999) [-selQ_sel, laws_markPointS_l0_S]
  refine Hid.brV (fun h_2 => ?_) (fun h_2 => ?_)
  ·replace H := HS.cnd_t h_2 H
   try simp -implicitDefEqProofs (maxSteps := 999999) [-selQ_sel, h_2]
   have hr := (HS.some H).symm; subst hr
   exact Hid.mk ⟨(laws_markPointS_l0_X (x7, x5)).2, Wk.ofk [0] hk (by rfl) (by simp -implicitDefEqProofs [laws_markPointS_l0_X, h_2]) (by simp -implicitDefEqProofs [laws_markPointS_l0_X, h_2]), hR⟩
  ·replace H := HS.cnd_f h_2 H
   try simp -implicitDefEqProofs (maxSteps := 999999) [-selQ_sel, h_2]
   obtain ⟨v8, h_3, H⟩ := HS.bnd H
   have g_4 := idx_get h_3
   try simp -implicitDefEqProofs (maxSteps := 999999) [-selQ_sel, h_2, h_3, g_4]
   obtain ⟨l9, h_5, H⟩ := HS.nam H
   have m_6 := congrArg (List.map ePoint) h_5
   have q_7 := congrArg List.length h_5
   simp -implicitDefEqProofs at m_6 q_7
   try simp only [q_7] at m_6
   try simp only [q_7] at g_4
   try simp -implicitDefEqProofs (maxSteps := 999999) [-selQ_sel, h_2, h_3, g_4, m_6, q_7]
   obtain ⟨v10, h_8, H⟩ := HS.bnd H
   have g_9 := idx_get h_8
   try simp -implicitDefEqProofs (maxSteps := 999999) [-selQ_sel, h_2, h_3, g_4, m_6, q_7, h_8, g_9]
   obtain ⟨l11, h_10, H⟩ := HS.nam H
   have m_11 := congrArg (List.map ePoint) h_10
   have q_12 := congrArg List.length h_10
   simp -implicitDefEqProofs at m_11 q_12
   try simp only [q_12] at m_11
   try simp only [q_12] at g_9
   try simp -implicitDefEqProofs (maxSteps := 999999) [-selQ_sel, h_2, h_3, g_4, m_6, q_7, h_8, g_9, m_11, q_12]
   have hr := (HS.some H).symm; subst hr
   exact Hid.mk ⟨laws_markPointS_l0_S ((IntKind.i64.wrap ((IntKind.i64.wrap (x5 + 1)) + 1)), (IntKind.i64.wrap (x6 + 1)), l11), Wk.ofk [0] hk (by rfl) (by simp -implicitDefEqProofs [laws_markPointS_l0_S, h_2, h_3, g_4, m_6, q_7, h_8, g_9, m_11, q_12]) (by simp -implicitDefEqProofs [laws_markPointS_l0_S, h_2, h_3, g_4, m_6, q_7, h_8, g_9, m_11, q_12]), hR⟩
 ·obtain ⟨y12, y13⟩ := q
  try dsimp only at H
  try simp -implicitDefEqProofs (maxSteps := 999999) [-selQ_sel, laws_markPointS_l0_X]
  have hr := (HS.some H).symm; subst hr
  refine Hid.mk ⟨_, Wk.refl _, ?_⟩
  try simp -implicitDefEqProofs (maxSteps := 999999) [-selQ_sel]
theorem laws_toNode_ok0 (hm : Try.prog.follows .mixedOrders = true) (k_laws_toMat : Sound Try.prog 60 laws_toMat_x) (k_laws_toPath : Sound Try.prog 61 laws_toPath_x) (k_laws_toIntS : Sound Try.prog 62 laws_toIntS_x) (k_laws_toPaint : Sound Try.prog 63 laws_toPaint_x) : Sound Try.prog 20 laws_toNode_x := by
 refine xOf_sound fun q r h => ?_
 revert h; revert r; revert q; intro a0 r h
 refine fn_ok E0 hm Try.func20 rfl (by decide +kernel) (by rfl) fun Γ hn hk => ?_
 dsimp only [laws_toNode_e, laws_toNode_v]
 replace hn : Γ.n = 46 := hn
 replace hk : Γ.k = 0 := hk
 have H : HS (laws_toNode a0) r := h
 clear h; unfold laws_toNode at H
 try simp -implicitDefEqProofs at H
 refine Tr.of_vc (cl := tabC [(60, laws_toMat_x), (61, laws_toPath_x), (62, laws_toIntS_x), (63, laws_toPaint_x)]) (E := E0) [] (tab_cons k_laws_toMat (tab_cons k_laws_toPath (tab_cons k_laws_toIntS (tab_cons k_laws_toPaint tab_nil)))) hm (by rw [hn]; decide +kernel) ?_
 try simp -implicitDefEqProofs (maxSteps := 999999) [-selQ_sel]
 obtain ⟨v1, h_1, H⟩ := HS.bnd H
 try simp -implicitDefEqProofs (maxSteps := 999999) [-selQ_sel, h_1]
 obtain ⟨⟨w3, w4⟩, h_2, H⟩ := HS.bnd H
 dsimp only at H
 try simp -implicitDefEqProofs (maxSteps := 999999) [-selQ_sel, h_1, h_2]
 obtain ⟨v5, h_3, H⟩ := HS.bnd H
 try simp -implicitDefEqProofs (maxSteps := 999999) [-selQ_sel, h_1, h_2, h_3]
 obtain ⟨v6, h_4, H⟩ := HS.bnd H
 try simp -implicitDefEqProofs (maxSteps := 999999) [-selQ_sel, h_1, h_2, h_3, h_4]
 obtain ⟨⟨w8, w9⟩, h_5, H⟩ := HS.bnd H
 dsimp only at H
 try simp -implicitDefEqProofs (maxSteps := 999999) [-selQ_sel, h_1, h_2, h_3, h_4, h_5]
 have hr := (HS.some H).symm; subst hr
 refine Hid.mk ⟨⟨[(2, AV.optr 0 0 31)], [(0, Ob.box [AV.int .i64 a0.id, AV.int .i64 a0.parent, AV.bool a0.group, AV.int .i64 v1.a, AV.int .i64 v1.b, AV.int .i64 v1.c, AV.int .i64 v1.d, AV.int .i64 v1.e, AV.int .i64 v1.f, AV.osl 1 0 (List.length w3) (List.length w3), AV.osl 2 0 (List.length w4) (List.length w4), AV.bool a0.even, AV.int .i64 a0.width, AV.osl 3 0 (List.length v5) (List.length v5), AV.int .i64 v6.kind, AV.int .i64 v6.first.r, AV.int .i64 v6.first.g, AV.int .i64 v6.first.b, AV.int .i64 v6.first.a, AV.int .i64 v6.last.r, AV.int .i64 v6.last.g, AV.int .i64 v6.last.b, AV.int .i64 v6.last.a, AV.int .i64 v6.from_.x, AV.int .i64 v6.from_.y, AV.int .i64 v6.to.x, AV.int .i64 v6.to.y, AV.int .i64 a0.mode, AV.int .i64 a0.fade, AV.osl 4 0 (List.length w8) (List.length w8), AV.osl 5 0 (List.length w9) (List.length w9)]), (1, Ob.arr 1 (List.map (AV.int .i64) w3) false), (2, Ob.arr 2 (List.map ePoint w4) false), (3, Ob.arr 1 (List.map (AV.int .i64) v5) false), (4, Ob.arr 1 (List.map (AV.int .i64) w8) false), (5, Ob.arr 2 (List.map ePoint w9) false)], 6⟩, Wk.ofk [1, 3, 4, 5, 6, 7] hk (by rfl) (by simp -implicitDefEqProofs [h_1, h_2, h_3, h_4, h_5]) (by simp -implicitDefEqProofs [h_1, h_2, h_3, h_4, h_5]), ?_⟩
 try simp -implicitDefEqProofs (maxSteps := 999999) [-selQ_sel, h_1, h_2, h_3, h_4, h_5]
theorem laws_markIntS_ok0 (hm : Try.prog.follows .mixedOrders = true) : Sound Try.prog 72 laws_markIntS_x := by
 refine xOf_sound fun q r h => ?_
 obtain ⟨a0, a1⟩ := q
 refine fn_ok E0 hm Try.func72 rfl (by decide +kernel) (by rfl) fun Γ hn hk => ?_
 dsimp only [laws_markIntS_e, laws_markIntS_v]
 replace hn : Γ.n = 19 := hn
 replace hk : Γ.k = 1 := hk
 have H : HS (laws_markIntS a0 a1) r := h
 clear h; unfold laws_markIntS at H
 try simp -implicitDefEqProofs at H
 refine Tr.of_vc (cl := tabC []) (E := E0) [] tab_nil hm (by rw [hn]; decide +kernel) ?_
 try simp -implicitDefEqProofs (maxSteps := 999999) [-selQ_sel]
 obtain ⟨q, h_1, H⟩ := HS.bnd H
 refine Hid.mk (Tr.weak (s' := laws_markIntS_l0_S (a0, 0, a1)) (Wk.ofk [0] hk (by rfl) (by simp -implicitDefEqProofs [laws_markIntS_l0_S]) (by simp -implicitDefEqProofs [laws_markIntS_l0_S])) ?_)
 refine wp_loop_of (S := laws_markIntS_l0_S) (f := laws_markIntS_l0) (xt := laws_markIntS_l0_X) ?_ ?_ h_1 ?_
 ·intro q; rcases q with ⟨y8, y9⟩ <;> simp [laws_markIntS_l0_X]
 ·clear H h_1 q
  rintro ⟨x3, x4, x5⟩ o R hf hR
  have H : HS (laws_markIntS_l0 (x3, x4, x5)) o := hf
  clear hf; unfold laws_markIntS_l0 at H
  try simp -implicitDefEqProofs at H
  refine Tr.of_vc (cl := tabC []) (E := E0) [] tab_nil hm (by rw [hn]; decide +kernel) ?_
  try simp -implicitDefEqProofs (maxSteps := 999999) [-selQ_sel, laws_markIntS_l0_S]
  refine Hid.brV (fun h_2 => ?_) (fun h_2 => ?_)
  ·replace H := HS.cnd_t h_2 H
   try simp -implicitDefEqProofs (maxSteps := 999999) [-selQ_sel, h_2]
   have hr := (HS.some H).symm; subst hr
   exact Hid.mk ⟨(laws_markIntS_l0_X (x5, x3)).2, Wk.ofk [0] hk (by rfl) (by simp -implicitDefEqProofs [laws_markIntS_l0_X, h_2]) (by simp -implicitDefEqProofs [laws_markIntS_l0_X, h_2]), hR⟩
  ·replace H := HS.cnd_f h_2 H
   try simp -implicitDefEqProofs (maxSteps := 999999) [-selQ_sel, h_2]
   obtain ⟨v6, h_3, H⟩ := HS.bnd H
   have g_4 := idx_get h_3
   try simp -implicitDefEqProofs (maxSteps := 999999) [-selQ_sel, h_2, h_3, g_4]
   obtain ⟨l7, h_5, H⟩ := HS.nam H
   have m_6 := congrArg (List.map (AV.int .i64)) h_5
   have q_7 := congrArg List.length h_5
   simp -implicitDefEqProofs at m_6 q_7
   try simp only [q_7] at m_6
   try simp only [q_7] at g_4
   try simp -implicitDefEqProofs (maxSteps := 999999) [-selQ_sel, h_2, h_3, g_4, m_6, q_7]
   have hr := (HS.some H).symm; subst hr
   exact Hid.mk ⟨laws_markIntS_l0_S ((IntKind.i64.wrap (x3 + 1)), (IntKind.i64.wrap (x4 + 1)), l7), Wk.ofk [0] hk (by rfl) (by simp -implicitDefEqProofs [laws_markIntS_l0_S, h_2, h_3, g_4, m_6, q_7]) (by simp -implicitDefEqProofs [laws_markIntS_l0_S, h_2, h_3, g_4, m_6, q_7]), hR⟩
 ·obtain ⟨y8, y9⟩ := q
  try dsimp only at H
  try simp -implicitDefEqProofs (maxSteps := 999999) [-selQ_sel, laws_markIntS_l0_X]
  have hr := (HS.some H).symm; subst hr
  refine Hid.mk ⟨_, Wk.refl _, ?_⟩
  try simp -implicitDefEqProofs (maxSteps := 999999) [-selQ_sel]
theorem spec_ColorOk_ok0 (hm : Try.prog.follows .mixedOrders = true) (k_spec_l01In : Sound Try.prog 87 spec_l01In_x) : Sound Try.prog 126 spec_ColorOk_x := by
 refine xOf_sound fun q r h => ?_
 revert h; revert r; revert q; intro a0 r h
 refine fn_ok E0 hm Try.func126 rfl (by decide +kernel) (by rfl) fun Γ hn hk => ?_
 dsimp only [spec_ColorOk_e, spec_ColorOk_v]
 replace hn : Γ.n = 21 := hn
 replace hk : Γ.k = 0 := hk
 have H : HS (spec_ColorOk a0) r := h
 clear h; unfold spec_ColorOk at H
 try simp -implicitDefEqProofs at H
 refine Tr.of_vc (cl := tabC [(87, spec_l01In_x)]) (E := E0) [] (tab_cons k_spec_l01In tab_nil) hm (by rw [hn]; decide +kernel) ?_
 try simp -implicitDefEqProofs (maxSteps := 999999) [-selQ_sel]
 obtain ⟨v1, h_1, H⟩ := HS.bnd H
 try simp -implicitDefEqProofs (maxSteps := 999999) [-selQ_sel, h_1]
 refine Hid.selQ (fun h_2 => ?_) (fun h_2 => ?_)
 ·replace H := HS.cnd_t h_2 H
  try simp -implicitDefEqProofs (maxSteps := 999999) [-selQ_sel, h_1, h_2]
  obtain ⟨v2, h_3, H⟩ := HS.bnd H
  try simp -implicitDefEqProofs (maxSteps := 999999) [-selQ_sel, h_1, h_2, h_3]
  refine Hid.selQ (fun h_4 => ?_) (fun h_4 => ?_)
  ·replace H := HS.cnd_t h_4 H
   try simp -implicitDefEqProofs (maxSteps := 999999) [-selQ_sel, h_1, h_2, h_3, h_4]
   obtain ⟨v3, h_5, H⟩ := HS.bnd H
   try simp -implicitDefEqProofs (maxSteps := 999999) [-selQ_sel, h_1, h_2, h_3, h_4, h_5]
   refine Hid.selQ (fun h_6 => ?_) (fun h_6 => ?_)
   ·replace H := HS.cnd_t h_6 H
    try simp -implicitDefEqProofs (maxSteps := 999999) [-selQ_sel, h_1, h_2, h_3, h_4, h_5, h_6]
    obtain ⟨v4, h_7, H⟩ := HS.bnd H
    try simp -implicitDefEqProofs (maxSteps := 999999) [-selQ_sel, h_1, h_2, h_3, h_4, h_5, h_6, h_7]
    have hr := (HS.some H).symm; subst hr
    refine Hid.mk ⟨_, Wk.refl _, ?_⟩
    try simp -implicitDefEqProofs (maxSteps := 999999) [-selQ_sel, h_1, h_2, h_3, h_4, h_5, h_6, h_7]
   ·replace H := HS.cnd_f h_6 H
    try simp -implicitDefEqProofs (maxSteps := 999999) [-selQ_sel, h_1, h_2, h_3, h_4, h_5, h_6]
    have hr := (HS.some H).symm; subst hr
    refine Hid.mk ⟨_, Wk.refl _, ?_⟩
    try simp -implicitDefEqProofs (maxSteps := 999999) [-selQ_sel, h_1, h_2, h_3, h_4, h_5, h_6]
  ·replace H := HS.cnd_f h_4 H
   try simp -implicitDefEqProofs (maxSteps := 999999) [-selQ_sel, h_1, h_2, h_3, h_4]
   have hr := (HS.some H).symm; subst hr
   refine Hid.mk ⟨_, Wk.refl _, ?_⟩
   try simp -implicitDefEqProofs (maxSteps := 999999) [-selQ_sel, h_1, h_2, h_3, h_4]
 ·replace H := HS.cnd_f h_2 H
  try simp -implicitDefEqProofs (maxSteps := 999999) [-selQ_sel, h_1, h_2]
  have hr := (HS.some H).symm; subst hr
  refine Hid.mk ⟨_, Wk.refl _, ?_⟩
  try simp -implicitDefEqProofs (maxSteps := 999999) [-selQ_sel, h_1, h_2]
theorem laws_eqColor_ok0 (hm : Try.prog.follows .mixedOrders = true) : Sound Try.prog 110 laws_eqColor_x := by
 refine xOf_sound fun q r h => ?_
 obtain ⟨a0, a1⟩ := q
 refine fn_ok E0 hm Try.func110 rfl (by decide +kernel) (by rfl) fun Γ hn hk => ?_
 dsimp only [laws_eqColor_e, laws_eqColor_v]
 replace hn : Γ.n = 25 := hn
 replace hk : Γ.k = 0 := hk
 have H : HS (laws_eqColor a0 a1) r := h
 clear h; unfold laws_eqColor at H
 try simp -implicitDefEqProofs at H
 refine Tr.of_vc (cl := tabC []) (E := E0) [] tab_nil hm (by rw [hn]; decide +kernel) ?_
 try simp -implicitDefEqProofs (maxSteps := 999999) [-selQ_sel]
 refine Hid.brV (fun h_1 => ?_) (fun h_1 => ?_)
 ·replace H := HS.cnd_t h_1 H
  try simp -implicitDefEqProofs (maxSteps := 999999) [-selQ_sel, h_1]
  refine Hid.brV (fun h_2 => ?_) (fun h_2 => ?_)
  ·replace H := HS.cnd_t h_2 H
   try simp -implicitDefEqProofs (maxSteps := 999999) [-selQ_sel, h_1, h_2]
   refine Hid.brV (fun h_3 => ?_) (fun h_3 => ?_)
   ·replace H := HS.cnd_t h_3 H
    try simp -implicitDefEqProofs (maxSteps := 999999) [-selQ_sel, h_1, h_2, h_3]
    refine Hid.brV (fun h_4 => ?_) (fun h_4 => ?_)
    ·replace H := HS.cnd_t h_4 H
     try simp -implicitDefEqProofs (maxSteps := 999999) [-selQ_sel, h_1, h_2, h_3, h_4]
     have hr := (HS.some H).symm; subst hr
     refine Hid.mk ⟨_, Wk.refl _, ?_⟩
     try simp -implicitDefEqProofs (maxSteps := 999999) [-selQ_sel, h_1, h_2, h_3, h_4]
    ·replace H := HS.cnd_f h_4 H
     try simp -implicitDefEqProofs (maxSteps := 999999) [-selQ_sel, h_1, h_2, h_3, h_4]
     have hr := (HS.some H).symm; subst hr
     refine Hid.mk ⟨_, Wk.refl _, ?_⟩
     try simp -implicitDefEqProofs (maxSteps := 999999) [-selQ_sel, h_1, h_2, h_3, h_4]
   ·replace H := HS.cnd_f h_3 H
    try simp -implicitDefEqProofs (maxSteps := 999999) [-selQ_sel, h_1, h_2, h_3]
    have hr := (HS.some H).symm; subst hr
    refine Hid.mk ⟨_, Wk.refl _, ?_⟩
    try simp -implicitDefEqProofs (maxSteps := 999999) [-selQ_sel, h_1, h_2, h_3]
  ·replace H := HS.cnd_f h_2 H
   try simp -implicitDefEqProofs (maxSteps := 999999) [-selQ_sel, h_1, h_2]
   have hr := (HS.some H).symm; subst hr
   refine Hid.mk ⟨_, Wk.refl _, ?_⟩
   try simp -implicitDefEqProofs (maxSteps := 999999) [-selQ_sel, h_1, h_2]
 ·replace H := HS.cnd_f h_1 H
  try simp -implicitDefEqProofs (maxSteps := 999999) [-selQ_sel, h_1]
  have hr := (HS.some H).symm; subst hr
  refine Hid.mk ⟨_, Wk.refl _, ?_⟩
  try simp -implicitDefEqProofs (maxSteps := 999999) [-selQ_sel, h_1]
theorem slices_Clone_int_ok0 (hm : Try.prog.follows .mixedOrders = true) : Sound Try.prog 108 slices_Clone_int_x := by
 refine xOf_sound fun q r h => ?_
 revert h; revert r; revert q; intro a0 r h
 refine fn_ok E0 hm Try.func108 rfl (by decide +kernel) (by rfl) fun Γ hn hk => ?_
 dsimp only [slices_Clone_int_e, slices_Clone_int_v]
 replace hn : Γ.n = 8 := hn
 replace hk : Γ.k = 0 := hk
 have H : HS (slices_Clone_int a0) r := h
 clear h; unfold slices_Clone_int at H
 obtain ⟨h_1, H⟩ := HS.chkP H
 have hr := (HS.some H).symm; subst hr
 refine Tr.of_vc (cl := tabC []) (E := E0) [1] tab_nil hm (by rw [hn]; decide +kernel) ?_
 simp -implicitDefEqProofs [-selQ_sel]
 refine Hid.mk (Tr_nil (E := E0) tab_nil (h1 := rfl) (hd1 := fun d h => by cases h; rw [hn]; decide) (ho := rfl) (hg := rfl) (hd := rfl) (hdn := by rw [hn]; decide) (hu := elt_36) (hx := rfl) fun b hb => ?_)
 refine Tr.of_vc (cl := tabC []) (E := E0) [] tab_nil hm (by rw [hn]; decide +kernel) ?_
 simp -implicitDefEqProofs [-selQ_sel, aft, putT]
 refine Hid.brV (fun h_2 => ?_) (fun h_2 => ?_)
 ·simp -implicitDefEqProofs [-selQ_sel]
  have h_3 := hb h_2; simp at h_3; subst h_3
  refine Hid.mk ⟨_, Wk.refl _, ?_⟩
  simp -implicitDefEqProofs [-selQ_sel, h_1]
  refine ⟨⟨[(2, AV.osl 0 0 0 0)], [(0, Ob.arr 1 (List.map (AV.int .i64) []) false)], 1⟩, Wk.ofk [0] hk (by rfl) (by simp -implicitDefEqProofs) (by simp -implicitDefEqProofs), ?_⟩
  simp -implicitDefEqProofs [-selQ_sel, h_1]
 ·simp -implicitDefEqProofs [-selQ_sel]
  refine Hid.mk ⟨_, Wk.refl _, ?_⟩
  simp -implicitDefEqProofs [-selQ_sel, h_1]
  refine ⟨⟨[(2, AV.osl 0 0 (List.length a0) (List.length a0))], [(0, Ob.arr 1 (List.map (AV.int .i64) a0) false)], 1⟩, Wk.ofk [0] hk (by rfl) (by simp -implicitDefEqProofs) (by simp -implicitDefEqProofs), ?_⟩
  simp -implicitDefEqProofs [-selQ_sel, h_1]
theorem impl_copyPath_ok0 (hm : Try.prog.follows .mixedOrders = true) (k_slices_Clone_int : Sound Try.prog 108 slices_Clone_int_x) (k_slices_Clone_Point : Sound Try.prog 127 slices_Clone_Point_x) : Sound Try.prog 107 impl_copyPath_x := by
 refine xOf_sound fun q r h => ?_
 revert h; revert r; revert q; intro a0 r h
 refine fn_ok E0 hm Try.func107 rfl (by decide +kernel) (by rfl) fun Γ hn hk => ?_
 dsimp only [impl_copyPath_e, impl_copyPath_v]
 replace hn : Γ.n = 10 := hn
 replace hk : Γ.k = 0 := hk
 have H : HS (impl_copyPath a0) r := h
 clear h; unfold impl_copyPath at H
 try simp -implicitDefEqProofs at H
 refine Tr.of_vc (cl := tabC [(108, slices_Clone_int_x), (127, slices_Clone_Point_x)]) (E := E0) [] (tab_cons k_slices_Clone_int (tab_cons k_slices_Clone_Point tab_nil)) hm (by rw [hn]; decide +kernel) ?_
 try simp -implicitDefEqProofs +decide (maxSteps := 999999) [-selQ_sel, hokQ_of]
 obtain ⟨v1, h_1, H⟩ := HS.bnd H
 try simp -implicitDefEqProofs +decide (maxSteps := 999999) [-selQ_sel, hokQ_of, h_1]
 obtain ⟨v2, h_2, H⟩ := HS.bnd H
 try simp -implicitDefEqProofs +decide (maxSteps := 999999) [-selQ_sel, hokQ_of, h_1, h_2]
 have hr := (HS.some H).symm; subst hr
 refine Hid.mk ⟨⟨[(2, AV.optr 0 0 2)], [(0, Ob.box [AV.osl 1 0 (List.length v1) (List.length v1), AV.osl 2 0 (List.length v2) (List.length v2)]), (1, Ob.arr 1 (List.map (AV.int .i64) v1) false), (2, Ob.arr 2 (List.map ePoint v2) false)], 3⟩, Wk.ofk [1, 2, 3] hk (by rfl) (by simp -implicitDefEqProofs [h_1, h_2]) (by simp -implicitDefEqProofs [h_1, h_2]), ?_⟩
 try simp -implicitDefEqProofs +decide (maxSteps := 999999) [-selQ_sel, hokQ_of, h_1, h_2]
theorem impl_PointOk_ok0 (hm : Try.prog.follows .mixedOrders = true) (k_impl_isFar : Sound Try.prog 119 impl_isFar_x) : Sound Try.prog 123 impl_PointOk_x := by
 refine xOf_sound fun q r h => ?_
 revert h; revert r; revert q; intro a0 r h
 refine fn_ok E0 hm Try.func123 rfl (by decide +kernel) (by rfl) fun Γ hn hk => ?_
 dsimp only [impl_PointOk_e, impl_PointOk_v]
 replace hn : Γ.n = 11 := hn
 replace hk : Γ.k = 0 := hk
 have H : HS (impl_PointOk a0) r := h
 clear h; unfold impl_PointOk at H
 try simp -implicitDefEqProofs at H
 refine Tr.of_vc (cl := tabC [(119, impl_isFar_x)]) (E := E0) [] (tab_cons k_impl_isFar tab_nil) hm (by rw [hn]; decide +kernel) ?_
 try simp -implicitDefEqProofs (maxSteps := 999999) [-selQ_sel]
 obtain ⟨v1, h_1, H⟩ := HS.bnd H
 try simp -implicitDefEqProofs (maxSteps := 999999) [-selQ_sel, h_1]
 refine Hid.selQ (fun h_2 => ?_) (fun h_2 => ?_)
 ·replace H := HS.cnd_t h_2 H
  try simp -implicitDefEqProofs (maxSteps := 999999) [-selQ_sel, h_1, h_2]
  obtain ⟨v2, h_3, H⟩ := HS.bnd H
  try simp -implicitDefEqProofs (maxSteps := 999999) [-selQ_sel, h_1, h_2, h_3]
  have hr := (HS.some H).symm; subst hr
  refine Hid.mk ⟨_, Wk.refl _, ?_⟩
  try simp -implicitDefEqProofs (maxSteps := 999999) [-selQ_sel, h_1, h_2, h_3]
 ·replace H := HS.cnd_f h_2 H
  try simp -implicitDefEqProofs (maxSteps := 999999) [-selQ_sel, h_1, h_2]
  have hr := (HS.some H).symm; subst hr
  refine Hid.mk ⟨_, Wk.refl _, ?_⟩
  try simp -implicitDefEqProofs (maxSteps := 999999) [-selQ_sel, h_1, h_2]
theorem laws_toPaint_ok0 (hm : Try.prog.follows .mixedOrders = true) (k_laws_toColor : Sound Try.prog 105 laws_toColor_x) (k_laws_toPoint : Sound Try.prog 106 laws_toPoint_x) : Sound Try.prog 63 laws_toPaint_x := by
 refine xOf_sound fun q r h => ?_
 revert h; revert r; revert q; intro a0 r h
 refine fn_ok E0 hm Try.func63 rfl (by decide +kernel) (by rfl) fun Γ hn hk => ?_
 dsimp only [laws_toPaint_e, laws_toPaint_v]
 replace hn : Γ.n = 24 := hn
 replace hk : Γ.k = 0 := hk
 have H : HS (laws_toPaint a0) r := h
 clear h; unfold laws_toPaint at H
 try simp -implicitDefEqProofs at H
 refine Tr.of_vc (cl := tabC [(105, laws_toColor_x), (106, laws_toPoint_x)]) (E := E0) [] (tab_cons k_laws_toColor (tab_cons k_laws_toPoint tab_nil)) hm (by rw [hn]; decide +kernel) ?_
 try simp -implicitDefEqProofs (maxSteps := 999999) [-selQ_sel]
 obtain ⟨v1, h_1, H⟩ := HS.bnd H
 try simp -implicitDefEqProofs (maxSteps := 999999) [-selQ_sel, h_1]
 obtain ⟨v2, h_2, H⟩ := HS.bnd H
 try simp -implicitDefEqProofs (maxSteps := 999999) [-selQ_sel, h_1, h_2]
 obtain ⟨v3, h_3, H⟩ := HS.bnd H
 try simp -implicitDefEqProofs (maxSteps := 999999) [-selQ_sel, h_1, h_2, h_3]
 obtain ⟨v4, h_4, H⟩ := HS.bnd H
 try simp -implicitDefEqProofs (maxSteps := 999999) [-selQ_sel, h_1, h_2, h_3, h_4]
 have hr := (HS.some H).symm; subst hr
 refine Hid.mk ⟨_, Wk.refl _, ?_⟩
 try simp -implicitDefEqProofs (maxSteps := 999999) [-selQ_sel, h_1, h_2, h_3, h_4]
theorem laws_heldScene_ok0 (hm : Try.prog.follows .mixedOrders = true) (k_laws_heldNodeS : Sound Try.prog 73 laws_heldNodeS_x) : Sound Try.prog 26 laws_heldScene_x := by
 refine xOf_sound fun q r h => ?_
 obtain ⟨a0, a1⟩ := q
 refine fn_ok E0 hm Try.func26 rfl (by decide +kernel) (by rfl) fun Γ hn hk => ?_
 dsimp only [laws_heldScene_e, laws_heldScene_v]
 replace hn : Γ.n = 12 := hn
 replace hk : Γ.k = 0 := hk
 have H : HS (laws_heldScene a0 a1) r := h
 clear h; unfold laws_heldScene at H
 try simp -implicitDefEqProofs at H
 refine Tr.of_vc (cl := tabC [(73, laws_heldNodeS_x)]) (E := E0) [] (tab_cons k_laws_heldNodeS tab_nil) hm (by rw [hn]; decide +kernel) ?_
 try simp -implicitDefEqProofs (maxSteps := 999999) [-selQ_sel]
 obtain ⟨v1, h_1, H⟩ := HS.bnd H
 try simp -implicitDefEqProofs (maxSteps := 999999) [-selQ_sel, h_1]
 refine Hid.brV (fun h_2 => ?_) (fun h_2 => ?_)
 ·replace H := HS.cnd_t h_2 H
  try simp -implicitDefEqProofs (maxSteps := 999999) [-selQ_sel, h_1, h_2]
  have hr := (HS.some H).symm; subst hr
  refine Hid.mk ⟨_, Wk.refl _, ?_⟩
  try simp -implicitDefEqProofs (maxSteps := 999999) [-selQ_sel, h_1, h_2]
 ·replace H := HS.cnd_f h_2 H
  try simp -implicitDefEqProofs (maxSteps := 999999) [-selQ_sel, h_1, h_2]
  have hr := (HS.some H).symm; subst hr
  refine Hid.mk ⟨_, Wk.refl _, ?_⟩
  try simp -implicitDefEqProofs (maxSteps := 999999) [-selQ_sel, h_1, h_2]
theorem laws_toScene_ok0 (hm : Try.prog.follows .mixedOrders = true) (k_laws_toNodeS : Sound Try.prog 59 laws_toNodeS_x) : Sound Try.prog 19 laws_toScene_x := by
 refine xOf_sound fun q r h => ?_
 revert h; revert r; revert q; intro a0 r h
 refine fn_ok E0 hm Try.func19 rfl (by decide +kernel) (by rfl) fun Γ hn hk => ?_
 dsimp only [laws_toScene_e, laws_toScene_v]
 replace hn : Γ.n = 9 := hn
 replace hk : Γ.k = 0 := hk
 have H : HS (laws_toScene a0) r := h
 clear h; unfold laws_toScene at H
 try simp -implicitDefEqProofs at H
 refine Tr.of_vc (cl := tabC [(59, laws_toNodeS_x)]) (E := E0) [] (tab_cons k_laws_toNodeS tab_nil) hm (by rw [hn]; decide +kernel) ?_
 try simp -implicitDefEqProofs (maxSteps := 999999) [-selQ_sel]
 obtain ⟨v1, h_1, H⟩ := HS.bnd H
 try simp -implicitDefEqProofs (maxSteps := 999999) [-selQ_sel, h_1]
 have hr := (HS.some H).symm; subst hr
 refine Hid.mk ⟨⟨[(2, AV.optr 0 0 1)], [(0, Ob.box [AV.osl 1 0 (List.length v1) (List.length v1)]), (1, Ob.nar 31 (List.map eNode v1) [0, 0, 0, 0, 0, 0, 0, 0, 0, 1, 2, 0, 0, 1, 0, 0, 0, 0, 0, 0, 0, 0, 0, 0, 0, 0, 0, 0, 0, 1, 2])], 2⟩, Wk.ofk [1, 3] hk (by rfl) (by simp -implicitDefEqProofs [h_1]) (by simp -implicitDefEqProofs [h_1]), ?_⟩
 try simp -implicitDefEqProofs (maxSteps := 999999) [-selQ_sel, h_1]
theorem impl_inRange_ok0 (hm : Try.prog.follows .mixedOrders = true) : Sound Try.prog 41 impl_inRange_x := by
 refine xOf_sound fun q r h => ?_
 obtain ⟨a0, a1, a2⟩ := q
 refine fn_ok E0 hm Try.func41 rfl (by decide +kernel) (by rfl) fun Γ hn hk => ?_
 dsimp only [impl_inRange_e, impl_inRange_v]
 replace hn : Γ.n = 15 := hn
 replace hk : Γ.k = 0 := hk
 have H : HS (impl_inRange a0 a1 a2) r := h
 clear h; unfold impl_inRange at H
 try simp -implicitDefEqProofs at H
 refine Tr.of_vc (cl := tabC []) (E := E0) [] tab_nil hm (by rw [hn]; decide +kernel) ?_
 try simp -implicitDefEqProofs (maxSteps := 999999) [-selQ_sel]
 refine Hid.selQ (fun h_1 => ?_) (fun h_1 => ?_)
 ·replace H := HS.cnd_t h_1 H
  try simp -implicitDefEqProofs (maxSteps := 999999) [-selQ_sel, h_1]
  have hr := (HS.some H).symm; subst hr
  refine Hid.mk ⟨_, Wk.refl _, ?_⟩
  try simp -implicitDefEqProofs (maxSteps := 999999) [-selQ_sel, h_1]
 ·replace H := HS.cnd_f h_1 H
  try simp -implicitDefEqProofs (maxSteps := 999999) [-selQ_sel, h_1]
  have hr := (HS.some H).symm; subst hr
  refine Hid.mk ⟨_, Wk.refl _, ?_⟩
  try simp -implicitDefEqProofs (maxSteps := 999999) [-selQ_sel, h_1]
theorem spec_l01In_ok0 (hm : Try.prog.follows .mixedOrders = true) : Sound Try.prog 87 spec_l01In_x := by
 refine xOf_sound fun q r h => ?_
 obtain ⟨a0, a1, a2⟩ := q
 refine fn_ok E0 hm Try.func87 rfl (by decide +kernel) (by rfl) fun Γ hn hk => ?_
 dsimp only [spec_l01In_e, spec_l01In_v]
 replace hn : Γ.n = 15 := hn
 replace hk : Γ.k = 0 := hk
 have H : HS (spec_l01In a0 a1 a2) r := h
 clear h; unfold spec_l01In at H
 try simp -implicitDefEqProofs at H
 refine Tr.of_vc (cl := tabC []) (E := E0) [] tab_nil hm (by rw [hn]; decide +kernel) ?_
 try simp -implicitDefEqProofs (maxSteps := 999999) [-selQ_sel]
 refine Hid.selQ (fun h_1 => ?_) (fun h_1 => ?_)
 ·replace H := HS.cnd_t h_1 H
  try simp -implicitDefEqProofs (maxSteps := 999999) [-selQ_sel, h_1]
  have hr := (HS.some H).symm; subst hr
  refine Hid.mk ⟨_, Wk.refl _, ?_⟩
  try simp -implicitDefEqProofs (maxSteps := 999999) [-selQ_sel, h_1]
 ·replace H := HS.cnd_f h_1 H
  try simp -implicitDefEqProofs (maxSteps := 999999) [-selQ_sel, h_1]
  have hr := (HS.some H).symm; subst hr
  refine Hid.mk ⟨_, Wk.refl _, ?_⟩
  try simp -implicitDefEqProofs (maxSteps := 999999) [-selQ_sel, h_1]
theorem impl_isMode_ok0 (hm : Try.prog.follows .mixedOrders = true) (k_impl_inRange : Sound Try.prog 41 impl_inRange_x) : Sound Try.prog 92 impl_isMode_x := by
 refine xOf_sound fun q r h => ?_
 revert h; revert r; revert q; intro a0 r h
 refine fn_ok E0 hm Try.func92 rfl (by decide +kernel) (by rfl) fun Γ hn hk => ?_
 dsimp only [impl_isMode_e, impl_isMode_v]
 replace hn : Γ.n = 5 := hn
 replace hk : Γ.k = 0 := hk
 have H : HS (impl_isMode a0) r := h
 clear h; unfold impl_isMode at H
 try simp -implicitDefEqProofs at H
 refine Tr.of_vc (cl := tabC [(41, impl_inRange_x)]) (E := E0) [] (tab_cons k_impl_inRange tab_nil) hm (by rw [hn]; decide +kernel) ?_
 try simp -implicitDefEqProofs (maxSteps := 999999) [-selQ_sel]
 obtain ⟨v1, h_1, H⟩ := HS.bnd H
 try simp -implicitDefEqProofs (maxSteps := 999999) [-selQ_sel, h_1]
 have hr := (HS.some H).symm; subst hr
 refine Hid.mk ⟨_, Wk.refl _, ?_⟩
 try simp -implicitDefEqProofs (maxSteps := 999999) [-selQ_sel, h_1]
theorem spec_l15NoPaint_ok0 (hm : Try.prog.follows .mixedOrders = true) : Sound Try.prog 102 spec_l15NoPaint_x := by
 refine xOf_sound fun q r h => ?_
 revert h; revert r; revert q; intro a0 r h
 refine fn_ok E0 hm Try.func102 rfl (by decide +kernel) (by rfl) fun Γ hn hk => ?_
 dsimp only [spec_l15NoPaint_e, spec_l15NoPaint_v]
 replace hn : Γ.n = 6 := hn
 replace hk : Γ.k = 0 := hk
 have H : HS (spec_l15NoPaint a0) r := h
 clear h; unfold spec_l15NoPaint at H
 try simp -implicitDefEqProofs at H
 refine Tr.of_vc (cl := tabC []) (E := E0) [] tab_nil hm (by rw [hn]; decide +kernel) ?_
 try simp -implicitDefEqProofs (maxSteps := 999999) [-selQ_sel]
 have hr := (HS.some H).symm; subst hr
 refine Hid.mk ⟨_, Wk.refl _, ?_⟩
 try simp -implicitDefEqProofs (maxSteps := 999999) [-selQ_sel]
theorem laws_toMat_ok0 (hm : Try.prog.follows .mixedOrders = true) : Sound Try.prog 60 laws_toMat_x := by
 refine xOf_sound fun q r h => ?_
 revert h; revert r; revert q; intro a0 r h
 refine fn_ok E0 hm Try.func60 rfl (by decide +kernel) (by rfl) fun Γ hn hk => ?_
 dsimp only [laws_toMat_e, laws_toMat_v]
 replace hn : Γ.n = 23 := hn
 replace hk : Γ.k = 0 := hk
 have H : HS (laws_toMat a0) r := h
 clear h; unfold laws_toMat at H
 try simp -implicitDefEqProofs at H
 refine Tr.of_vc (cl := tabC []) (E := E0) [] tab_nil hm (by rw [hn]; decide +kernel) ?_
 try simp -implicitDefEqProofs (maxSteps := 999999) [-selQ_sel]
 have hr := (HS.some H).symm; subst hr
 refine Hid.mk ⟨_, Wk.refl _, ?_⟩
 try simp -implicitDefEqProofs (maxSteps := 999999) [-selQ_sel]
end Go.Proofs.Ytapchldnmkfkoab.Am
