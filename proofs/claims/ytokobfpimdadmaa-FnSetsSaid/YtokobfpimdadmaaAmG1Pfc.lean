import Derived.Test.YtokobfpimdadmaaAmG1Mo
set_option linter.unusedVariables false
set_option linter.unusedSimpArgs false
set_option linter.unusedSectionVars false
namespace Go.Proofs.Ytokobfpimdadmaa.Am
open Go Go.Proofs
set_option maxRecDepth 100000
set_option linter.unusedSimpArgs false
set_option linter.unusedVariables false
set_option maxHeartbeats 4000000
theorem impl_SetNode_ok0 (hm : Try.prog.follows .mixedOrders = true) (k_impl_copyScene : Sound Try.prog 43 impl_copyScene_x) (k_impl_NodeAt : Sound Try.prog 44 impl_NodeAt_x) (k_impl_NodeOk : Sound Try.prog 45 impl_NodeOk_x) (k_impl_SceneOk : Sound Try.prog 17 impl_SceneOk_x) (k_impl_copyNode : Sound Try.prog 47 impl_copyNode_x) (k_impl_KidsOf : Sound Try.prog 46 impl_KidsOf_x) : Sound Try.prog 12 impl_SetNode_x := by
  refine xOf_sound fun q r h => ?_
  obtain ⟨a0, a1⟩ := q
  refine fn_ok E0 hm Try.func12 rfl (by decide +kernel) (by rfl) fun Γ hn hk => ?_
  dsimp only [impl_SetNode_e, impl_SetNode_v]
  replace hn : Γ.n = 61 := hn
  replace hk : Γ.k = 0 := hk
  have H : HS (impl_SetNode a0 a1) r := h
  clear h; unfold impl_SetNode at H
  try simp -implicitDefEqProofs at H
  refine Tr.of_vc (cl := tabC [(43, impl_copyScene_x), (44, impl_NodeAt_x), (45, impl_NodeOk_x), (17, impl_SceneOk_x), (47, impl_copyNode_x), (46, impl_KidsOf_x)]) (E := E0) [] (tab_cons k_impl_copyScene (tab_cons k_impl_NodeAt (tab_cons k_impl_NodeOk (tab_cons k_impl_SceneOk (tab_cons k_impl_copyNode (tab_cons k_impl_KidsOf tab_nil)))))) hm (by rw [hn]; decide +kernel) ?_
  try simp -implicitDefEqProofs +decide (maxSteps := 2000000) [-selQ_sel, hokQ_of]
  obtain ⟨v1, h_1, H⟩ := HS.bnd H
  try simp -implicitDefEqProofs +decide (maxSteps := 2000000) [-selQ_sel, hokQ_of, h_1]
  obtain ⟨v2, h_2, H⟩ := HS.bnd H
  try simp -implicitDefEqProofs +decide (maxSteps := 2000000) [-selQ_sel, hokQ_of, h_1, h_2]
  obtain ⟨v3, h_3, H⟩ := HS.bnd H
  try simp -implicitDefEqProofs +decide (maxSteps := 2000000) [-selQ_sel, hokQ_of, h_1, h_2, h_3]
  refine Hid.selQ (fun h_4 => ?_) (fun h_4 => ?_)
  · replace H := HS.cnd_t h_4 H
    try simp -implicitDefEqProofs +decide (maxSteps := 2000000) [-selQ_sel, hokQ_of, h_1, h_2, h_3, h_4]
    obtain ⟨v4, h_5, H⟩ := HS.bnd H
    try simp -implicitDefEqProofs +decide (maxSteps := 2000000) [-selQ_sel, hokQ_of, h_1, h_2, h_3, h_4, h_5]
    refine Hid.brV (fun h_6 => ?_) (fun h_6 => ?_)
    · replace H := HS.cnd_t h_6 H
      try simp -implicitDefEqProofs +decide (maxSteps := 2000000) [-selQ_sel, hokQ_of, h_1, h_2, h_3, h_4, h_5, h_6]
      refine Hid.brV (fun h_7 => ?_) (fun h_7 => ?_)
      · replace H := HS.cnd_t h_7 H
        try simp -implicitDefEqProofs +decide (maxSteps := 2000000) [-selQ_sel, hokQ_of, h_1, h_2, h_3, h_4, h_5, h_6, h_7]
        refine Hid.selQ (fun h_8 => ?_) (fun h_8 => ?_)
        · replace H := HS.cnd_t h_8 H
          try simp -implicitDefEqProofs +decide (maxSteps := 2000000) [-selQ_sel, hokQ_of, h_1, h_2, h_3, h_4, h_5, h_6, h_7, h_8]
          obtain ⟨v5, h_9, H⟩ := HS.bnd H
          have g_10 := idx_get h_9
          try simp -implicitDefEqProofs +decide (maxSteps := 2000000) [-selQ_sel, hokQ_of, h_1, h_2, h_3, h_4, h_5, h_6, h_7, h_8, h_9, g_10]
          obtain ⟨v6, h_11, H⟩ := HS.bnd H
          have k_12 := impl_copyNode_k ((TNode.mk a1.id a1.parent true a1.mat a1.path a1.even a1.width a1.dashes a1.paint a1.mode a1.fade a1.clip).id) ((TNode.mk a1.id a1.parent true a1.mat a1.path a1.even a1.width a1.dashes a1.paint a1.mode a1.fade a1.clip).parent) ((TNode.mk a1.id a1.parent true a1.mat a1.path a1.even a1.width a1.dashes a1.paint a1.mode a1.fade a1.clip).group) (((TNode.mk a1.id a1.parent true a1.mat a1.path a1.even a1.width a1.dashes a1.paint a1.mode a1.fade a1.clip).mat).a) (((TNode.mk a1.id a1.parent true a1.mat a1.path a1.even a1.width a1.dashes a1.paint a1.mode a1.fade a1.clip).mat).b) (((TNode.mk a1.id a1.parent true a1.mat a1.path a1.even a1.width a1.dashes a1.paint a1.mode a1.fade a1.clip).mat).c) (((TNode.mk a1.id a1.parent true a1.mat a1.path a1.even a1.width a1.dashes a1.paint a1.mode a1.fade a1.clip).mat).d) (((TNode.mk a1.id a1.parent true a1.mat a1.path a1.even a1.width a1.dashes a1.paint a1.mode a1.fade a1.clip).mat).e) (((TNode.mk a1.id a1.parent true a1.mat a1.path a1.even a1.width a1.dashes a1.paint a1.mode a1.fade a1.clip).mat).f) (((TNode.mk a1.id a1.parent true a1.mat a1.path a1.even a1.width a1.dashes a1.paint a1.mode a1.fade a1.clip).path).verbs) (((TNode.mk a1.id a1.parent true a1.mat a1.path a1.even a1.width a1.dashes a1.paint a1.mode a1.fade a1.clip).path).points) ((TNode.mk a1.id a1.parent true a1.mat a1.path a1.even a1.width a1.dashes a1.paint a1.mode a1.fade a1.clip).even) ((TNode.mk a1.id a1.parent true a1.mat a1.path a1.even a1.width a1.dashes a1.paint a1.mode a1.fade a1.clip).width) ((TNode.mk a1.id a1.parent true a1.mat a1.path a1.even a1.width a1.dashes a1.paint a1.mode a1.fade a1.clip).dashes) (((TNode.mk a1.id a1.parent true a1.mat a1.path a1.even a1.width a1.dashes a1.paint a1.mode a1.fade a1.clip).paint).kind) ((((TNode.mk a1.id a1.parent true a1.mat a1.path a1.even a1.width a1.dashes a1.paint a1.mode a1.fade a1.clip).paint).first).r) ((((TNode.mk a1.id a1.parent true a1.mat a1.path a1.even a1.width a1.dashes a1.paint a1.mode a1.fade a1.clip).paint).first).g) ((((TNode.mk a1.id a1.parent true a1.mat a1.path a1.even a1.width a1.dashes a1.paint a1.mode a1.fade a1.clip).paint).first).b) ((((TNode.mk a1.id a1.parent true a1.mat a1.path a1.even a1.width a1.dashes a1.paint a1.mode a1.fade a1.clip).paint).first).a) ((((TNode.mk a1.id a1.parent true a1.mat a1.path a1.even a1.width a1.dashes a1.paint a1.mode a1.fade a1.clip).paint).last).r) ((((TNode.mk a1.id a1.parent true a1.mat a1.path a1.even a1.width a1.dashes a1.paint a1.mode a1.fade a1.clip).paint).last).g) ((((TNode.mk a1.id a1.parent true a1.mat a1.path a1.even a1.width a1.dashes a1.paint a1.mode a1.fade a1.clip).paint).last).b) ((((TNode.mk a1.id a1.parent true a1.mat a1.path a1.even a1.width a1.dashes a1.paint a1.mode a1.fade a1.clip).paint).last).a) ((((TNode.mk a1.id a1.parent true a1.mat a1.path a1.even a1.width a1.dashes a1.paint a1.mode a1.fade a1.clip).paint).from_).x) ((((TNode.mk a1.id a1.parent true a1.mat a1.path a1.even a1.width a1.dashes a1.paint a1.mode a1.fade a1.clip).paint).from_).y) ((((TNode.mk a1.id a1.parent true a1.mat a1.path a1.even a1.width a1.dashes a1.paint a1.mode a1.fade a1.clip).paint).to).x) ((((TNode.mk a1.id a1.parent true a1.mat a1.path a1.even a1.width a1.dashes a1.paint a1.mode a1.fade a1.clip).paint).to).y) ((TNode.mk a1.id a1.parent true a1.mat a1.path a1.even a1.width a1.dashes a1.paint a1.mode a1.fade a1.clip).mode) ((TNode.mk a1.id a1.parent true a1.mat a1.path a1.even a1.width a1.dashes a1.paint a1.mode a1.fade a1.clip).fade) (((TNode.mk a1.id a1.parent true a1.mat a1.path a1.even a1.width a1.dashes a1.paint a1.mode a1.fade a1.clip).clip).verbs) (((TNode.mk a1.id a1.parent true a1.mat a1.path a1.even a1.width a1.dashes a1.paint a1.mode a1.fade a1.clip).clip).points)
          simp -implicitDefEqProofs [-impl_copyNode_k] at k_12
          try simp -implicitDefEqProofs +decide (maxSteps := 2000000) [-selQ_sel, hokQ_of, h_1, h_2, h_3, h_4, h_5, h_6, h_7, h_8, h_9, g_10, h_11, k_12]
          obtain ⟨l7, h_13, H⟩ := HS.nam H
          have m_14 := congrArg (List.map eNode) h_13
          have q_15 := congrArg List.length h_13
          simp -implicitDefEqProofs at m_14 q_15
          try simp only [q_15] at m_14
          try simp only [q_15] at k_12
          try simp -implicitDefEqProofs +decide (maxSteps := 2000000) [-selQ_sel, hokQ_of, h_1, h_2, h_3, h_4, h_5, h_6, h_7, h_8, h_9, g_10, h_11, k_12, m_14, q_15]
          obtain ⟨v8, h_16, H⟩ := HS.bnd H
          have g_17 := idx_get h_16
          try simp -implicitDefEqProofs +decide (maxSteps := 2000000) [-selQ_sel, hokQ_of, h_1, h_2, h_3, h_4, h_5, h_6, h_7, h_8, h_9, g_10, h_11, k_12, m_14, q_15, h_16, g_17]
          obtain ⟨l9, h_18, H⟩ := HS.nam H
          have m_19 := congrArg (List.map eNode) h_18
          have q_20 := congrArg List.length h_18
          simp -implicitDefEqProofs at m_19 q_20
          try simp only [q_20] at m_19
          try simp only [q_20] at g_17
          try simp -implicitDefEqProofs +decide (maxSteps := 2000000) [-selQ_sel, hokQ_of, h_1, h_2, h_3, h_4, h_5, h_6, h_7, h_8, h_9, g_10, h_11, k_12, m_14, q_15, h_16, g_17, m_19, q_20]
          have hr := (HS.some H).symm; subst hr
          refine Hid.mk ⟨_, Wk.refl _, ?_⟩
          try simp -implicitDefEqProofs +decide (maxSteps := 2000000) [-selQ_sel, hokQ_of, h_1, h_2, h_3, h_4, h_5, h_6, h_7, h_8, h_9, g_10, h_11, k_12, m_14, q_15, h_16, g_17, m_19, q_20]
        · replace H := HS.cnd_f h_8 H
          try simp -implicitDefEqProofs +decide (maxSteps := 2000000) [-selQ_sel, hokQ_of, h_1, h_2, h_3, h_4, h_5, h_6, h_7, h_8]
          obtain ⟨v10, h_21, H⟩ := HS.bnd H
          try simp -implicitDefEqProofs +decide (maxSteps := 2000000) [-selQ_sel, hokQ_of, h_1, h_2, h_3, h_4, h_5, h_6, h_7, h_8, h_21]
          refine Hid.brV (fun h_22 => ?_) (fun h_22 => ?_)
          · replace H := HS.cnd_t h_22 H
            try simp -implicitDefEqProofs +decide (maxSteps := 2000000) [-selQ_sel, hokQ_of, h_1, h_2, h_3, h_4, h_5, h_6, h_7, h_8, h_21, h_22]
            obtain ⟨v11, h_23, H⟩ := HS.bnd H
            have g_24 := idx_get h_23
            try simp -implicitDefEqProofs +decide (maxSteps := 2000000) [-selQ_sel, hokQ_of, h_1, h_2, h_3, h_4, h_5, h_6, h_7, h_8, h_21, h_22, h_23, g_24]
            obtain ⟨v12, h_25, H⟩ := HS.bnd H
            have k_26 := impl_copyNode_k ((TNode.mk a1.id a1.parent false a1.mat a1.path a1.even a1.width a1.dashes a1.paint a1.mode a1.fade a1.clip).id) ((TNode.mk a1.id a1.parent false a1.mat a1.path a1.even a1.width a1.dashes a1.paint a1.mode a1.fade a1.clip).parent) ((TNode.mk a1.id a1.parent false a1.mat a1.path a1.even a1.width a1.dashes a1.paint a1.mode a1.fade a1.clip).group) (((TNode.mk a1.id a1.parent false a1.mat a1.path a1.even a1.width a1.dashes a1.paint a1.mode a1.fade a1.clip).mat).a) (((TNode.mk a1.id a1.parent false a1.mat a1.path a1.even a1.width a1.dashes a1.paint a1.mode a1.fade a1.clip).mat).b) (((TNode.mk a1.id a1.parent false a1.mat a1.path a1.even a1.width a1.dashes a1.paint a1.mode a1.fade a1.clip).mat).c) (((TNode.mk a1.id a1.parent false a1.mat a1.path a1.even a1.width a1.dashes a1.paint a1.mode a1.fade a1.clip).mat).d) (((TNode.mk a1.id a1.parent false a1.mat a1.path a1.even a1.width a1.dashes a1.paint a1.mode a1.fade a1.clip).mat).e) (((TNode.mk a1.id a1.parent false a1.mat a1.path a1.even a1.width a1.dashes a1.paint a1.mode a1.fade a1.clip).mat).f) (((TNode.mk a1.id a1.parent false a1.mat a1.path a1.even a1.width a1.dashes a1.paint a1.mode a1.fade a1.clip).path).verbs) (((TNode.mk a1.id a1.parent false a1.mat a1.path a1.even a1.width a1.dashes a1.paint a1.mode a1.fade a1.clip).path).points) ((TNode.mk a1.id a1.parent false a1.mat a1.path a1.even a1.width a1.dashes a1.paint a1.mode a1.fade a1.clip).even) ((TNode.mk a1.id a1.parent false a1.mat a1.path a1.even a1.width a1.dashes a1.paint a1.mode a1.fade a1.clip).width) ((TNode.mk a1.id a1.parent false a1.mat a1.path a1.even a1.width a1.dashes a1.paint a1.mode a1.fade a1.clip).dashes) (((TNode.mk a1.id a1.parent false a1.mat a1.path a1.even a1.width a1.dashes a1.paint a1.mode a1.fade a1.clip).paint).kind) ((((TNode.mk a1.id a1.parent false a1.mat a1.path a1.even a1.width a1.dashes a1.paint a1.mode a1.fade a1.clip).paint).first).r) ((((TNode.mk a1.id a1.parent false a1.mat a1.path a1.even a1.width a1.dashes a1.paint a1.mode a1.fade a1.clip).paint).first).g) ((((TNode.mk a1.id a1.parent false a1.mat a1.path a1.even a1.width a1.dashes a1.paint a1.mode a1.fade a1.clip).paint).first).b) ((((TNode.mk a1.id a1.parent false a1.mat a1.path a1.even a1.width a1.dashes a1.paint a1.mode a1.fade a1.clip).paint).first).a) ((((TNode.mk a1.id a1.parent false a1.mat a1.path a1.even a1.width a1.dashes a1.paint a1.mode a1.fade a1.clip).paint).last).r) ((((TNode.mk a1.id a1.parent false a1.mat a1.path a1.even a1.width a1.dashes a1.paint a1.mode a1.fade a1.clip).paint).last).g) ((((TNode.mk a1.id a1.parent false a1.mat a1.path a1.even a1.width a1.dashes a1.paint a1.mode a1.fade a1.clip).paint).last).b) ((((TNode.mk a1.id a1.parent false a1.mat a1.path a1.even a1.width a1.dashes a1.paint a1.mode a1.fade a1.clip).paint).last).a) ((((TNode.mk a1.id a1.parent false a1.mat a1.path a1.even a1.width a1.dashes a1.paint a1.mode a1.fade a1.clip).paint).from_).x) ((((TNode.mk a1.id a1.parent false a1.mat a1.path a1.even a1.width a1.dashes a1.paint a1.mode a1.fade a1.clip).paint).from_).y) ((((TNode.mk a1.id a1.parent false a1.mat a1.path a1.even a1.width a1.dashes a1.paint a1.mode a1.fade a1.clip).paint).to).x) ((((TNode.mk a1.id a1.parent false a1.mat a1.path a1.even a1.width a1.dashes a1.paint a1.mode a1.fade a1.clip).paint).to).y) ((TNode.mk a1.id a1.parent false a1.mat a1.path a1.even a1.width a1.dashes a1.paint a1.mode a1.fade a1.clip).mode) ((TNode.mk a1.id a1.parent false a1.mat a1.path a1.even a1.width a1.dashes a1.paint a1.mode a1.fade a1.clip).fade) (((TNode.mk a1.id a1.parent false a1.mat a1.path a1.even a1.width a1.dashes a1.paint a1.mode a1.fade a1.clip).clip).verbs) (((TNode.mk a1.id a1.parent false a1.mat a1.path a1.even a1.width a1.dashes a1.paint a1.mode a1.fade a1.clip).clip).points)
            simp -implicitDefEqProofs [-impl_copyNode_k] at k_26
            try simp -implicitDefEqProofs +decide (maxSteps := 2000000) [-selQ_sel, hokQ_of, h_1, h_2, h_3, h_4, h_5, h_6, h_7, h_8, h_21, h_22, h_23, g_24, h_25, k_26]
            obtain ⟨l13, h_27, H⟩ := HS.nam H
            have m_28 := congrArg (List.map eNode) h_27
            have q_29 := congrArg List.length h_27
            simp -implicitDefEqProofs at m_28 q_29
            try simp only [q_29] at m_28
            try simp only [q_29] at k_26
            try simp -implicitDefEqProofs +decide (maxSteps := 2000000) [-selQ_sel, hokQ_of, h_1, h_2, h_3, h_4, h_5, h_6, h_7, h_8, h_21, h_22, h_23, g_24, h_25, k_26, m_28, q_29]
            obtain ⟨v14, h_30, H⟩ := HS.bnd H
            have g_31 := idx_get h_30
            try simp -implicitDefEqProofs +decide (maxSteps := 2000000) [-selQ_sel, hokQ_of, h_1, h_2, h_3, h_4, h_5, h_6, h_7, h_8, h_21, h_22, h_23, g_24, h_25, k_26, m_28, q_29, h_30, g_31]
            obtain ⟨l15, h_32, H⟩ := HS.nam H
            have m_33 := congrArg (List.map eNode) h_32
            have q_34 := congrArg List.length h_32
            simp -implicitDefEqProofs at m_33 q_34
            try simp only [q_34] at m_33
            try simp only [q_34] at g_31
            try simp -implicitDefEqProofs +decide (maxSteps := 2000000) [-selQ_sel, hokQ_of, h_1, h_2, h_3, h_4, h_5, h_6, h_7, h_8, h_21, h_22, h_23, g_24, h_25, k_26, m_28, q_29, h_30, g_31, m_33, q_34]
            have hr := (HS.some H).symm; subst hr
            refine Hid.mk ⟨_, Wk.refl _, ?_⟩
            try simp -implicitDefEqProofs +decide (maxSteps := 2000000) [-selQ_sel, hokQ_of, h_1, h_2, h_3, h_4, h_5, h_6, h_7, h_8, h_21, h_22, h_23, g_24, h_25, k_26, m_28, q_29, h_30, g_31, m_33, q_34]
          · replace H := HS.cnd_f h_22 H
            try simp -implicitDefEqProofs +decide (maxSteps := 2000000) [-selQ_sel, hokQ_of, h_1, h_2, h_3, h_4, h_5, h_6, h_7, h_8, h_21, h_22]
            have hr := (HS.some H).symm; subst hr
            refine Hid.mk ⟨_, Wk.refl _, ?_⟩
            try simp -implicitDefEqProofs +decide (maxSteps := 2000000) [-selQ_sel, hokQ_of, h_1, h_2, h_3, h_4, h_5, h_6, h_7, h_8, h_21, h_22]
      · replace H := HS.cnd_f h_7 H
        try simp -implicitDefEqProofs +decide (maxSteps := 2000000) [-selQ_sel, hokQ_of, h_1, h_2, h_3, h_4, h_5, h_6, h_7]
        have hr := (HS.some H).symm; subst hr
        refine Hid.mk ⟨_, Wk.refl _, ?_⟩
        try simp -implicitDefEqProofs +decide (maxSteps := 2000000) [-selQ_sel, hokQ_of, h_1, h_2, h_3, h_4, h_5, h_6, h_7]
    · replace H := HS.cnd_f h_6 H
      try simp -implicitDefEqProofs +decide (maxSteps := 2000000) [-selQ_sel, hokQ_of, h_1, h_2, h_3, h_4, h_5, h_6]
      have hr := (HS.some H).symm; subst hr
      refine Hid.mk ⟨_, Wk.refl _, ?_⟩
      try simp -implicitDefEqProofs +decide (maxSteps := 2000000) [-selQ_sel, hokQ_of, h_1, h_2, h_3, h_4, h_5, h_6]
  · replace H := HS.cnd_f h_4 H
    try simp -implicitDefEqProofs +decide (maxSteps := 2000000) [-selQ_sel, hokQ_of, h_1, h_2, h_3, h_4]
    have hr := (HS.some H).symm; subst hr
    refine Hid.mk ⟨_, Wk.refl _, ?_⟩
    try simp -implicitDefEqProofs +decide (maxSteps := 2000000) [-selQ_sel, hokQ_of, h_1, h_2, h_3, h_4]
theorem laws_FnSets_ok0 (hm : Try.prog.follows .mixedOrders = true) (k_laws_big : Sound Try.prog 10 laws_big_x) (k_spec_DrawSetNode : Sound Try.prog 11 spec_DrawSetNode_x) (k_impl_SetNode : Sound Try.prog 12 impl_SetNode_x) (k_spec_SetNode : Sound Try.prog 13 spec_SetNode_x) (k_laws_sameScene : Sound Try.prog 14 laws_sameScene_x) (k_spec_NodeAt : Sound Try.prog 15 spec_NodeAt_x) (k_laws_sameNode : Sound Try.prog 16 laws_sameNode_x) (k_impl_SceneOk : Sound Try.prog 17 impl_SceneOk_x) : Sound Try.prog 4 laws_FnSets_x := by
  refine xOf_sound fun q r h => ?_
  revert h; revert r; revert q; intro a0 r h
  refine fn_ok E0 hm Try.func4 rfl (by decide +kernel) (by rfl) fun Γ hn hk => ?_
  dsimp only [laws_FnSets_e, laws_FnSets_v]
  replace hn : Γ.n = 99 := hn
  replace hk : Γ.k = 0 := hk
  have H : HS (laws_FnSets a0) r := h
  clear h; unfold laws_FnSets at H
  try simp -implicitDefEqProofs at H
  refine Tr.of_vc (cl := tabC [(10, laws_big_x), (11, spec_DrawSetNode_x), (12, impl_SetNode_x), (13, spec_SetNode_x), (14, laws_sameScene_x), (15, spec_NodeAt_x), (16, laws_sameNode_x), (17, impl_SceneOk_x)]) (E := E0) [] (tab_cons k_laws_big (tab_cons k_spec_DrawSetNode (tab_cons k_impl_SetNode (tab_cons k_spec_SetNode (tab_cons k_laws_sameScene (tab_cons k_spec_NodeAt (tab_cons k_laws_sameNode (tab_cons k_impl_SceneOk tab_nil)))))))) hm (by rw [hn]; decide +kernel) ?_
  try simp -implicitDefEqProofs +decide (maxSteps := 2000000) [-selQ_sel, hokQ_of]
  obtain ⟨v1, h_1, H⟩ := HS.bnd H
  try simp -implicitDefEqProofs +decide (maxSteps := 2000000) [-selQ_sel, hokQ_of, h_1]
  refine Hid.brV (fun h_2 => ?_) (fun h_2 => ?_)
  · replace H := HS.cnd_t h_2 H
    try simp -implicitDefEqProofs +decide (maxSteps := 2000000) [-selQ_sel, hokQ_of, h_1, h_2]
    have hr := (HS.some H).symm; subst hr
    refine Hid.mk ⟨_, Wk.refl _, ?_⟩
    try simp -implicitDefEqProofs +decide (maxSteps := 2000000) [-selQ_sel, hokQ_of, h_1, h_2]
  · replace H := HS.cnd_f h_2 H
    try simp -implicitDefEqProofs +decide (maxSteps := 2000000) [-selQ_sel, hokQ_of, h_1, h_2]
    obtain ⟨⟨w3, w4⟩, h_3, H⟩ := HS.bnd H
    dsimp only at H
    try simp -implicitDefEqProofs +decide (maxSteps := 2000000) [-selQ_sel, hokQ_of, h_1, h_2, h_3]
    obtain ⟨⟨w6, w7⟩, h_4, H⟩ := HS.bnd H
    dsimp only at H
    try simp -implicitDefEqProofs +decide (maxSteps := 2000000) [-selQ_sel, hokQ_of, h_1, h_2, h_3, h_4]
    obtain ⟨⟨w9, w10⟩, h_5, H⟩ := HS.bnd H
    dsimp only at H
    try simp -implicitDefEqProofs +decide (maxSteps := 2000000) [-selQ_sel, hokQ_of, h_1, h_2, h_3, h_4, h_5]
    refine Hid.selQ (fun h_6 => ?_) (fun h_6 => ?_)
    · replace H := HS.cnd_t h_6 H
      try simp -implicitDefEqProofs +decide (maxSteps := 2000000) [-selQ_sel, hokQ_of, h_1, h_2, h_3, h_4, h_5, h_6]
      obtain ⟨v11, h_7, H⟩ := HS.bnd H
      try simp -implicitDefEqProofs +decide (maxSteps := 2000000) [-selQ_sel, hokQ_of, h_1, h_2, h_3, h_4, h_5, h_6, h_7]
      refine Hid.brV (fun h_8 => ?_) (fun h_8 => ?_)
      · replace H := HS.cnd_t h_8 H
        try simp -implicitDefEqProofs +decide (maxSteps := 2000000) [-selQ_sel, hokQ_of, h_1, h_2, h_3, h_4, h_5, h_6, h_7, h_8]
        refine Hid.brV (fun h_9 => ?_) (fun h_9 => ?_)
        · replace H := HS.cnd_t h_9 H
          try simp -implicitDefEqProofs +decide (maxSteps := 2000000) [-selQ_sel, hokQ_of, h_1, h_2, h_3, h_4, h_5, h_6, h_7, h_8, h_9]
          obtain ⟨v12, h_10, H⟩ := HS.bnd H
          try simp -implicitDefEqProofs +decide (maxSteps := 2000000) [-selQ_sel, hokQ_of, h_1, h_2, h_3, h_4, h_5, h_6, h_7, h_8, h_9, h_10]
          obtain ⟨v13, h_11, H⟩ := HS.bnd H
          try simp -implicitDefEqProofs +decide (maxSteps := 2000000) [-selQ_sel, hokQ_of, h_1, h_2, h_3, h_4, h_5, h_6, h_7, h_8, h_9, h_10, h_11]
          obtain ⟨v14, h_12, H⟩ := HS.bnd H
          try simp -implicitDefEqProofs +decide (maxSteps := 2000000) [-selQ_sel, hokQ_of, h_1, h_2, h_3, h_4, h_5, h_6, h_7, h_8, h_9, h_10, h_11, h_12]
          obtain ⟨v15, h_13, H⟩ := HS.bnd H
          have k_14 := laws_sameNode_k v14.id v14.parent v14.group v14.mat.a v14.mat.b v14.mat.c v14.mat.d v14.mat.e v14.mat.f v14.path.verbs v14.path.points v14.even v14.width v14.dashes v14.paint.kind v14.paint.first.r v14.paint.first.g v14.paint.first.b v14.paint.first.a v14.paint.last.r v14.paint.last.g v14.paint.last.b v14.paint.last.a v14.paint.from_.x v14.paint.from_.y v14.paint.to.x v14.paint.to.y v14.mode v14.fade v14.clip.verbs v14.clip.points ((TNode.mk w4.id v13.parent w4.group w4.mat w4.path w4.even w4.width w4.dashes w4.paint w4.mode w4.fade w4.clip).id) ((TNode.mk w4.id v13.parent w4.group w4.mat w4.path w4.even w4.width w4.dashes w4.paint w4.mode w4.fade w4.clip).parent) ((TNode.mk w4.id v13.parent w4.group w4.mat w4.path w4.even w4.width w4.dashes w4.paint w4.mode w4.fade w4.clip).group) (((TNode.mk w4.id v13.parent w4.group w4.mat w4.path w4.even w4.width w4.dashes w4.paint w4.mode w4.fade w4.clip).mat).a) (((TNode.mk w4.id v13.parent w4.group w4.mat w4.path w4.even w4.width w4.dashes w4.paint w4.mode w4.fade w4.clip).mat).b) (((TNode.mk w4.id v13.parent w4.group w4.mat w4.path w4.even w4.width w4.dashes w4.paint w4.mode w4.fade w4.clip).mat).c) (((TNode.mk w4.id v13.parent w4.group w4.mat w4.path w4.even w4.width w4.dashes w4.paint w4.mode w4.fade w4.clip).mat).d) (((TNode.mk w4.id v13.parent w4.group w4.mat w4.path w4.even w4.width w4.dashes w4.paint w4.mode w4.fade w4.clip).mat).e) (((TNode.mk w4.id v13.parent w4.group w4.mat w4.path w4.even w4.width w4.dashes w4.paint w4.mode w4.fade w4.clip).mat).f) (((TNode.mk w4.id v13.parent w4.group w4.mat w4.path w4.even w4.width w4.dashes w4.paint w4.mode w4.fade w4.clip).path).verbs) (((TNode.mk w4.id v13.parent w4.group w4.mat w4.path w4.even w4.width w4.dashes w4.paint w4.mode w4.fade w4.clip).path).points) ((TNode.mk w4.id v13.parent w4.group w4.mat w4.path w4.even w4.width w4.dashes w4.paint w4.mode w4.fade w4.clip).even) ((TNode.mk w4.id v13.parent w4.group w4.mat w4.path w4.even w4.width w4.dashes w4.paint w4.mode w4.fade w4.clip).width) ((TNode.mk w4.id v13.parent w4.group w4.mat w4.path w4.even w4.width w4.dashes w4.paint w4.mode w4.fade w4.clip).dashes) (((TNode.mk w4.id v13.parent w4.group w4.mat w4.path w4.even w4.width w4.dashes w4.paint w4.mode w4.fade w4.clip).paint).kind) ((((TNode.mk w4.id v13.parent w4.group w4.mat w4.path w4.even w4.width w4.dashes w4.paint w4.mode w4.fade w4.clip).paint).first).r) ((((TNode.mk w4.id v13.parent w4.group w4.mat w4.path w4.even w4.width w4.dashes w4.paint w4.mode w4.fade w4.clip).paint).first).g) ((((TNode.mk w4.id v13.parent w4.group w4.mat w4.path w4.even w4.width w4.dashes w4.paint w4.mode w4.fade w4.clip).paint).first).b) ((((TNode.mk w4.id v13.parent w4.group w4.mat w4.path w4.even w4.width w4.dashes w4.paint w4.mode w4.fade w4.clip).paint).first).a) ((((TNode.mk w4.id v13.parent w4.group w4.mat w4.path w4.even w4.width w4.dashes w4.paint w4.mode w4.fade w4.clip).paint).last).r) ((((TNode.mk w4.id v13.parent w4.group w4.mat w4.path w4.even w4.width w4.dashes w4.paint w4.mode w4.fade w4.clip).paint).last).g) ((((TNode.mk w4.id v13.parent w4.group w4.mat w4.path w4.even w4.width w4.dashes w4.paint w4.mode w4.fade w4.clip).paint).last).b) ((((TNode.mk w4.id v13.parent w4.group w4.mat w4.path w4.even w4.width w4.dashes w4.paint w4.mode w4.fade w4.clip).paint).last).a) ((((TNode.mk w4.id v13.parent w4.group w4.mat w4.path w4.even w4.width w4.dashes w4.paint w4.mode w4.fade w4.clip).paint).from_).x) ((((TNode.mk w4.id v13.parent w4.group w4.mat w4.path w4.even w4.width w4.dashes w4.paint w4.mode w4.fade w4.clip).paint).from_).y) ((((TNode.mk w4.id v13.parent w4.group w4.mat w4.path w4.even w4.width w4.dashes w4.paint w4.mode w4.fade w4.clip).paint).to).x) ((((TNode.mk w4.id v13.parent w4.group w4.mat w4.path w4.even w4.width w4.dashes w4.paint w4.mode w4.fade w4.clip).paint).to).y) ((TNode.mk w4.id v13.parent w4.group w4.mat w4.path w4.even w4.width w4.dashes w4.paint w4.mode w4.fade w4.clip).mode) ((TNode.mk w4.id v13.parent w4.group w4.mat w4.path w4.even w4.width w4.dashes w4.paint w4.mode w4.fade w4.clip).fade) (((TNode.mk w4.id v13.parent w4.group w4.mat w4.path w4.even w4.width w4.dashes w4.paint w4.mode w4.fade w4.clip).clip).verbs) (((TNode.mk w4.id v13.parent w4.group w4.mat w4.path w4.even w4.width w4.dashes w4.paint w4.mode w4.fade w4.clip).clip).points)
          simp -implicitDefEqProofs [-laws_sameNode_k] at k_14
          try simp -implicitDefEqProofs +decide (maxSteps := 2000000) [-selQ_sel, hokQ_of, h_1, h_2, h_3, h_4, h_5, h_6, h_7, h_8, h_9, h_10, h_11, h_12, h_13, k_14]
          refine Hid.selQ (fun h_15 => ?_) (fun h_15 => ?_)
          · replace H := HS.cnd_t h_15 H
            try simp -implicitDefEqProofs +decide (maxSteps := 2000000) [-selQ_sel, hokQ_of, h_1, h_2, h_3, h_4, h_5, h_6, h_7, h_8, h_9, h_10, h_11, h_12, h_13, k_14, h_15]
            obtain ⟨v16, h_16, H⟩ := HS.bnd H
            try simp -implicitDefEqProofs +decide (maxSteps := 2000000) [-selQ_sel, hokQ_of, h_1, h_2, h_3, h_4, h_5, h_6, h_7, h_8, h_9, h_10, h_11, h_12, h_13, k_14, h_15, h_16]
            refine Hid.brV (fun h_17 => ?_) (fun h_17 => ?_)
            · replace H := HS.cnd_t h_17 H
              try simp -implicitDefEqProofs +decide (maxSteps := 2000000) [-selQ_sel, hokQ_of, h_1, h_2, h_3, h_4, h_5, h_6, h_7, h_8, h_9, h_10, h_11, h_12, h_13, k_14, h_15, h_16, h_17]
              obtain ⟨⟨w18, w19⟩, h_18, H⟩ := HS.bnd H
              dsimp only at H
              try simp -implicitDefEqProofs +decide (maxSteps := 2000000) [-selQ_sel, hokQ_of, h_1, h_2, h_3, h_4, h_5, h_6, h_7, h_8, h_9, h_10, h_11, h_12, h_13, k_14, h_15, h_16, h_17, h_18]
              refine Hid.selQ (fun h_19 => ?_) (fun h_19 => ?_)
              · replace H := HS.cnd_t h_19 H
                try simp -implicitDefEqProofs +decide (maxSteps := 2000000) [-selQ_sel, hokQ_of, h_1, h_2, h_3, h_4, h_5, h_6, h_7, h_8, h_9, h_10, h_11, h_12, h_13, k_14, h_15, h_16, h_17, h_18, h_19]
                obtain ⟨v20, h_20, H⟩ := HS.bnd H
                try simp -implicitDefEqProofs +decide (maxSteps := 2000000) [-selQ_sel, hokQ_of, h_1, h_2, h_3, h_4, h_5, h_6, h_7, h_8, h_9, h_10, h_11, h_12, h_13, k_14, h_15, h_16, h_17, h_18, h_19, h_20]
                refine Hid.selQ (fun h_21 => ?_) (fun h_21 => ?_)
                · replace H := HS.cnd_t h_21 H
                  try simp -implicitDefEqProofs +decide (maxSteps := 2000000) [-selQ_sel, hokQ_of, h_1, h_2, h_3, h_4, h_5, h_6, h_7, h_8, h_9, h_10, h_11, h_12, h_13, k_14, h_15, h_16, h_17, h_18, h_19, h_20, h_21]
                  have hr := (HS.some H).symm; subst hr
                  refine Hid.mk ⟨_, Wk.refl _, ?_⟩
                  try simp -implicitDefEqProofs +decide (maxSteps := 2000000) [-selQ_sel, hokQ_of, h_1, h_2, h_3, h_4, h_5, h_6, h_7, h_8, h_9, h_10, h_11, h_12, h_13, k_14, h_15, h_16, h_17, h_18, h_19, h_20, h_21]
                · replace H := HS.cnd_f h_21 H
                  try simp -implicitDefEqProofs +decide (maxSteps := 2000000) [-selQ_sel, hokQ_of, h_1, h_2, h_3, h_4, h_5, h_6, h_7, h_8, h_9, h_10, h_11, h_12, h_13, k_14, h_15, h_16, h_17, h_18, h_19, h_20, h_21]
                  refine Hid.selQ (fun h_22 => ?_) (fun h_22 => ?_)
                  · replace H := HS.cnd_t h_22 H
                    try simp -implicitDefEqProofs +decide (maxSteps := 2000000) [-selQ_sel, hokQ_of, h_1, h_2, h_3, h_4, h_5, h_6, h_7, h_8, h_9, h_10, h_11, h_12, h_13, k_14, h_15, h_16, h_17, h_18, h_19, h_20, h_21, h_22]
                    have hr := (HS.some H).symm; subst hr
                    refine Hid.mk ⟨_, Wk.refl _, ?_⟩
                    try simp -implicitDefEqProofs +decide (maxSteps := 2000000) [-selQ_sel, hokQ_of, h_1, h_2, h_3, h_4, h_5, h_6, h_7, h_8, h_9, h_10, h_11, h_12, h_13, k_14, h_15, h_16, h_17, h_18, h_19, h_20, h_21, h_22]
                  · replace H := HS.cnd_f h_22 H
                    try simp -implicitDefEqProofs +decide (maxSteps := 2000000) [-selQ_sel, hokQ_of, h_1, h_2, h_3, h_4, h_5, h_6, h_7, h_8, h_9, h_10, h_11, h_12, h_13, k_14, h_15, h_16, h_17, h_18, h_19, h_20, h_21, h_22]
                    have hr := (HS.some H).symm; subst hr
                    refine Hid.mk ⟨_, Wk.refl _, ?_⟩
                    try simp -implicitDefEqProofs +decide (maxSteps := 2000000) [-selQ_sel, hokQ_of, h_1, h_2, h_3, h_4, h_5, h_6, h_7, h_8, h_9, h_10, h_11, h_12, h_13, k_14, h_15, h_16, h_17, h_18, h_19, h_20, h_21, h_22]
              · replace H := HS.cnd_f h_19 H
                try simp -implicitDefEqProofs +decide (maxSteps := 2000000) [-selQ_sel, hokQ_of, h_1, h_2, h_3, h_4, h_5, h_6, h_7, h_8, h_9, h_10, h_11, h_12, h_13, k_14, h_15, h_16, h_17, h_18, h_19]
                refine Hid.selQ (fun h_23 => ?_) (fun h_23 => ?_)
                · replace H := HS.cnd_t h_23 H
                  try simp -implicitDefEqProofs +decide (maxSteps := 2000000) [-selQ_sel, hokQ_of, h_1, h_2, h_3, h_4, h_5, h_6, h_7, h_8, h_9, h_10, h_11, h_12, h_13, k_14, h_15, h_16, h_17, h_18, h_19, h_23]
                  have hr := (HS.some H).symm; subst hr
                  refine Hid.mk ⟨_, Wk.refl _, ?_⟩
                  try simp -implicitDefEqProofs +decide (maxSteps := 2000000) [-selQ_sel, hokQ_of, h_1, h_2, h_3, h_4, h_5, h_6, h_7, h_8, h_9, h_10, h_11, h_12, h_13, k_14, h_15, h_16, h_17, h_18, h_19, h_23]
                · replace H := HS.cnd_f h_23 H
                  try simp -implicitDefEqProofs +decide (maxSteps := 2000000) [-selQ_sel, hokQ_of, h_1, h_2, h_3, h_4, h_5, h_6, h_7, h_8, h_9, h_10, h_11, h_12, h_13, k_14, h_15, h_16, h_17, h_18, h_19, h_23]
                  have hr := (HS.some H).symm; subst hr
                  refine Hid.mk ⟨_, Wk.refl _, ?_⟩
                  try simp -implicitDefEqProofs +decide (maxSteps := 2000000) [-selQ_sel, hokQ_of, h_1, h_2, h_3, h_4, h_5, h_6, h_7, h_8, h_9, h_10, h_11, h_12, h_13, k_14, h_15, h_16, h_17, h_18, h_19, h_23]
            · replace H := HS.cnd_f h_17 H
              try simp -implicitDefEqProofs +decide (maxSteps := 2000000) [-selQ_sel, hokQ_of, h_1, h_2, h_3, h_4, h_5, h_6, h_7, h_8, h_9, h_10, h_11, h_12, h_13, k_14, h_15, h_16, h_17]
              have hr := (HS.some H).symm; subst hr
              refine Hid.mk ⟨_, Wk.refl _, ?_⟩
              try simp -implicitDefEqProofs +decide (maxSteps := 2000000) [-selQ_sel, hokQ_of, h_1, h_2, h_3, h_4, h_5, h_6, h_7, h_8, h_9, h_10, h_11, h_12, h_13, k_14, h_15, h_16, h_17]
          · replace H := HS.cnd_f h_15 H
            try simp -implicitDefEqProofs +decide (maxSteps := 2000000) [-selQ_sel, hokQ_of, h_1, h_2, h_3, h_4, h_5, h_6, h_7, h_8, h_9, h_10, h_11, h_12, h_13, k_14, h_15]
            have hr := (HS.some H).symm; subst hr
            refine Hid.mk ⟨_, Wk.refl _, ?_⟩
            try simp -implicitDefEqProofs +decide (maxSteps := 2000000) [-selQ_sel, hokQ_of, h_1, h_2, h_3, h_4, h_5, h_6, h_7, h_8, h_9, h_10, h_11, h_12, h_13, k_14, h_15]
        · replace H := HS.cnd_f h_9 H
          try simp -implicitDefEqProofs +decide (maxSteps := 2000000) [-selQ_sel, hokQ_of, h_1, h_2, h_3, h_4, h_5, h_6, h_7, h_8, h_9]
          obtain ⟨v21, h_24, H⟩ := HS.bnd H
          try simp -implicitDefEqProofs +decide (maxSteps := 2000000) [-selQ_sel, hokQ_of, h_1, h_2, h_3, h_4, h_5, h_6, h_7, h_8, h_9, h_24]
          have hr := (HS.some H).symm; subst hr
          refine Hid.mk ⟨_, Wk.refl _, ?_⟩
          try simp -implicitDefEqProofs +decide (maxSteps := 2000000) [-selQ_sel, hokQ_of, h_1, h_2, h_3, h_4, h_5, h_6, h_7, h_8, h_9, h_24]
      · replace H := HS.cnd_f h_8 H
        try simp -implicitDefEqProofs +decide (maxSteps := 2000000) [-selQ_sel, hokQ_of, h_1, h_2, h_3, h_4, h_5, h_6, h_7, h_8]
        have hr := (HS.some H).symm; subst hr
        refine Hid.mk ⟨_, Wk.refl _, ?_⟩
        try simp -implicitDefEqProofs +decide (maxSteps := 2000000) [-selQ_sel, hokQ_of, h_1, h_2, h_3, h_4, h_5, h_6, h_7, h_8]
    · replace H := HS.cnd_f h_6 H
      try simp -implicitDefEqProofs +decide (maxSteps := 2000000) [-selQ_sel, hokQ_of, h_1, h_2, h_3, h_4, h_5, h_6]
      have hr := (HS.some H).symm; subst hr
      refine Hid.mk ⟨_, Wk.refl _, ?_⟩
      try simp -implicitDefEqProofs +decide (maxSteps := 2000000) [-selQ_sel, hokQ_of, h_1, h_2, h_3, h_4, h_5, h_6]
theorem spec_SetNode_ok0 (hm : Try.prog.follows .mixedOrders = true) (k_spec_l15Copy : Sound Try.prog 48 spec_l15Copy_x) (k_spec_SceneOk : Sound Try.prog 49 spec_SceneOk_x) (k_spec_NodeOk : Sound Try.prog 50 spec_NodeOk_x) (k_spec_NodeAt : Sound Try.prog 15 spec_NodeAt_x) (k_spec_l15CopyNode : Sound Try.prog 52 spec_l15CopyNode_x) (k_spec_KidsOf : Sound Try.prog 51 spec_KidsOf_x) : Sound Try.prog 13 spec_SetNode_x := by
  refine xOf_sound fun q r h => ?_
  obtain ⟨a0, a1⟩ := q
  refine fn_ok E0 hm Try.func13 rfl (by decide +kernel) (by rfl) fun Γ hn hk => ?_
  dsimp only [spec_SetNode_e, spec_SetNode_v]
  replace hn : Γ.n = 54 := hn
  replace hk : Γ.k = 0 := hk
  have H : HS (spec_SetNode a0 a1) r := h
  clear h; unfold spec_SetNode at H
  try simp -implicitDefEqProofs at H
  refine Tr.of_vc (cl := tabC [(48, spec_l15Copy_x), (49, spec_SceneOk_x), (50, spec_NodeOk_x), (15, spec_NodeAt_x), (52, spec_l15CopyNode_x), (51, spec_KidsOf_x)]) (E := E0) [] (tab_cons k_spec_l15Copy (tab_cons k_spec_SceneOk (tab_cons k_spec_NodeOk (tab_cons k_spec_NodeAt (tab_cons k_spec_l15CopyNode (tab_cons k_spec_KidsOf tab_nil)))))) hm (by rw [hn]; decide +kernel) ?_
  try simp -implicitDefEqProofs (maxSteps := 2000000) [-selQ_sel]
  obtain ⟨v1, h_1, H⟩ := HS.bnd H
  try simp -implicitDefEqProofs (maxSteps := 2000000) [-selQ_sel, h_1]
  obtain ⟨v2, h_2, H⟩ := HS.bnd H
  try simp -implicitDefEqProofs (maxSteps := 2000000) [-selQ_sel, h_1, h_2]
  refine Hid.selQ (fun h_3 => ?_) (fun h_3 => ?_)
  · replace H := HS.cnd_t h_3 H
    try simp -implicitDefEqProofs (maxSteps := 2000000) [-selQ_sel, h_1, h_2, h_3]
    obtain ⟨v3, h_4, H⟩ := HS.bnd H
    try simp -implicitDefEqProofs (maxSteps := 2000000) [-selQ_sel, h_1, h_2, h_3, h_4]
    refine Hid.brV (fun h_5 => ?_) (fun h_5 => ?_)
    · replace H := HS.cnd_t h_5 H
      try simp -implicitDefEqProofs (maxSteps := 2000000) [-selQ_sel, h_1, h_2, h_3, h_4, h_5]
      obtain ⟨v4, h_6, H⟩ := HS.bnd H
      try simp -implicitDefEqProofs (maxSteps := 2000000) [-selQ_sel, h_1, h_2, h_3, h_4, h_5, h_6]
      refine Hid.brV (fun h_7 => ?_) (fun h_7 => ?_)
      · replace H := HS.cnd_t h_7 H
        try simp -implicitDefEqProofs (maxSteps := 2000000) [-selQ_sel, h_1, h_2, h_3, h_4, h_5, h_6, h_7]
        refine Hid.selQ (fun h_8 => ?_) (fun h_8 => ?_)
        · replace H := HS.cnd_t h_8 H
          try simp -implicitDefEqProofs (maxSteps := 2000000) [-selQ_sel, h_1, h_2, h_3, h_4, h_5, h_6, h_7, h_8]
          obtain ⟨v5, h_9, H⟩ := HS.bnd H
          have k_10 := spec_l15CopyNode_k ((TNode.mk a1.id a1.parent true a1.mat a1.path a1.even a1.width a1.dashes a1.paint a1.mode a1.fade a1.clip).id) ((TNode.mk a1.id a1.parent true a1.mat a1.path a1.even a1.width a1.dashes a1.paint a1.mode a1.fade a1.clip).parent) ((TNode.mk a1.id a1.parent true a1.mat a1.path a1.even a1.width a1.dashes a1.paint a1.mode a1.fade a1.clip).group) (((TNode.mk a1.id a1.parent true a1.mat a1.path a1.even a1.width a1.dashes a1.paint a1.mode a1.fade a1.clip).mat).a) (((TNode.mk a1.id a1.parent true a1.mat a1.path a1.even a1.width a1.dashes a1.paint a1.mode a1.fade a1.clip).mat).b) (((TNode.mk a1.id a1.parent true a1.mat a1.path a1.even a1.width a1.dashes a1.paint a1.mode a1.fade a1.clip).mat).c) (((TNode.mk a1.id a1.parent true a1.mat a1.path a1.even a1.width a1.dashes a1.paint a1.mode a1.fade a1.clip).mat).d) (((TNode.mk a1.id a1.parent true a1.mat a1.path a1.even a1.width a1.dashes a1.paint a1.mode a1.fade a1.clip).mat).e) (((TNode.mk a1.id a1.parent true a1.mat a1.path a1.even a1.width a1.dashes a1.paint a1.mode a1.fade a1.clip).mat).f) (((TNode.mk a1.id a1.parent true a1.mat a1.path a1.even a1.width a1.dashes a1.paint a1.mode a1.fade a1.clip).path).verbs) (((TNode.mk a1.id a1.parent true a1.mat a1.path a1.even a1.width a1.dashes a1.paint a1.mode a1.fade a1.clip).path).points) ((TNode.mk a1.id a1.parent true a1.mat a1.path a1.even a1.width a1.dashes a1.paint a1.mode a1.fade a1.clip).even) ((TNode.mk a1.id a1.parent true a1.mat a1.path a1.even a1.width a1.dashes a1.paint a1.mode a1.fade a1.clip).width) ((TNode.mk a1.id a1.parent true a1.mat a1.path a1.even a1.width a1.dashes a1.paint a1.mode a1.fade a1.clip).dashes) (((TNode.mk a1.id a1.parent true a1.mat a1.path a1.even a1.width a1.dashes a1.paint a1.mode a1.fade a1.clip).paint).kind) ((((TNode.mk a1.id a1.parent true a1.mat a1.path a1.even a1.width a1.dashes a1.paint a1.mode a1.fade a1.clip).paint).first).r) ((((TNode.mk a1.id a1.parent true a1.mat a1.path a1.even a1.width a1.dashes a1.paint a1.mode a1.fade a1.clip).paint).first).g) ((((TNode.mk a1.id a1.parent true a1.mat a1.path a1.even a1.width a1.dashes a1.paint a1.mode a1.fade a1.clip).paint).first).b) ((((TNode.mk a1.id a1.parent true a1.mat a1.path a1.even a1.width a1.dashes a1.paint a1.mode a1.fade a1.clip).paint).first).a) ((((TNode.mk a1.id a1.parent true a1.mat a1.path a1.even a1.width a1.dashes a1.paint a1.mode a1.fade a1.clip).paint).last).r) ((((TNode.mk a1.id a1.parent true a1.mat a1.path a1.even a1.width a1.dashes a1.paint a1.mode a1.fade a1.clip).paint).last).g) ((((TNode.mk a1.id a1.parent true a1.mat a1.path a1.even a1.width a1.dashes a1.paint a1.mode a1.fade a1.clip).paint).last).b) ((((TNode.mk a1.id a1.parent true a1.mat a1.path a1.even a1.width a1.dashes a1.paint a1.mode a1.fade a1.clip).paint).last).a) ((((TNode.mk a1.id a1.parent true a1.mat a1.path a1.even a1.width a1.dashes a1.paint a1.mode a1.fade a1.clip).paint).from_).x) ((((TNode.mk a1.id a1.parent true a1.mat a1.path a1.even a1.width a1.dashes a1.paint a1.mode a1.fade a1.clip).paint).from_).y) ((((TNode.mk a1.id a1.parent true a1.mat a1.path a1.even a1.width a1.dashes a1.paint a1.mode a1.fade a1.clip).paint).to).x) ((((TNode.mk a1.id a1.parent true a1.mat a1.path a1.even a1.width a1.dashes a1.paint a1.mode a1.fade a1.clip).paint).to).y) ((TNode.mk a1.id a1.parent true a1.mat a1.path a1.even a1.width a1.dashes a1.paint a1.mode a1.fade a1.clip).mode) ((TNode.mk a1.id a1.parent true a1.mat a1.path a1.even a1.width a1.dashes a1.paint a1.mode a1.fade a1.clip).fade) (((TNode.mk a1.id a1.parent true a1.mat a1.path a1.even a1.width a1.dashes a1.paint a1.mode a1.fade a1.clip).clip).verbs) (((TNode.mk a1.id a1.parent true a1.mat a1.path a1.even a1.width a1.dashes a1.paint a1.mode a1.fade a1.clip).clip).points)
          simp -implicitDefEqProofs [-spec_l15CopyNode_k] at k_10
          try simp -implicitDefEqProofs (maxSteps := 2000000) [-selQ_sel, h_1, h_2, h_3, h_4, h_5, h_6, h_7, h_8, h_9, k_10]
          obtain ⟨v6, h_11, H⟩ := HS.bnd H
          try simp -implicitDefEqProofs (maxSteps := 2000000) [-selQ_sel, h_1, h_2, h_3, h_4, h_5, h_6, h_7, h_8, h_9, k_10, h_11]
          obtain ⟨v7, h_12, H⟩ := HS.bnd H
          have g_13 := idx_get h_12
          try simp -implicitDefEqProofs (maxSteps := 2000000) [-selQ_sel, h_1, h_2, h_3, h_4, h_5, h_6, h_7, h_8, h_9, k_10, h_11, h_12, g_13]
          obtain ⟨l8, h_14, H⟩ := HS.nam H
          have m_15 := congrArg (List.map eNode) h_14
          have q_16 := congrArg List.length h_14
          simp -implicitDefEqProofs at m_15 q_16
          try simp only [q_16] at m_15
          try simp only [q_16] at g_13
          try simp -implicitDefEqProofs (maxSteps := 2000000) [-selQ_sel, h_1, h_2, h_3, h_4, h_5, h_6, h_7, h_8, h_9, k_10, h_11, h_12, g_13, m_15, q_16]
          have hr := (HS.some H).symm; subst hr
          refine Hid.mk ⟨_, Wk.refl _, ?_⟩
          try simp -implicitDefEqProofs (maxSteps := 2000000) [-selQ_sel, h_1, h_2, h_3, h_4, h_5, h_6, h_7, h_8, h_9, k_10, h_11, h_12, g_13, m_15, q_16]
        · replace H := HS.cnd_f h_8 H
          try simp -implicitDefEqProofs (maxSteps := 2000000) [-selQ_sel, h_1, h_2, h_3, h_4, h_5, h_6, h_7, h_8]
          obtain ⟨v9, h_17, H⟩ := HS.bnd H
          try simp -implicitDefEqProofs (maxSteps := 2000000) [-selQ_sel, h_1, h_2, h_3, h_4, h_5, h_6, h_7, h_8, h_17]
          refine Hid.brV (fun h_18 => ?_) (fun h_18 => ?_)
          · replace H := HS.cnd_t h_18 H
            try simp -implicitDefEqProofs (maxSteps := 2000000) [-selQ_sel, h_1, h_2, h_3, h_4, h_5, h_6, h_7, h_8, h_17, h_18]
            obtain ⟨v10, h_19, H⟩ := HS.bnd H
            have k_20 := spec_l15CopyNode_k ((TNode.mk a1.id a1.parent false a1.mat a1.path a1.even a1.width a1.dashes a1.paint a1.mode a1.fade a1.clip).id) ((TNode.mk a1.id a1.parent false a1.mat a1.path a1.even a1.width a1.dashes a1.paint a1.mode a1.fade a1.clip).parent) ((TNode.mk a1.id a1.parent false a1.mat a1.path a1.even a1.width a1.dashes a1.paint a1.mode a1.fade a1.clip).group) (((TNode.mk a1.id a1.parent false a1.mat a1.path a1.even a1.width a1.dashes a1.paint a1.mode a1.fade a1.clip).mat).a) (((TNode.mk a1.id a1.parent false a1.mat a1.path a1.even a1.width a1.dashes a1.paint a1.mode a1.fade a1.clip).mat).b) (((TNode.mk a1.id a1.parent false a1.mat a1.path a1.even a1.width a1.dashes a1.paint a1.mode a1.fade a1.clip).mat).c) (((TNode.mk a1.id a1.parent false a1.mat a1.path a1.even a1.width a1.dashes a1.paint a1.mode a1.fade a1.clip).mat).d) (((TNode.mk a1.id a1.parent false a1.mat a1.path a1.even a1.width a1.dashes a1.paint a1.mode a1.fade a1.clip).mat).e) (((TNode.mk a1.id a1.parent false a1.mat a1.path a1.even a1.width a1.dashes a1.paint a1.mode a1.fade a1.clip).mat).f) (((TNode.mk a1.id a1.parent false a1.mat a1.path a1.even a1.width a1.dashes a1.paint a1.mode a1.fade a1.clip).path).verbs) (((TNode.mk a1.id a1.parent false a1.mat a1.path a1.even a1.width a1.dashes a1.paint a1.mode a1.fade a1.clip).path).points) ((TNode.mk a1.id a1.parent false a1.mat a1.path a1.even a1.width a1.dashes a1.paint a1.mode a1.fade a1.clip).even) ((TNode.mk a1.id a1.parent false a1.mat a1.path a1.even a1.width a1.dashes a1.paint a1.mode a1.fade a1.clip).width) ((TNode.mk a1.id a1.parent false a1.mat a1.path a1.even a1.width a1.dashes a1.paint a1.mode a1.fade a1.clip).dashes) (((TNode.mk a1.id a1.parent false a1.mat a1.path a1.even a1.width a1.dashes a1.paint a1.mode a1.fade a1.clip).paint).kind) ((((TNode.mk a1.id a1.parent false a1.mat a1.path a1.even a1.width a1.dashes a1.paint a1.mode a1.fade a1.clip).paint).first).r) ((((TNode.mk a1.id a1.parent false a1.mat a1.path a1.even a1.width a1.dashes a1.paint a1.mode a1.fade a1.clip).paint).first).g) ((((TNode.mk a1.id a1.parent false a1.mat a1.path a1.even a1.width a1.dashes a1.paint a1.mode a1.fade a1.clip).paint).first).b) ((((TNode.mk a1.id a1.parent false a1.mat a1.path a1.even a1.width a1.dashes a1.paint a1.mode a1.fade a1.clip).paint).first).a) ((((TNode.mk a1.id a1.parent false a1.mat a1.path a1.even a1.width a1.dashes a1.paint a1.mode a1.fade a1.clip).paint).last).r) ((((TNode.mk a1.id a1.parent false a1.mat a1.path a1.even a1.width a1.dashes a1.paint a1.mode a1.fade a1.clip).paint).last).g) ((((TNode.mk a1.id a1.parent false a1.mat a1.path a1.even a1.width a1.dashes a1.paint a1.mode a1.fade a1.clip).paint).last).b) ((((TNode.mk a1.id a1.parent false a1.mat a1.path a1.even a1.width a1.dashes a1.paint a1.mode a1.fade a1.clip).paint).last).a) ((((TNode.mk a1.id a1.parent false a1.mat a1.path a1.even a1.width a1.dashes a1.paint a1.mode a1.fade a1.clip).paint).from_).x) ((((TNode.mk a1.id a1.parent false a1.mat a1.path a1.even a1.width a1.dashes a1.paint a1.mode a1.fade a1.clip).paint).from_).y) ((((TNode.mk a1.id a1.parent false a1.mat a1.path a1.even a1.width a1.dashes a1.paint a1.mode a1.fade a1.clip).paint).to).x) ((((TNode.mk a1.id a1.parent false a1.mat a1.path a1.even a1.width a1.dashes a1.paint a1.mode a1.fade a1.clip).paint).to).y) ((TNode.mk a1.id a1.parent false a1.mat a1.path a1.even a1.width a1.dashes a1.paint a1.mode a1.fade a1.clip).mode) ((TNode.mk a1.id a1.parent false a1.mat a1.path a1.even a1.width a1.dashes a1.paint a1.mode a1.fade a1.clip).fade) (((TNode.mk a1.id a1.parent false a1.mat a1.path a1.even a1.width a1.dashes a1.paint a1.mode a1.fade a1.clip).clip).verbs) (((TNode.mk a1.id a1.parent false a1.mat a1.path a1.even a1.width a1.dashes a1.paint a1.mode a1.fade a1.clip).clip).points)
            simp -implicitDefEqProofs [-spec_l15CopyNode_k] at k_20
            try simp -implicitDefEqProofs (maxSteps := 2000000) [-selQ_sel, h_1, h_2, h_3, h_4, h_5, h_6, h_7, h_8, h_17, h_18, h_19, k_20]
            obtain ⟨v11, h_21, H⟩ := HS.bnd H
            try simp -implicitDefEqProofs (maxSteps := 2000000) [-selQ_sel, h_1, h_2, h_3, h_4, h_5, h_6, h_7, h_8, h_17, h_18, h_19, k_20, h_21]
            obtain ⟨v12, h_22, H⟩ := HS.bnd H
            have g_23 := idx_get h_22
            try simp -implicitDefEqProofs (maxSteps := 2000000) [-selQ_sel, h_1, h_2, h_3, h_4, h_5, h_6, h_7, h_8, h_17, h_18, h_19, k_20, h_21, h_22, g_23]
            obtain ⟨l13, h_24, H⟩ := HS.nam H
            have m_25 := congrArg (List.map eNode) h_24
            have q_26 := congrArg List.length h_24
            simp -implicitDefEqProofs at m_25 q_26
            try simp only [q_26] at m_25
            try simp only [q_26] at g_23
            try simp -implicitDefEqProofs (maxSteps := 2000000) [-selQ_sel, h_1, h_2, h_3, h_4, h_5, h_6, h_7, h_8, h_17, h_18, h_19, k_20, h_21, h_22, g_23, m_25, q_26]
            have hr := (HS.some H).symm; subst hr
            refine Hid.mk ⟨_, Wk.refl _, ?_⟩
            try simp -implicitDefEqProofs (maxSteps := 2000000) [-selQ_sel, h_1, h_2, h_3, h_4, h_5, h_6, h_7, h_8, h_17, h_18, h_19, k_20, h_21, h_22, g_23, m_25, q_26]
          · replace H := HS.cnd_f h_18 H
            try simp -implicitDefEqProofs (maxSteps := 2000000) [-selQ_sel, h_1, h_2, h_3, h_4, h_5, h_6, h_7, h_8, h_17, h_18]
            have hr := (HS.some H).symm; subst hr
            refine Hid.mk ⟨_, Wk.refl _, ?_⟩
            try simp -implicitDefEqProofs (maxSteps := 2000000) [-selQ_sel, h_1, h_2, h_3, h_4, h_5, h_6, h_7, h_8, h_17, h_18]
      · replace H := HS.cnd_f h_7 H
        try simp -implicitDefEqProofs (maxSteps := 2000000) [-selQ_sel, h_1, h_2, h_3, h_4, h_5, h_6, h_7]
        have hr := (HS.some H).symm; subst hr
        refine Hid.mk ⟨_, Wk.refl _, ?_⟩
        try simp -implicitDefEqProofs (maxSteps := 2000000) [-selQ_sel, h_1, h_2, h_3, h_4, h_5, h_6, h_7]
    · replace H := HS.cnd_f h_5 H
      try simp -implicitDefEqProofs (maxSteps := 2000000) [-selQ_sel, h_1, h_2, h_3, h_4, h_5]
      have hr := (HS.some H).symm; subst hr
      refine Hid.mk ⟨_, Wk.refl _, ?_⟩
      try simp -implicitDefEqProofs (maxSteps := 2000000) [-selQ_sel, h_1, h_2, h_3, h_4, h_5]
  · replace H := HS.cnd_f h_3 H
    try simp -implicitDefEqProofs (maxSteps := 2000000) [-selQ_sel, h_1, h_2, h_3]
    have hr := (HS.some H).symm; subst hr
    refine Hid.mk ⟨_, Wk.refl _, ?_⟩
    try simp -implicitDefEqProofs (maxSteps := 2000000) [-selQ_sel, h_1, h_2, h_3]
theorem spec_l15Any_ok0 (hm : Try.prog.follows .mixedOrders = true) (k_spec_l15Scene : Sound Try.prog 71 spec_l15Scene_x) (k_spec_l15Copy : Sound Try.prog 48 spec_l15Copy_x) (k_spec_l01Below : Sound Try.prog 42 spec_l01Below_x) (k_spec_l15AnyNode : Sound Try.prog 39 spec_l15AnyNode_x) (k_spec_l15CopyNode : Sound Try.prog 52 spec_l15CopyNode_x) : Sound Try.prog 38 spec_l15Any_x := by
  refine xOf_sound fun q r h => ?_
  revert h; revert r; revert q; intro a0 r h
  refine fn_ok E0 hm Try.func38 rfl (by decide +kernel) (by rfl) fun Γ hn hk => ?_
  dsimp only [spec_l15Any_e, spec_l15Any_v]
  replace hn : Γ.n = 64 := hn
  replace hk : Γ.k = 1 := hk
  have H : HS (spec_l15Any a0) r := h
  clear h; unfold spec_l15Any at H
  try simp -implicitDefEqProofs at H
  refine Tr.of_vc (cl := tabC [(71, spec_l15Scene_x), (48, spec_l15Copy_x), (42, spec_l01Below_x), (39, spec_l15AnyNode_x), (52, spec_l15CopyNode_x)]) (E := E0) [] (tab_cons k_spec_l15Scene (tab_cons k_spec_l15Copy (tab_cons k_spec_l01Below (tab_cons k_spec_l15AnyNode (tab_cons k_spec_l15CopyNode tab_nil))))) hm (by rw [hn]; decide +kernel) ?_
  try simp -implicitDefEqProofs +decide (maxSteps := 2000000) [-selQ_sel, hokQ_of]
  obtain ⟨⟨w2, w3⟩, h_1, H⟩ := HS.bnd H
  dsimp only at H
  try simp -implicitDefEqProofs +decide (maxSteps := 2000000) [-selQ_sel, hokQ_of, h_1]
  obtain ⟨v4, h_2, H⟩ := HS.bnd H
  try simp -implicitDefEqProofs +decide (maxSteps := 2000000) [-selQ_sel, hokQ_of, h_1, h_2]
  obtain ⟨⟨w6, w7⟩, h_3, H⟩ := HS.bnd H
  dsimp only at H
  try simp -implicitDefEqProofs +decide (maxSteps := 2000000) [-selQ_sel, hokQ_of, h_1, h_2, h_3]
  refine Hid.brV (fun h_4 => ?_) (fun h_4 => ?_)
  · replace H := HS.cnd_t h_4 H
    try simp -implicitDefEqProofs +decide (maxSteps := 2000000) [-selQ_sel, hokQ_of, h_1, h_2, h_3, h_4]
    obtain ⟨⟨w9, w10⟩, h_5, H⟩ := HS.bnd H
    dsimp only at H
    try simp -implicitDefEqProofs +decide (maxSteps := 2000000) [-selQ_sel, hokQ_of, h_1, h_2, h_3, h_4, h_5]
    obtain ⟨h_6, H⟩ := HS.chkP H
    try simp -implicitDefEqProofs +decide (maxSteps := 2000000) [-selQ_sel, hokQ_of, h_1, h_2, h_3, h_4, h_5, h_6]
    obtain ⟨l11, h_7, H⟩ := HS.nam H
    have m_8 := congrArg (List.map eNode) h_7
    have q_9 := congrArg List.length h_7
    simp -implicitDefEqProofs at m_8 q_9
    try simp only [q_9] at m_8
    try simp only [q_9] at h_6
    try simp -implicitDefEqProofs +decide (maxSteps := 2000000) [-selQ_sel, hokQ_of, h_1, h_2, h_3, h_4, h_5, h_6, m_8, q_9]
    have hr := (HS.some H).symm; subst hr
    refine Hid.mk ⟨_, Wk.refl _, ?_⟩
    try simp -implicitDefEqProofs +decide (maxSteps := 2000000) [-selQ_sel, hokQ_of, h_1, h_2, h_3, h_4, h_5, h_6, m_8, q_9]
  · replace H := HS.cnd_f h_4 H
    try simp -implicitDefEqProofs +decide (maxSteps := 2000000) [-selQ_sel, hokQ_of, h_1, h_2, h_3, h_4]
    refine Hid.brV (fun h_10 => ?_) (fun h_10 => ?_)
    · replace H := HS.cnd_t h_10 H
      try simp -implicitDefEqProofs +decide (maxSteps := 2000000) [-selQ_sel, hokQ_of, h_1, h_2, h_3, h_4, h_10]
      refine Hid.brV (fun h_11 => ?_) (fun h_11 => ?_)
      · replace H := HS.cnd_t h_11 H
        try simp -implicitDefEqProofs +decide (maxSteps := 2000000) [-selQ_sel, hokQ_of, h_1, h_2, h_3, h_4, h_10, h_11]
        have hr := (HS.some H).symm; subst hr
        refine Hid.mk ⟨_, Wk.refl _, ?_⟩
        try simp -implicitDefEqProofs +decide (maxSteps := 2000000) [-selQ_sel, hokQ_of, h_1, h_2, h_3, h_4, h_10, h_11]
      · replace H := HS.cnd_f h_11 H
        try simp -implicitDefEqProofs +decide (maxSteps := 2000000) [-selQ_sel, hokQ_of, h_1, h_2, h_3, h_4, h_10, h_11]
        obtain ⟨⟨w13, w14⟩, h_12, H⟩ := HS.bnd H
        dsimp only at H
        try simp -implicitDefEqProofs +decide (maxSteps := 2000000) [-selQ_sel, hokQ_of, h_1, h_2, h_3, h_4, h_10, h_11, h_12]
        obtain ⟨v15, h_13, H⟩ := HS.bnd H
        have g_14 := idx_get h_13
        simp only [Int.reduceToNat] at g_14
        try simp -implicitDefEqProofs +decide (maxSteps := 2000000) [-selQ_sel, hokQ_of, h_1, h_2, h_3, h_4, h_10, h_11, h_12, h_13, g_14]
        obtain ⟨l16, h_15, H⟩ := HS.nam H
        have m_16 := congrArg (List.map eNode) h_15
        have q_17 := congrArg List.length h_15
        simp -implicitDefEqProofs at m_16 q_17
        try simp only [q_17] at m_16
        try simp only [q_17] at g_14
        try simp -implicitDefEqProofs +decide (maxSteps := 2000000) [-selQ_sel, hokQ_of, h_1, h_2, h_3, h_4, h_10, h_11, h_12, h_13, g_14, m_16, q_17]
        have hr := (HS.some H).symm; subst hr
        refine Hid.mk ⟨_, Wk.refl _, ?_⟩
        try simp -implicitDefEqProofs +decide (maxSteps := 2000000) [-selQ_sel, hokQ_of, h_1, h_2, h_3, h_4, h_10, h_11, h_12, h_13, g_14, m_16, q_17]
    · replace H := HS.cnd_f h_10 H
      try simp -implicitDefEqProofs +decide (maxSteps := 2000000) [-selQ_sel, hokQ_of, h_1, h_2, h_3, h_4, h_10]
      refine Hid.brV (fun h_18 => ?_) (fun h_18 => ?_)
      · replace H := HS.cnd_t h_18 H
        try simp -implicitDefEqProofs +decide (maxSteps := 2000000) [-selQ_sel, hokQ_of, h_1, h_2, h_3, h_4, h_10, h_18]
        obtain ⟨q, h_19, H⟩ := HS.bnd H
        refine Hid.mk (Tr.weak (s' := spec_l15Any_l0_S (w7.b, w7.i, w7.h, v4)) (Wk.ofk [0, 1, 3, 2] hk (by rfl) (by simp -implicitDefEqProofs [spec_l15Any_l0_S, h_1, h_2, h_3, h_4, h_10, h_18]) (by simp -implicitDefEqProofs [spec_l15Any_l0_S, h_1, h_2, h_3, h_4, h_10, h_18])) ?_)
        refine wp_loop_of (S := spec_l15Any_l0_S) (f := spec_l15Any_l0) (xt := spec_l15Any_l0_X) ?_ ?_ h_19 ?_
        · intro q; rcases q with ⟨y33, y34, y35, y36⟩ <;> simp [spec_l15Any_l0_X]
        · clear H h_19 q
          rintro ⟨x23, x24, x25, x26⟩ o R hf hR
          have H : HS (spec_l15Any_l0 (x23, x24, x25, x26)) o := hf
          clear hf; unfold spec_l15Any_l0 at H
          try simp -implicitDefEqProofs at H
          refine Tr.of_vc (cl := tabC [(71, spec_l15Scene_x), (48, spec_l15Copy_x), (42, spec_l01Below_x), (39, spec_l15AnyNode_x), (52, spec_l15CopyNode_x)]) (E := E0) [] (tab_cons k_spec_l15Scene (tab_cons k_spec_l15Copy (tab_cons k_spec_l01Below (tab_cons k_spec_l15AnyNode (tab_cons k_spec_l15CopyNode tab_nil))))) hm (by rw [hn]; decide +kernel) ?_
          try simp -implicitDefEqProofs +decide (maxSteps := 2000000) [-selQ_sel, hokQ_of, spec_l15Any_l0_S]
          refine Hid.selQ (fun h_20 => ?_) (fun h_20 => ?_)
          · replace H := HS.cnd_t h_20 H
            try simp -implicitDefEqProofs +decide (maxSteps := 2000000) [-selQ_sel, hokQ_of, h_20]
            have hr := (HS.some H).symm; subst hr
            exact Hid.mk ⟨(spec_l15Any_l0_X (x23, x24, x25, x26)).2, Wk.ofk [0, 1, 2, 3] hk (by rfl) (by simp -implicitDefEqProofs [spec_l15Any_l0_X, h_20]) (by simp -implicitDefEqProofs [spec_l15Any_l0_X, h_20]), hR⟩
          · replace H := HS.cnd_f h_20 H
            try simp -implicitDefEqProofs +decide (maxSteps := 2000000) [-selQ_sel, hokQ_of, h_20]
            obtain ⟨⟨w28, w29⟩, h_21, H⟩ := HS.bnd H
            dsimp only at H
            have k_22 := spec_l01Below_k 2 ((TL01Cur.mk x23 x24 x25).b) ((TL01Cur.mk x23 x24 x25).i) ((TL01Cur.mk x23 x24 x25).h)
            simp -implicitDefEqProofs [-spec_l01Below_k] at k_22
            try simp -implicitDefEqProofs +decide (maxSteps := 2000000) [-selQ_sel, hokQ_of, h_20, h_21, k_22]
            refine Hid.brV (fun h_23 => ?_) (fun h_23 => ?_)
            · replace H := HS.cnd_t h_23 H
              try simp -implicitDefEqProofs +decide (maxSteps := 2000000) [-selQ_sel, hokQ_of, h_20, h_21, k_22, h_23]
              have hr := (HS.some H).symm; subst hr
              exact Hid.mk ⟨(spec_l15Any_l0_X (w29.b, w29.i, w29.h, x26)).2, Wk.ofk [0, 1, 2, 3] hk (by rfl) (by simp -implicitDefEqProofs [spec_l15Any_l0_X, h_20, h_21, k_22, h_23]) (by simp -implicitDefEqProofs [spec_l15Any_l0_X, h_20, h_21, k_22, h_23]), hR⟩
            · replace H := HS.cnd_f h_23 H
              try simp -implicitDefEqProofs +decide (maxSteps := 2000000) [-selQ_sel, hokQ_of, h_20, h_21, k_22, h_23]
              obtain ⟨v30, h_24, H⟩ := HS.bnd H
              have g_25 := idx_get h_24
              simp only [Int.reduceToNat] at g_25
              try simp -implicitDefEqProofs +decide (maxSteps := 2000000) [-selQ_sel, hokQ_of, h_20, h_21, k_22, h_23, h_24, g_25]
              obtain ⟨v31, h_26, H⟩ := HS.bnd H
              try simp -implicitDefEqProofs +decide (maxSteps := 2000000) [-selQ_sel, hokQ_of, h_20, h_21, k_22, h_23, h_24, g_25, h_26]
              obtain ⟨h_27, H⟩ := HS.chkP H
              try simp -implicitDefEqProofs +decide (maxSteps := 2000000) [-selQ_sel, hokQ_of, h_20, h_21, k_22, h_23, h_24, g_25, h_26, h_27]
              obtain ⟨l32, h_28, H⟩ := HS.nam H
              have m_29 := congrArg (List.map eNode) h_28
              have q_30 := congrArg List.length h_28
              simp -implicitDefEqProofs at m_29 q_30
              try simp only [q_30] at m_29
              try simp only [q_30] at h_27
              try simp -implicitDefEqProofs +decide (maxSteps := 2000000) [-selQ_sel, hokQ_of, h_20, h_21, k_22, h_23, h_24, g_25, h_26, h_27, m_29, q_30]
              have hr := (HS.some H).symm; subst hr
              exact Hid.mk ⟨spec_l15Any_l0_S (w29.b, w29.i, w29.h, l32), Wk.ofk [0, 1, 2, 3] hk (by rfl) (by simp -implicitDefEqProofs [spec_l15Any_l0_S, h_20, h_21, k_22, h_23, h_24, g_25, h_26, h_27, m_29, q_30]) (by simp -implicitDefEqProofs [spec_l15Any_l0_S, h_20, h_21, k_22, h_23, h_24, g_25, h_26, h_27, m_29, q_30]), hR⟩
        · obtain ⟨y33, y34, y35, y36⟩ := q
          try dsimp only at H
          try simp -implicitDefEqProofs +decide (maxSteps := 2000000) [-selQ_sel, hokQ_of, h_1, h_2, h_3, h_4, h_10, h_18, spec_l15Any_l0_X]
          have hr := (HS.some H).symm; subst hr
          refine Hid.mk ⟨_, Wk.refl _, ?_⟩
          try simp -implicitDefEqProofs +decide (maxSteps := 2000000) [-selQ_sel, hokQ_of, h_1, h_2, h_3, h_4, h_10, h_18]
      · replace H := HS.cnd_f h_18 H
        try simp -implicitDefEqProofs +decide (maxSteps := 2000000) [-selQ_sel, hokQ_of, h_1, h_2, h_3, h_4, h_10, h_18]
        have hr := (HS.some H).symm; subst hr
        refine Hid.mk ⟨_, Wk.refl _, ?_⟩
        try simp -implicitDefEqProofs +decide (maxSteps := 2000000) [-selQ_sel, hokQ_of, h_1, h_2, h_3, h_4, h_10, h_18]
theorem spec_l15AnyNode_ok0 (hm : Try.prog.follows .mixedOrders = true) (k_spec_l01Below : Sound Try.prog 42 spec_l01Below_x) (k_spec_l15Node : Sound Try.prog 41 spec_l15Node_x) (k_spec_l15CopyNode : Sound Try.prog 52 spec_l15CopyNode_x) (k_spec_l01PickInt : Sound Try.prog 72 spec_l01PickInt_x) (k_spec_l04AnyMat : Sound Try.prog 73 spec_l04AnyMat_x) (k_spec_l06Any : Sound Try.prog 74 spec_l06Any_x) : Sound Try.prog 39 spec_l15AnyNode_x := by
  refine xOf_sound fun q r h => ?_
  revert h; revert r; revert q; intro a0 r h
  refine fn_ok E0 hm Try.func39 rfl (by decide +kernel) (by rfl) fun Γ hn hk => ?_
  dsimp only [spec_l15AnyNode_e, spec_l15AnyNode_v]
  replace hn : Γ.n = 60 := hn
  replace hk : Γ.k = 1 := hk
  have H : HS (spec_l15AnyNode a0) r := h
  clear h; unfold spec_l15AnyNode at H
  try simp -implicitDefEqProofs at H
  refine Tr.of_vc (cl := tabC [(42, spec_l01Below_x), (41, spec_l15Node_x), (52, spec_l15CopyNode_x), (72, spec_l01PickInt_x), (73, spec_l04AnyMat_x), (74, spec_l06Any_x)]) (E := E0) [] (tab_cons k_spec_l01Below (tab_cons k_spec_l15Node (tab_cons k_spec_l15CopyNode (tab_cons k_spec_l01PickInt (tab_cons k_spec_l04AnyMat (tab_cons k_spec_l06Any tab_nil)))))) hm (by rw [hn]; decide +kernel) ?_
  try simp -implicitDefEqProofs (maxSteps := 2000000) [-selQ_sel]
  obtain ⟨⟨w2, w3⟩, h_1, H⟩ := HS.bnd H
  dsimp only at H
  try simp -implicitDefEqProofs (maxSteps := 2000000) [-selQ_sel, h_1]
  obtain ⟨⟨w5, w6⟩, h_2, H⟩ := HS.bnd H
  dsimp only at H
  try simp -implicitDefEqProofs (maxSteps := 2000000) [-selQ_sel, h_1, h_2]
  obtain ⟨v7, h_3, H⟩ := HS.bnd H
  try simp -implicitDefEqProofs (maxSteps := 2000000) [-selQ_sel, h_1, h_2, h_3]
  obtain ⟨⟨w9, w10⟩, h_4, H⟩ := HS.bnd H
  dsimp only at H
  try simp -implicitDefEqProofs (maxSteps := 2000000) [-selQ_sel, h_1, h_2, h_3, h_4]
  refine Hid.brV (fun h_5 => ?_) (fun h_5 => ?_)
  · replace H := HS.cnd_t h_5 H
    try simp -implicitDefEqProofs (maxSteps := 2000000) [-selQ_sel, h_1, h_2, h_3, h_4, h_5]
    obtain ⟨⟨w12, w13⟩, h_6, H⟩ := HS.bnd H
    dsimp only at H
    have k_7 := spec_l01PickInt_k w10.b w10.i w10.h [0, (-1), 99, 100]
    simp -implicitDefEqProofs [-spec_l01PickInt_k] at k_7
    try simp -implicitDefEqProofs (maxSteps := 2000000) [-selQ_sel, h_1, h_2, h_3, h_4, h_5, h_6, k_7]
    have hr := (HS.some H).symm; subst hr
    refine Hid.mk ⟨_, Wk.refl _, ?_⟩
    try simp -implicitDefEqProofs (maxSteps := 2000000) [-selQ_sel, h_1, h_2, h_3, h_4, h_5, h_6, k_7]
  · replace H := HS.cnd_f h_5 H
    try simp -implicitDefEqProofs (maxSteps := 2000000) [-selQ_sel, h_1, h_2, h_3, h_4, h_5]
    refine Hid.brV (fun h_8 => ?_) (fun h_8 => ?_)
    · replace H := HS.cnd_t h_8 H
      try simp -implicitDefEqProofs (maxSteps := 2000000) [-selQ_sel, h_1, h_2, h_3, h_4, h_5, h_8]
      obtain ⟨⟨w15, w16⟩, h_9, H⟩ := HS.bnd H
      dsimp only at H
      have k_10 := spec_l01PickInt_k w10.b w10.i w10.h [(-1), v7.id, 3, 100]
      simp -implicitDefEqProofs [-spec_l01PickInt_k] at k_10
      try simp -implicitDefEqProofs (maxSteps := 2000000) [-selQ_sel, h_1, h_2, h_3, h_4, h_5, h_8, h_9, k_10]
      have hr := (HS.some H).symm; subst hr
      refine Hid.mk ⟨_, Wk.refl _, ?_⟩
      try simp -implicitDefEqProofs (maxSteps := 2000000) [-selQ_sel, h_1, h_2, h_3, h_4, h_5, h_8, h_9, k_10]
    · replace H := HS.cnd_f h_8 H
      try simp -implicitDefEqProofs (maxSteps := 2000000) [-selQ_sel, h_1, h_2, h_3, h_4, h_5, h_8]
      refine Hid.brV (fun h_11 => ?_) (fun h_11 => ?_)
      · replace H := HS.cnd_t h_11 H
        try simp -implicitDefEqProofs (maxSteps := 2000000) [-selQ_sel, h_1, h_2, h_3, h_4, h_5, h_8, h_11]
        obtain ⟨⟨w18, w19⟩, h_12, H⟩ := HS.bnd H
        dsimp only at H
        try simp -implicitDefEqProofs (maxSteps := 2000000) [-selQ_sel, h_1, h_2, h_3, h_4, h_5, h_8, h_11, h_12]
        have hr := (HS.some H).symm; subst hr
        refine Hid.mk ⟨_, Wk.refl _, ?_⟩
        try simp -implicitDefEqProofs (maxSteps := 2000000) [-selQ_sel, h_1, h_2, h_3, h_4, h_5, h_8, h_11, h_12]
      · replace H := HS.cnd_f h_11 H
        try simp -implicitDefEqProofs (maxSteps := 2000000) [-selQ_sel, h_1, h_2, h_3, h_4, h_5, h_8, h_11]
        refine Hid.brV (fun h_13 => ?_) (fun h_13 => ?_)
        · replace H := HS.cnd_t h_13 H
          try simp -implicitDefEqProofs (maxSteps := 2000000) [-selQ_sel, h_1, h_2, h_3, h_4, h_5, h_8, h_11, h_13]
          obtain ⟨⟨w21, w22⟩, h_14, H⟩ := HS.bnd H
          dsimp only at H
          have k_15 := spec_l01PickInt_k w10.b w10.i w10.h [(-1), 256]
          simp -implicitDefEqProofs [-spec_l01PickInt_k] at k_15
          try simp -implicitDefEqProofs (maxSteps := 2000000) [-selQ_sel, h_1, h_2, h_3, h_4, h_5, h_8, h_11, h_13, h_14, k_15]
          have hr := (HS.some H).symm; subst hr
          refine Hid.mk ⟨_, Wk.refl _, ?_⟩
          try simp -implicitDefEqProofs (maxSteps := 2000000) [-selQ_sel, h_1, h_2, h_3, h_4, h_5, h_8, h_11, h_13, h_14, k_15]
        · replace H := HS.cnd_f h_13 H
          try simp -implicitDefEqProofs (maxSteps := 2000000) [-selQ_sel, h_1, h_2, h_3, h_4, h_5, h_8, h_11, h_13]
          refine Hid.brV (fun h_16 => ?_) (fun h_16 => ?_)
          · replace H := HS.cnd_t h_16 H
            try simp -implicitDefEqProofs (maxSteps := 2000000) [-selQ_sel, h_1, h_2, h_3, h_4, h_5, h_8, h_11, h_13, h_16]
            obtain ⟨⟨w24, w25⟩, h_17, H⟩ := HS.bnd H
            dsimp only at H
            have k_18 := spec_l01PickInt_k w10.b w10.i w10.h [(-1), 2049]
            simp -implicitDefEqProofs [-spec_l01PickInt_k] at k_18
            try simp -implicitDefEqProofs (maxSteps := 2000000) [-selQ_sel, h_1, h_2, h_3, h_4, h_5, h_8, h_11, h_13, h_16, h_17, k_18]
            have hr := (HS.some H).symm; subst hr
            refine Hid.mk ⟨_, Wk.refl _, ?_⟩
            try simp -implicitDefEqProofs (maxSteps := 2000000) [-selQ_sel, h_1, h_2, h_3, h_4, h_5, h_8, h_11, h_13, h_16, h_17, k_18]
          · replace H := HS.cnd_f h_16 H
            try simp -implicitDefEqProofs (maxSteps := 2000000) [-selQ_sel, h_1, h_2, h_3, h_4, h_5, h_8, h_11, h_13, h_16]
            refine Hid.brV (fun h_19 => ?_) (fun h_19 => ?_)
            · replace H := HS.cnd_t h_19 H
              try simp -implicitDefEqProofs (maxSteps := 2000000) [-selQ_sel, h_1, h_2, h_3, h_4, h_5, h_8, h_11, h_13, h_16, h_19]
              have hr := (HS.some H).symm; subst hr
              refine Hid.mk ⟨_, Wk.refl _, ?_⟩
              try simp -implicitDefEqProofs (maxSteps := 2000000) [-selQ_sel, h_1, h_2, h_3, h_4, h_5, h_8, h_11, h_13, h_16, h_19]
            · replace H := HS.cnd_f h_19 H
              try simp -implicitDefEqProofs (maxSteps := 2000000) [-selQ_sel, h_1, h_2, h_3, h_4, h_5, h_8, h_11, h_13, h_16, h_19]
              refine Hid.brV (fun h_20 => ?_) (fun h_20 => ?_)
              · replace H := HS.cnd_t h_20 H
                try simp -implicitDefEqProofs (maxSteps := 2000000) [-selQ_sel, h_1, h_2, h_3, h_4, h_5, h_8, h_11, h_13, h_16, h_19, h_20]
                obtain ⟨⟨w27, w28⟩, h_21, H⟩ := HS.bnd H
                dsimp only at H
                try simp -implicitDefEqProofs (maxSteps := 2000000) [-selQ_sel, h_1, h_2, h_3, h_4, h_5, h_8, h_11, h_13, h_16, h_19, h_20, h_21]
                have hr := (HS.some H).symm; subst hr
                refine Hid.mk ⟨_, Wk.refl _, ?_⟩
                try simp -implicitDefEqProofs (maxSteps := 2000000) [-selQ_sel, h_1, h_2, h_3, h_4, h_5, h_8, h_11, h_13, h_16, h_19, h_20, h_21]
              · replace H := HS.cnd_f h_20 H
                try simp -implicitDefEqProofs (maxSteps := 2000000) [-selQ_sel, h_1, h_2, h_3, h_4, h_5, h_8, h_11, h_13, h_16, h_19, h_20]
                refine Hid.brV (fun h_22 => ?_) (fun h_22 => ?_)
                · replace H := HS.cnd_t h_22 H
                  try simp -implicitDefEqProofs (maxSteps := 2000000) [-selQ_sel, h_1, h_2, h_3, h_4, h_5, h_8, h_11, h_13, h_16, h_19, h_20, h_22]
                  obtain ⟨⟨w30, w31⟩, h_23, H⟩ := HS.bnd H
                  dsimp only at H
                  try simp -implicitDefEqProofs (maxSteps := 2000000) [-selQ_sel, h_1, h_2, h_3, h_4, h_5, h_8, h_11, h_13, h_16, h_19, h_20, h_22, h_23]
                  have hr := (HS.some H).symm; subst hr
                  refine Hid.mk ⟨_, Wk.refl _, ?_⟩
                  try simp -implicitDefEqProofs (maxSteps := 2000000) [-selQ_sel, h_1, h_2, h_3, h_4, h_5, h_8, h_11, h_13, h_16, h_19, h_20, h_22, h_23]
                · replace H := HS.cnd_f h_22 H
                  try simp -implicitDefEqProofs (maxSteps := 2000000) [-selQ_sel, h_1, h_2, h_3, h_4, h_5, h_8, h_11, h_13, h_16, h_19, h_20, h_22]
                  have hr := (HS.some H).symm; subst hr
                  refine Hid.mk ⟨_, Wk.refl _, ?_⟩
                  try simp -implicitDefEqProofs (maxSteps := 2000000) [-selQ_sel, h_1, h_2, h_3, h_4, h_5, h_8, h_11, h_13, h_16, h_19, h_20, h_22]
theorem spec_l06Any_ok0 (hm : Try.prog.follows .mixedOrders = true) (k_spec_l06Path : Sound Try.prog 77 spec_l06Path_x) (k_spec_l01Below : Sound Try.prog 42 spec_l01Below_x) (k_spec_l04AnyPoint : Sound Try.prog 105 spec_l04AnyPoint_x) : Sound Try.prog 74 spec_l06Any_x := by
  refine xOf_sound fun q r h => ?_
  revert h; revert r; revert q; intro a0 r h
  refine fn_ok E0 hm Try.func74 rfl (by decide +kernel) (by rfl) fun Γ hn hk => ?_
  dsimp only [spec_l06Any_e, spec_l06Any_v]
  replace hn : Γ.n = 46 := hn
  replace hk : Γ.k = 1 := hk
  have H : HS (spec_l06Any a0) r := h
  clear h; unfold spec_l06Any at H
  try simp -implicitDefEqProofs at H
  refine Tr.of_vc (cl := tabC [(77, spec_l06Path_x), (42, spec_l01Below_x), (105, spec_l04AnyPoint_x)]) (E := E0) [] (tab_cons k_spec_l06Path (tab_cons k_spec_l01Below (tab_cons k_spec_l04AnyPoint tab_nil))) hm (by rw [hn]; decide +kernel) ?_
  try simp -implicitDefEqProofs +decide (maxSteps := 2000000) [-selQ_sel, hokQ_of]
  obtain ⟨⟨w2, w3, w4⟩, h_1, H⟩ := HS.bnd H
  dsimp only at H
  try simp -implicitDefEqProofs +decide (maxSteps := 2000000) [-selQ_sel, hokQ_of, h_1]
  obtain ⟨h_2, H⟩ := HS.chkP H
  try simp -implicitDefEqProofs +decide (maxSteps := 2000000) [-selQ_sel, hokQ_of, h_1, h_2]
  obtain ⟨l5, h_3, H⟩ := HS.nam H
  have m_4 := congrArg (List.map (AV.int .i64)) h_3
  have q_5 := congrArg List.length h_3
  simp -implicitDefEqProofs at m_4 q_5
  try simp only [q_5] at m_4
  try simp only [q_5] at h_2
  try simp -implicitDefEqProofs +decide (maxSteps := 2000000) [-selQ_sel, hokQ_of, h_1, h_2, m_4, q_5]
  obtain ⟨h_6, H⟩ := HS.chkP H
  try simp -implicitDefEqProofs +decide (maxSteps := 2000000) [-selQ_sel, hokQ_of, h_1, h_2, m_4, q_5, h_6]
  obtain ⟨l6, h_7, H⟩ := HS.nam H
  have m_8 := congrArg (List.map ePoint) h_7
  have q_9 := congrArg List.length h_7
  simp -implicitDefEqProofs at m_8 q_9
  try simp only [q_9] at m_8
  try simp only [q_9] at h_6
  try simp -implicitDefEqProofs +decide (maxSteps := 2000000) [-selQ_sel, hokQ_of, h_1, h_2, m_4, q_5, h_6, m_8, q_9]
  obtain ⟨⟨w8, w9⟩, h_10, H⟩ := HS.bnd H
  dsimp only at H
  try simp -implicitDefEqProofs +decide (maxSteps := 2000000) [-selQ_sel, hokQ_of, h_1, h_2, m_4, q_5, h_6, m_8, q_9, h_10]
  refine Hid.brV (fun h_11 => ?_) (fun h_11 => ?_)
  · replace H := HS.cnd_t h_11 H
    try simp -implicitDefEqProofs +decide (maxSteps := 2000000) [-selQ_sel, hokQ_of, h_1, h_2, m_4, q_5, h_6, m_8, q_9, h_10, h_11]
    obtain ⟨⟨w11, w12⟩, h_12, H⟩ := HS.bnd H
    dsimp only at H
    try simp -implicitDefEqProofs +decide (maxSteps := 2000000) [-selQ_sel, hokQ_of, h_1, h_2, m_4, q_5, h_6, m_8, q_9, h_10, h_11, h_12]
    obtain ⟨⟨w14, w15⟩, h_13, H⟩ := HS.bnd H
    dsimp only at H
    try simp -implicitDefEqProofs +decide (maxSteps := 2000000) [-selQ_sel, hokQ_of, h_1, h_2, m_4, q_5, h_6, m_8, q_9, h_10, h_11, h_12, h_13]
    obtain ⟨v16, h_14, H⟩ := HS.bnd H
    have g_15 := idx_get h_14
    try simp -implicitDefEqProofs +decide (maxSteps := 2000000) [-selQ_sel, hokQ_of, h_1, h_2, m_4, q_5, h_6, m_8, q_9, h_10, h_11, h_12, h_13, h_14, g_15]
    obtain ⟨l17, h_16, H⟩ := HS.nam H
    have m_17 := congrArg (List.map (AV.int .i64)) h_16
    have q_18 := congrArg List.length h_16
    simp -implicitDefEqProofs at m_17 q_18
    try simp only [q_18] at m_17
    try simp only [q_18] at g_15
    try simp -implicitDefEqProofs +decide (maxSteps := 2000000) [-selQ_sel, hokQ_of, h_1, h_2, m_4, q_5, h_6, m_8, q_9, h_10, h_11, h_12, h_13, h_14, g_15, m_17, q_18]
    have hr := (HS.some H).symm; subst hr
    refine Hid.mk ⟨_, Wk.refl _, ?_⟩
    try simp -implicitDefEqProofs +decide (maxSteps := 2000000) [-selQ_sel, hokQ_of, h_1, h_2, m_4, q_5, h_6, m_8, q_9, h_10, h_11, h_12, h_13, h_14, g_15, m_17, q_18]
  · replace H := HS.cnd_f h_11 H
    try simp -implicitDefEqProofs +decide (maxSteps := 2000000) [-selQ_sel, hokQ_of, h_1, h_2, m_4, q_5, h_6, m_8, q_9, h_10, h_11]
    refine Hid.brV (fun h_19 => ?_) (fun h_19 => ?_)
    · replace H := HS.cnd_t h_19 H
      try simp -implicitDefEqProofs +decide (maxSteps := 2000000) [-selQ_sel, hokQ_of, h_1, h_2, m_4, q_5, h_6, m_8, q_9, h_10, h_11, h_19]
      obtain ⟨v18, h_20, H⟩ := HS.bnd H
      have s_21 := (slc_spec h_20).1
      have s_22 := slc_fit h_20
      have s_23 := slc_map (e := ePoint) h_20
      have s_24 := (slc_spec h_20).2.1
      simp -implicitDefEqProofs at s_21 s_22 s_23 s_24
      try simp only [s_24] at s_22 s_23
      try simp -implicitDefEqProofs +decide (maxSteps := 2000000) [-selQ_sel, hokQ_of, h_1, h_2, m_4, q_5, h_6, m_8, q_9, h_10, h_11, h_19, h_20, s_21, s_22, s_23, s_24]
      have hr := (HS.some H).symm; subst hr
      refine Hid.mk ⟨_, Wk.refl _, ?_⟩
      try simp -implicitDefEqProofs +decide (maxSteps := 2000000) [-selQ_sel, hokQ_of, h_1, h_2, m_4, q_5, h_6, m_8, q_9, h_10, h_11, h_19, h_20, s_21, s_22, s_23, s_24]
    · replace H := HS.cnd_f h_19 H
      try simp -implicitDefEqProofs +decide (maxSteps := 2000000) [-selQ_sel, hokQ_of, h_1, h_2, m_4, q_5, h_6, m_8, q_9, h_10, h_11, h_19]
      refine Hid.brV (fun h_25 => ?_) (fun h_25 => ?_)
      · replace H := HS.cnd_t h_25 H
        try simp -implicitDefEqProofs +decide (maxSteps := 2000000) [-selQ_sel, hokQ_of, h_1, h_2, m_4, q_5, h_6, m_8, q_9, h_10, h_11, h_19, h_25]
        obtain ⟨⟨w20, w21⟩, h_26, H⟩ := HS.bnd H
        dsimp only at H
        try simp -implicitDefEqProofs +decide (maxSteps := 2000000) [-selQ_sel, hokQ_of, h_1, h_2, m_4, q_5, h_6, m_8, q_9, h_10, h_11, h_19, h_25, h_26]
        obtain ⟨v22, h_27, H⟩ := HS.bnd H
        have g_28 := idx_get h_27
        simp only [Int.reduceToNat] at g_28
        try simp -implicitDefEqProofs +decide (maxSteps := 2000000) [-selQ_sel, hokQ_of, h_1, h_2, m_4, q_5, h_6, m_8, q_9, h_10, h_11, h_19, h_25, h_26, h_27, g_28]
        obtain ⟨l23, h_29, H⟩ := HS.nam H
        have m_30 := congrArg (List.map ePoint) h_29
        have q_31 := congrArg List.length h_29
        simp -implicitDefEqProofs at m_30 q_31
        try simp only [q_31] at m_30
        try simp only [q_31] at g_28
        try simp -implicitDefEqProofs +decide (maxSteps := 2000000) [-selQ_sel, hokQ_of, h_1, h_2, m_4, q_5, h_6, m_8, q_9, h_10, h_11, h_19, h_25, h_26, h_27, g_28, m_30, q_31]
        have hr := (HS.some H).symm; subst hr
        refine Hid.mk ⟨_, Wk.refl _, ?_⟩
        try simp -implicitDefEqProofs +decide (maxSteps := 2000000) [-selQ_sel, hokQ_of, h_1, h_2, m_4, q_5, h_6, m_8, q_9, h_10, h_11, h_19, h_25, h_26, h_27, g_28, m_30, q_31]
      · replace H := HS.cnd_f h_25 H
        try simp -implicitDefEqProofs +decide (maxSteps := 2000000) [-selQ_sel, hokQ_of, h_1, h_2, m_4, q_5, h_6, m_8, q_9, h_10, h_11, h_19, h_25]
        refine Hid.brV (fun h_32 => ?_) (fun h_32 => ?_)
        · replace H := HS.cnd_t h_32 H
          try simp -implicitDefEqProofs +decide (maxSteps := 2000000) [-selQ_sel, hokQ_of, h_1, h_2, m_4, q_5, h_6, m_8, q_9, h_10, h_11, h_19, h_25, h_32]
          have hr := (HS.some H).symm; subst hr
          refine Hid.mk ⟨_, Wk.refl _, ?_⟩
          try simp -implicitDefEqProofs +decide (maxSteps := 2000000) [-selQ_sel, hokQ_of, h_1, h_2, m_4, q_5, h_6, m_8, q_9, h_10, h_11, h_19, h_25, h_32]
        · replace H := HS.cnd_f h_32 H
          try simp -implicitDefEqProofs +decide (maxSteps := 2000000) [-selQ_sel, hokQ_of, h_1, h_2, m_4, q_5, h_6, m_8, q_9, h_10, h_11, h_19, h_25, h_32]
          have hr := (HS.some H).symm; subst hr
          refine Hid.mk ⟨_, Wk.refl _, ?_⟩
          try simp -implicitDefEqProofs +decide (maxSteps := 2000000) [-selQ_sel, hokQ_of, h_1, h_2, m_4, q_5, h_6, m_8, q_9, h_10, h_11, h_19, h_25, h_32]
theorem impl_DepthOf_ok0 (hm : Try.prog.follows .mixedOrders = true) (k_impl_NodeAt : Sound Try.prog 44 impl_NodeAt_x) : Sound Try.prog 57 impl_DepthOf_x := by
  refine xOf_sound fun q r h => ?_
  obtain ⟨a0, a1⟩ := q
  refine fn_ok E0 hm Try.func57 rfl (by decide +kernel) (by rfl) fun Γ hn hk => ?_
  dsimp only [impl_DepthOf_e, impl_DepthOf_v]
  replace hn : Γ.n = 27 := hn
  replace hk : Γ.k = 0 := hk
  have H : HS (impl_DepthOf a0 a1) r := h
  clear h; unfold impl_DepthOf at H
  try simp -implicitDefEqProofs at H
  refine Tr.of_vc (cl := tabC [(44, impl_NodeAt_x)]) (E := E0) [] (tab_cons k_impl_NodeAt tab_nil) hm (by rw [hn]; decide +kernel) ?_
  try simp -implicitDefEqProofs (maxSteps := 2000000) [-selQ_sel]
  refine Hid.brV (fun h_1 => ?_) (fun h_1 => ?_)
  · replace H := HS.cnd_t h_1 H
    try simp -implicitDefEqProofs (maxSteps := 2000000) [-selQ_sel, h_1]
    have hr := (HS.some H).symm; subst hr
    refine Hid.mk ⟨_, Wk.refl _, ?_⟩
    try simp -implicitDefEqProofs (maxSteps := 2000000) [-selQ_sel, h_1]
  · replace H := HS.cnd_f h_1 H
    try simp -implicitDefEqProofs (maxSteps := 2000000) [-selQ_sel, h_1]
    obtain ⟨q, h_2, H⟩ := HS.bnd H
    refine Hid.mk (Tr.weak (s' := (impl_DepthOf_l0_S a0) (a1, 1)) (Wk.ofk [0] hk (by rfl) (by simp -implicitDefEqProofs [impl_DepthOf_l0_S, h_1]) (by simp -implicitDefEqProofs [impl_DepthOf_l0_S, h_1])) ?_)
    refine wp_loop_of (S := (impl_DepthOf_l0_S a0)) (f := (impl_DepthOf_l0 a0)) (xt := (impl_DepthOf_l0_X a0)) ?_ ?_ h_2 ?_
    · intro q; rcases q with y7 | ⟨⟩ <;> simp [impl_DepthOf_l0_X]
    · clear H h_2 q
      rintro ⟨x3, x4⟩ o R hf hR
      have H : HS (impl_DepthOf_l0 a0 (x3, x4)) o := hf
      clear hf; unfold impl_DepthOf_l0 at H
      try simp -implicitDefEqProofs at H
      refine Tr.of_vc (cl := tabC [(44, impl_NodeAt_x)]) (E := E0) [] (tab_cons k_impl_NodeAt tab_nil) hm (by rw [hn]; decide +kernel) ?_
      try simp -implicitDefEqProofs (maxSteps := 2000000) [-selQ_sel, impl_DepthOf_l0_S]
      refine Hid.brV (fun h_3 => ?_) (fun h_3 => ?_)
      · replace H := HS.cnd_t h_3 H
        try simp -implicitDefEqProofs (maxSteps := 2000000) [-selQ_sel, h_3]
        obtain ⟨v5, h_4, H⟩ := HS.bnd H
        try simp -implicitDefEqProofs (maxSteps := 2000000) [-selQ_sel, h_3, h_4]
        refine Hid.brV (fun h_5 => ?_) (fun h_5 => ?_)
        · replace H := HS.cnd_t h_5 H
          try simp -implicitDefEqProofs (maxSteps := 2000000) [-selQ_sel, h_3, h_4, h_5]
          obtain ⟨v6, h_6, H⟩ := HS.bnd H
          try simp -implicitDefEqProofs (maxSteps := 2000000) [-selQ_sel, h_3, h_4, h_5, h_6]
          refine Hid.brV (fun h_7 => ?_) (fun h_7 => ?_)
          · replace H := HS.cnd_t h_7 H
            try simp -implicitDefEqProofs (maxSteps := 2000000) [-selQ_sel, h_3, h_4, h_5, h_6, h_7]
            have hr := (HS.some H).symm; subst hr
            exact Hid.mk ⟨(impl_DepthOf_l0_X a0 (.inl x4)).2, Wk.ofk [] hk (by rfl) (by simp -implicitDefEqProofs [impl_DepthOf_l0_X, h_3, h_4, h_5, h_6, h_7]) (by simp -implicitDefEqProofs [impl_DepthOf_l0_X, h_3, h_4, h_5, h_6, h_7]), hR⟩
          · replace H := HS.cnd_f h_7 H
            try simp -implicitDefEqProofs (maxSteps := 2000000) [-selQ_sel, h_3, h_4, h_5, h_6, h_7]
            have hr := (HS.some H).symm; subst hr
            exact Hid.mk ⟨impl_DepthOf_l0_S a0 (v6.parent, (IntKind.i64.wrap (x4 + 1))), Wk.ofk [0] hk (by rfl) (by simp -implicitDefEqProofs [impl_DepthOf_l0_S, h_3, h_4, h_5, h_6, h_7]) (by simp -implicitDefEqProofs [impl_DepthOf_l0_S, h_3, h_4, h_5, h_6, h_7]), hR⟩
        · replace H := HS.cnd_f h_5 H
          try simp -implicitDefEqProofs (maxSteps := 2000000) [-selQ_sel, h_3, h_4, h_5]
          have hr := (HS.some H).symm; subst hr
          exact Hid.mk ⟨(impl_DepthOf_l0_X a0 (.inl 0)).2, Wk.ofk [] hk (by rfl) (by simp -implicitDefEqProofs [impl_DepthOf_l0_X, h_3, h_4, h_5]) (by simp -implicitDefEqProofs [impl_DepthOf_l0_X, h_3, h_4, h_5]), hR⟩
      · replace H := HS.cnd_f h_3 H
        try simp -implicitDefEqProofs (maxSteps := 2000000) [-selQ_sel, h_3]
        have hr := (HS.some H).symm; subst hr
        exact Hid.mk ⟨(impl_DepthOf_l0_X a0 (.inr ())).2, Wk.ofk [] hk (by rfl) (by simp -implicitDefEqProofs [impl_DepthOf_l0_X, h_3]) (by simp -implicitDefEqProofs [impl_DepthOf_l0_X, h_3]), hR⟩
    · rcases q with y7 | ⟨⟩
      · dsimp only at H
        try simp -implicitDefEqProofs (maxSteps := 2000000) [-selQ_sel, h_1, impl_DepthOf_l0_X]
        have hr := (HS.some H).symm; subst hr
        refine Hid.mk ⟨_, Wk.refl _, ?_⟩
        try simp -implicitDefEqProofs (maxSteps := 2000000) [-selQ_sel, h_1]
      · dsimp only at H
        try simp -implicitDefEqProofs (maxSteps := 2000000) [-selQ_sel, h_1, impl_DepthOf_l0_X]
        have hr := (HS.some H).symm; subst hr
        refine Hid.mk ⟨_, Wk.refl _, ?_⟩
        try simp -implicitDefEqProofs (maxSteps := 2000000) [-selQ_sel, h_1]
theorem laws_samePoints_ok0 (hm : Try.prog.follows .mixedOrders = true) : Sound Try.prog 99 laws_samePoints_x := by
  refine xOf_sound fun q r h => ?_
  obtain ⟨a0, a1⟩ := q
  refine fn_ok E0 hm Try.func99 rfl (by decide +kernel) (by rfl) fun Γ hn hk => ?_
  dsimp only [laws_samePoints_e, laws_samePoints_v]
  replace hn : Γ.n = 26 := hn
  replace hk : Γ.k = 0 := hk
  have H : HS (laws_samePoints a0 a1) r := h
  clear h; unfold laws_samePoints at H
  try simp -implicitDefEqProofs at H
  refine Tr.of_vc (cl := tabC []) (E := E0) [] tab_nil hm (by rw [hn]; decide +kernel) ?_
  try simp -implicitDefEqProofs +decide (maxSteps := 2000000) [-selQ_sel, hokQ_of]
  refine Hid.brV (fun h_1 => ?_) (fun h_1 => ?_)
  · replace H := HS.cnd_t h_1 H
    try simp -implicitDefEqProofs +decide (maxSteps := 2000000) [-selQ_sel, hokQ_of, h_1]
    obtain ⟨q, h_2, H⟩ := HS.bnd H
    refine Hid.mk (Tr.weak (s' := (laws_samePoints_l0_S a0 a1) 0) (Wk.ofk [] hk (by rfl) (by simp -implicitDefEqProofs [laws_samePoints_l0_S, h_1]) (by simp -implicitDefEqProofs [laws_samePoints_l0_S, h_1])) ?_)
    refine wp_loop_of (S := (laws_samePoints_l0_S a0 a1)) (f := (laws_samePoints_l0 a0 a1)) (xt := (laws_samePoints_l0_X a0 a1)) ?_ ?_ h_2 ?_
    · intro q; rcases q with ⟨⟩ | ⟨⟩ <;> simp [laws_samePoints_l0_X]
    · clear H h_2 q
      rintro x3 o R hf hR
      have H : HS (laws_samePoints_l0 a0 a1 x3) o := hf
      clear hf; unfold laws_samePoints_l0 at H
      try simp -implicitDefEqProofs at H
      refine Tr.of_vc (cl := tabC []) (E := E0) [] tab_nil hm (by rw [hn]; decide +kernel) ?_
      try simp -implicitDefEqProofs +decide (maxSteps := 2000000) [-selQ_sel, hokQ_of, laws_samePoints_l0_S]
      refine Hid.brV (fun h_3 => ?_) (fun h_3 => ?_)
      · replace H := HS.cnd_t h_3 H
        try simp -implicitDefEqProofs +decide (maxSteps := 2000000) [-selQ_sel, hokQ_of, h_3]
        have hr := (HS.some H).symm; subst hr
        exact Hid.mk ⟨(laws_samePoints_l0_X a0 a1 (.inl ())).2, Wk.ofk [] hk (by rfl) (by simp -implicitDefEqProofs [laws_samePoints_l0_X, h_3]) (by simp -implicitDefEqProofs [laws_samePoints_l0_X, h_3]), hR⟩
      · replace H := HS.cnd_f h_3 H
        try simp -implicitDefEqProofs +decide (maxSteps := 2000000) [-selQ_sel, hokQ_of, h_3]
        obtain ⟨v4, h_4, H⟩ := HS.bnd H
        try simp -implicitDefEqProofs +decide (maxSteps := 2000000) [-selQ_sel, hokQ_of, h_3, h_4]
        obtain ⟨v5, h_5, H⟩ := HS.bnd H
        try simp -implicitDefEqProofs +decide (maxSteps := 2000000) [-selQ_sel, hokQ_of, h_3, h_4, h_5]
        refine Hid.brV (fun h_6 => ?_) (fun h_6 => ?_)
        · replace H := HS.cnd_t h_6 H
          try simp -implicitDefEqProofs +decide (maxSteps := 2000000) [-selQ_sel, hokQ_of, h_3, h_4, h_5, h_6]
          have hr := (HS.some H).symm; subst hr
          exact Hid.mk ⟨laws_samePoints_l0_S a0 a1 (IntKind.i64.wrap (x3 + 1)), Wk.ofk [] hk (by rfl) (by simp -implicitDefEqProofs [laws_samePoints_l0_S, h_3, h_4, h_5, h_6]) (by simp -implicitDefEqProofs [laws_samePoints_l0_S, h_3, h_4, h_5, h_6]), hR⟩
        · replace H := HS.cnd_f h_6 H
          try simp -implicitDefEqProofs +decide (maxSteps := 2000000) [-selQ_sel, hokQ_of, h_3, h_4, h_5, h_6]
          have hr := (HS.some H).symm; subst hr
          exact Hid.mk ⟨(laws_samePoints_l0_X a0 a1 (.inr ())).2, Wk.ofk [] hk (by rfl) (by simp -implicitDefEqProofs [laws_samePoints_l0_X, h_3, h_4, h_5, h_6]) (by simp -implicitDefEqProofs [laws_samePoints_l0_X, h_3, h_4, h_5, h_6]), hR⟩
    · rcases q with ⟨⟩ | ⟨⟩
      · dsimp only at H
        try simp -implicitDefEqProofs +decide (maxSteps := 2000000) [-selQ_sel, hokQ_of, h_1, laws_samePoints_l0_X]
        have hr := (HS.some H).symm; subst hr
        refine Hid.mk ⟨_, Wk.refl _, ?_⟩
        try simp -implicitDefEqProofs +decide (maxSteps := 2000000) [-selQ_sel, hokQ_of, h_1]
      · dsimp only at H
        try simp -implicitDefEqProofs +decide (maxSteps := 2000000) [-selQ_sel, hokQ_of, h_1, laws_samePoints_l0_X]
        have hr := (HS.some H).symm; subst hr
        refine Hid.mk ⟨_, Wk.refl _, ?_⟩
        try simp -implicitDefEqProofs +decide (maxSteps := 2000000) [-selQ_sel, hokQ_of, h_1]
  · replace H := HS.cnd_f h_1 H
    try simp -implicitDefEqProofs +decide (maxSteps := 2000000) [-selQ_sel, hokQ_of, h_1]
    have hr := (HS.some H).symm; subst hr
    refine Hid.mk ⟨_, Wk.refl _, ?_⟩
    try simp -implicitDefEqProofs +decide (maxSteps := 2000000) [-selQ_sel, hokQ_of, h_1]
theorem spec_RectPath_ok0 (hm : Try.prog.follows .mixedOrders = true) (k_spec_Empty : Sound Try.prog 123 spec_Empty_x) (k_spec_PointOk : Sound Try.prog 117 spec_PointOk_x) : Sound Try.prog 107 spec_RectPath_x := by
  refine xOf_sound fun q r h => ?_
  revert h; revert r; revert q; intro a0 r h
  refine fn_ok E0 hm Try.func107 rfl (by decide +kernel) (by rfl) fun Γ hn hk => ?_
  dsimp only [spec_RectPath_e, spec_RectPath_v]
  replace hn : Γ.n = 45 := hn
  replace hk : Γ.k = 0 := hk
  have H : HS (spec_RectPath a0) r := h
  clear h; unfold spec_RectPath at H
  try simp -implicitDefEqProofs at H
  refine Tr.of_vc (cl := tabC [(123, spec_Empty_x), (117, spec_PointOk_x)]) (E := E0) [] (tab_cons k_spec_Empty (tab_cons k_spec_PointOk tab_nil)) hm (by rw [hn]; decide +kernel) ?_
  try simp -implicitDefEqProofs (maxSteps := 2000000) [-selQ_sel]
  obtain ⟨v1, h_1, H⟩ := HS.bnd H
  try simp -implicitDefEqProofs (maxSteps := 2000000) [-selQ_sel, h_1]
  refine Hid.selQ (fun h_2 => ?_) (fun h_2 => ?_)
  · replace H := HS.cnd_t h_2 H
    try simp -implicitDefEqProofs (maxSteps := 2000000) [-selQ_sel, h_1, h_2]
    have hr := (HS.some H).symm; subst hr
    refine Hid.mk ⟨⟨[(2, AV.optr 0 0 2)], [(0, Ob.box [AV.osl 1 0 0 0, AV.osl 2 0 0 0]), (1, Ob.arr 1 (List.map (AV.int .i64) []) false), (2, Ob.arr 2 (List.map ePoint []) false)], 3⟩, Wk.ofk [1, 3, 4] hk (by rfl) (by simp -implicitDefEqProofs [h_1, h_2]) (by simp -implicitDefEqProofs [h_1, h_2]), ?_⟩
    try simp -implicitDefEqProofs (maxSteps := 2000000) [-selQ_sel, h_1, h_2]
  · replace H := HS.cnd_f h_2 H
    try simp -implicitDefEqProofs (maxSteps := 2000000) [-selQ_sel, h_1, h_2]
    obtain ⟨v2, h_3, H⟩ := HS.bnd H
    try simp -implicitDefEqProofs (maxSteps := 2000000) [-selQ_sel, h_1, h_2, h_3]
    refine Hid.selQ (fun h_4 => ?_) (fun h_4 => ?_)
    · replace H := HS.cnd_t h_4 H
      try simp -implicitDefEqProofs (maxSteps := 2000000) [-selQ_sel, h_1, h_2, h_3, h_4]
      obtain ⟨v3, h_5, H⟩ := HS.bnd H
      try simp -implicitDefEqProofs (maxSteps := 2000000) [-selQ_sel, h_1, h_2, h_3, h_4, h_5]
      refine Hid.brV (fun h_6 => ?_) (fun h_6 => ?_)
      · replace H := HS.cnd_t h_6 H
        try simp -implicitDefEqProofs (maxSteps := 2000000) [-selQ_sel, h_1, h_2, h_3, h_4, h_5, h_6]
        have hr := (HS.some H).symm; subst hr
        refine Hid.mk ⟨⟨[(2, AV.optr 0 0 2)], [(0, Ob.box [AV.osl 1 0 (List.length [1, 2, 2, 2, 5]) (List.length [1, 2, 2, 2, 5]), AV.osl 2 0 (List.length [(TPoint.mk a0.x0 a0.y0), (TPoint.mk a0.x1 a0.y0), (TPoint.mk a0.x1 a0.y1), (TPoint.mk a0.x0 a0.y1)]) (List.length [(TPoint.mk a0.x0 a0.y0), (TPoint.mk a0.x1 a0.y0), (TPoint.mk a0.x1 a0.y1), (TPoint.mk a0.x0 a0.y1)])]), (1, Ob.arr 1 (List.map (AV.int .i64) [1, 2, 2, 2, 5]) false), (2, Ob.arr 2 (List.map ePoint [(TPoint.mk a0.x0 a0.y0), (TPoint.mk a0.x1 a0.y0), (TPoint.mk a0.x1 a0.y1), (TPoint.mk a0.x0 a0.y1)]) false)], 3⟩, Wk.ofk [1, 3, 2] hk (by rfl) (by simp -implicitDefEqProofs [h_1, h_2, h_3, h_4, h_5, h_6]) (by simp -implicitDefEqProofs [h_1, h_2, h_3, h_4, h_5, h_6]), ?_⟩
        try simp -implicitDefEqProofs (maxSteps := 2000000) [-selQ_sel, h_1, h_2, h_3, h_4, h_5, h_6]
      · replace H := HS.cnd_f h_6 H
        try simp -implicitDefEqProofs (maxSteps := 2000000) [-selQ_sel, h_1, h_2, h_3, h_4, h_5, h_6]
        have hr := (HS.some H).symm; subst hr
        refine Hid.mk ⟨⟨[(2, AV.optr 0 0 2)], [(0, Ob.box [AV.osl 1 0 0 0, AV.osl 2 0 0 0]), (1, Ob.arr 1 (List.map (AV.int .i64) []) false), (2, Ob.arr 2 (List.map ePoint []) false)], 3⟩, Wk.ofk [1, 3, 4] hk (by rfl) (by simp -implicitDefEqProofs [h_1, h_2, h_3, h_4, h_5, h_6]) (by simp -implicitDefEqProofs [h_1, h_2, h_3, h_4, h_5, h_6]), ?_⟩
        try simp -implicitDefEqProofs (maxSteps := 2000000) [-selQ_sel, h_1, h_2, h_3, h_4, h_5, h_6]
    · replace H := HS.cnd_f h_4 H
      try simp -implicitDefEqProofs (maxSteps := 2000000) [-selQ_sel, h_1, h_2, h_3, h_4]
      have hr := (HS.some H).symm; subst hr
      refine Hid.mk ⟨⟨[(2, AV.optr 0 0 2)], [(0, Ob.box [AV.osl 1 0 0 0, AV.osl 2 0 0 0]), (1, Ob.arr 1 (List.map (AV.int .i64) []) false), (2, Ob.arr 2 (List.map ePoint []) false)], 3⟩, Wk.ofk [1, 3, 4] hk (by rfl) (by simp -implicitDefEqProofs [h_1, h_2, h_3, h_4]) (by simp -implicitDefEqProofs [h_1, h_2, h_3, h_4]), ?_⟩
      try simp -implicitDefEqProofs (maxSteps := 2000000) [-selQ_sel, h_1, h_2, h_3, h_4]
theorem slices_IndexFunc_Node_NodeAt_1_ok0 (hm : Try.prog.follows .mixedOrders = true) (k_impl_NodeAt_1 : Sound Try.prog 81 impl_NodeAt_1_x) : Sound Try.prog 80 slices_IndexFunc_Node_NodeAt_1_x := by
  refine xOf_sound fun q r h => ?_
  obtain ⟨a0, a1⟩ := q
  refine fn_ok E0 hm Try.func80 rfl (by decide +kernel) (by rfl) fun Γ hn hk => ?_
  dsimp only [slices_IndexFunc_Node_NodeAt_1_e, slices_IndexFunc_Node_NodeAt_1_v]
  replace hn : Γ.n = 19 := hn
  replace hk : Γ.k = 0 := hk
  have H : HS (slices_IndexFunc_Node_NodeAt_1 a0 a1) r := h
  clear h; unfold slices_IndexFunc_Node_NodeAt_1 at H
  try simp -implicitDefEqProofs at H
  refine Tr.of_vc (cl := tabC [(81, impl_NodeAt_1_x)]) (E := E0) [] (tab_cons k_impl_NodeAt_1 tab_nil) hm (by rw [hn]; decide +kernel) ?_
  try simp -implicitDefEqProofs (maxSteps := 2000000) [-selQ_sel]
  obtain ⟨q, h_1, H⟩ := HS.bnd H
  refine Hid.mk (Tr.weak (s' := (slices_IndexFunc_Node_NodeAt_1_l0_S a0 a1) 0) (Wk.ofk [] hk (by rfl) (by simp -implicitDefEqProofs [slices_IndexFunc_Node_NodeAt_1_l0_S]) (by simp -implicitDefEqProofs [slices_IndexFunc_Node_NodeAt_1_l0_S])) ?_)
  refine wp_loop_of (S := (slices_IndexFunc_Node_NodeAt_1_l0_S a0 a1)) (f := (slices_IndexFunc_Node_NodeAt_1_l0 a0 a1)) (xt := (slices_IndexFunc_Node_NodeAt_1_l0_X a0 a1)) ?_ ?_ h_1 ?_
  · intro q; rcases q with ⟨⟩ | y6 <;> simp [slices_IndexFunc_Node_NodeAt_1_l0_X]
  · clear H h_1 q
    rintro x3 o R hf hR
    have H : HS (slices_IndexFunc_Node_NodeAt_1_l0 a0 a1 x3) o := hf
    clear hf; unfold slices_IndexFunc_Node_NodeAt_1_l0 at H
    try simp -implicitDefEqProofs at H
    refine Tr.of_vc (cl := tabC [(81, impl_NodeAt_1_x)]) (E := E0) [] (tab_cons k_impl_NodeAt_1 tab_nil) hm (by rw [hn]; decide +kernel) ?_
    try simp -implicitDefEqProofs (maxSteps := 2000000) [-selQ_sel, slices_IndexFunc_Node_NodeAt_1_l0_S]
    refine Hid.brV (fun h_2 => ?_) (fun h_2 => ?_)
    · replace H := HS.cnd_t h_2 H
      try simp -implicitDefEqProofs (maxSteps := 2000000) [-selQ_sel, h_2]
      have hr := (HS.some H).symm; subst hr
      exact Hid.mk ⟨(slices_IndexFunc_Node_NodeAt_1_l0_X a0 a1 (.inl ())).2, Wk.ofk [] hk (by rfl) (by simp -implicitDefEqProofs [slices_IndexFunc_Node_NodeAt_1_l0_X, h_2]) (by simp -implicitDefEqProofs [slices_IndexFunc_Node_NodeAt_1_l0_X, h_2]), hR⟩
    · replace H := HS.cnd_f h_2 H
      try simp -implicitDefEqProofs (maxSteps := 2000000) [-selQ_sel, h_2]
      obtain ⟨v4, h_3, H⟩ := HS.bnd H
      try simp -implicitDefEqProofs (maxSteps := 2000000) [-selQ_sel, h_2, h_3]
      obtain ⟨v5, h_4, H⟩ := HS.bnd H
      try simp -implicitDefEqProofs (maxSteps := 2000000) [-selQ_sel, h_2, h_3, h_4]
      refine Hid.brV (fun h_5 => ?_) (fun h_5 => ?_)
      · replace H := HS.cnd_t h_5 H
        try simp -implicitDefEqProofs (maxSteps := 2000000) [-selQ_sel, h_2, h_3, h_4, h_5]
        have hr := (HS.some H).symm; subst hr
        exact Hid.mk ⟨(slices_IndexFunc_Node_NodeAt_1_l0_X a0 a1 (.inr x3)).2, Wk.ofk [] hk (by rfl) (by simp -implicitDefEqProofs [slices_IndexFunc_Node_NodeAt_1_l0_X, h_2, h_3, h_4, h_5]) (by simp -implicitDefEqProofs [slices_IndexFunc_Node_NodeAt_1_l0_X, h_2, h_3, h_4, h_5]), hR⟩
      · replace H := HS.cnd_f h_5 H
        try simp -implicitDefEqProofs (maxSteps := 2000000) [-selQ_sel, h_2, h_3, h_4, h_5]
        have hr := (HS.some H).symm; subst hr
        exact Hid.mk ⟨slices_IndexFunc_Node_NodeAt_1_l0_S a0 a1 (IntKind.i64.wrap (x3 + 1)), Wk.ofk [] hk (by rfl) (by simp -implicitDefEqProofs [slices_IndexFunc_Node_NodeAt_1_l0_S, h_2, h_3, h_4, h_5]) (by simp -implicitDefEqProofs [slices_IndexFunc_Node_NodeAt_1_l0_S, h_2, h_3, h_4, h_5]), hR⟩
  · rcases q with ⟨⟩ | y6
    · dsimp only at H
      try simp -implicitDefEqProofs (maxSteps := 2000000) [-selQ_sel, slices_IndexFunc_Node_NodeAt_1_l0_X]
      have hr := (HS.some H).symm; subst hr
      refine Hid.mk ⟨_, Wk.refl _, ?_⟩
      try simp -implicitDefEqProofs (maxSteps := 2000000) [-selQ_sel]
    · dsimp only at H
      try simp -implicitDefEqProofs (maxSteps := 2000000) [-selQ_sel, slices_IndexFunc_Node_NodeAt_1_l0_X]
      have hr := (HS.some H).symm; subst hr
      refine Hid.mk ⟨_, Wk.refl _, ?_⟩
      try simp -implicitDefEqProofs (maxSteps := 2000000) [-selQ_sel]
theorem impl_copyScene_ok0 (hm : Try.prog.follows .mixedOrders = true) (k_impl_copyNode : Sound Try.prog 47 impl_copyNode_x) : Sound Try.prog 43 impl_copyScene_x := by
  refine xOf_sound fun q r h => ?_
  revert h; revert r; revert q; intro a0 r h
  refine fn_ok E0 hm Try.func43 rfl (by decide +kernel) (by rfl) fun Γ hn hk => ?_
  dsimp only [impl_copyScene_e, impl_copyScene_v]
  replace hn : Γ.n = 22 := hn
  replace hk : Γ.k = 0 := hk
  have H : HS (impl_copyScene a0) r := h
  clear h; unfold impl_copyScene at H
  try simp -implicitDefEqProofs at H
  refine Tr.of_vc (cl := tabC [(47, impl_copyNode_x)]) (E := E0) [] (tab_cons k_impl_copyNode tab_nil) hm (by rw [hn]; decide +kernel) ?_
  try simp -implicitDefEqProofs +decide (maxSteps := 2000000) [-selQ_sel, hokQ_of]
  obtain ⟨q, h_1, H⟩ := HS.bnd H
  refine Hid.mk (Tr.weak (s' := (impl_copyScene_l0_S a0) (0, [])) (Wk.ofk [1, 2, 3] hk (by rfl) (by simp -implicitDefEqProofs [impl_copyScene_l0_S]) (by simp -implicitDefEqProofs [impl_copyScene_l0_S])) ?_)
  refine wp_loop_of (S := (impl_copyScene_l0_S a0)) (f := (impl_copyScene_l0 a0)) (xt := (impl_copyScene_l0_X a0)) ?_ ?_ h_1 ?_
  · intro q; simp [impl_copyScene_l0_X]
  · clear H h_1 q
    rintro ⟨x3, x4⟩ o R hf hR
    have H : HS (impl_copyScene_l0 a0 (x3, x4)) o := hf
    clear hf; unfold impl_copyScene_l0 at H
    try simp -implicitDefEqProofs at H
    refine Tr.of_vc (cl := tabC [(47, impl_copyNode_x)]) (E := E0) [] (tab_cons k_impl_copyNode tab_nil) hm (by rw [hn]; decide +kernel) ?_
    try simp -implicitDefEqProofs +decide (maxSteps := 2000000) [-selQ_sel, hokQ_of, impl_copyScene_l0_S]
    refine Hid.brV (fun h_2 => ?_) (fun h_2 => ?_)
    · replace H := HS.cnd_t h_2 H
      try simp -implicitDefEqProofs +decide (maxSteps := 2000000) [-selQ_sel, hokQ_of, h_2]
      have hr := (HS.some H).symm; subst hr
      exact Hid.mk ⟨(impl_copyScene_l0_X a0 x4).2, Wk.ofk [0, 1, 2] hk (by rfl) (by simp -implicitDefEqProofs [impl_copyScene_l0_X, h_2]) (by simp -implicitDefEqProofs [impl_copyScene_l0_X, h_2]), hR⟩
    · replace H := HS.cnd_f h_2 H
      try simp -implicitDefEqProofs +decide (maxSteps := 2000000) [-selQ_sel, hokQ_of, h_2]
      obtain ⟨v5, h_3, H⟩ := HS.bnd H
      try simp -implicitDefEqProofs +decide (maxSteps := 2000000) [-selQ_sel, hokQ_of, h_2, h_3]
      obtain ⟨v6, h_4, H⟩ := HS.bnd H
      try simp -implicitDefEqProofs +decide (maxSteps := 2000000) [-selQ_sel, hokQ_of, h_2, h_3, h_4]
      obtain ⟨h_5, H⟩ := HS.chkP H
      try simp -implicitDefEqProofs +decide (maxSteps := 2000000) [-selQ_sel, hokQ_of, h_2, h_3, h_4, h_5]
      obtain ⟨l7, h_6, H⟩ := HS.nam H
      have m_7 := congrArg (List.map eNode) h_6
      have q_8 := congrArg List.length h_6
      simp -implicitDefEqProofs at m_7 q_8
      try simp only [q_8] at m_7
      try simp only [q_8] at h_5
      try simp -implicitDefEqProofs +decide (maxSteps := 2000000) [-selQ_sel, hokQ_of, h_2, h_3, h_4, h_5, m_7, q_8]
      have hr := (HS.some H).symm; subst hr
      exact Hid.mk ⟨impl_copyScene_l0_S a0 ((IntKind.i64.wrap (x3 + 1)), l7), Wk.ofk [0, 1, 2] hk (by rfl) (by simp -implicitDefEqProofs [impl_copyScene_l0_S, h_2, h_3, h_4, h_5, m_7, q_8]) (by simp -implicitDefEqProofs [impl_copyScene_l0_S, h_2, h_3, h_4, h_5, m_7, q_8]), hR⟩
  · revert H h_1; revert q; intro y8 h_1 H
    try dsimp only at H
    try simp -implicitDefEqProofs +decide (maxSteps := 2000000) [-selQ_sel, hokQ_of, impl_copyScene_l0_X]
    have hr := (HS.some H).symm; subst hr
    refine Hid.mk ⟨⟨[(2, AV.optr 0 0 1)], [(0, Ob.box [AV.osl 1 0 (List.length y8) (List.length y8)]), (1, Ob.arr 31 (List.map eNode y8) false)], 2⟩, Wk.ofk [0, 2] hk (by rfl) (by simp -implicitDefEqProofs []) (by simp -implicitDefEqProofs []), ?_⟩
    try simp -implicitDefEqProofs +decide (maxSteps := 2000000) [-selQ_sel, hokQ_of]
theorem spec_KidsOf_ok0 (hm : Try.prog.follows .mixedOrders = true) : Sound Try.prog 51 spec_KidsOf_x := by
  refine xOf_sound fun q r h => ?_
  obtain ⟨a0, a1⟩ := q
  refine fn_ok E0 hm Try.func51 rfl (by decide +kernel) (by rfl) fun Γ hn hk => ?_
  dsimp only [spec_KidsOf_e, spec_KidsOf_v]
  replace hn : Γ.n = 33 := hn
  replace hk : Γ.k = 0 := hk
  have H : HS (spec_KidsOf a0 a1) r := h
  clear h; unfold spec_KidsOf at H
  try simp -implicitDefEqProofs at H
  refine Tr.of_vc (cl := tabC []) (E := E0) [] tab_nil hm (by rw [hn]; decide +kernel) ?_
  try simp -implicitDefEqProofs (maxSteps := 2000000) [-selQ_sel]
  obtain ⟨q, h_1, H⟩ := HS.bnd H
  refine Hid.mk (Tr.weak (s' := (spec_KidsOf_l0_S a0 a1) (0, [])) (Wk.ofk [0, 1] hk (by rfl) (by simp -implicitDefEqProofs [spec_KidsOf_l0_S]) (by simp -implicitDefEqProofs [spec_KidsOf_l0_S])) ?_)
  refine wp_loop_of (S := (spec_KidsOf_l0_S a0 a1)) (f := (spec_KidsOf_l0 a0 a1)) (xt := (spec_KidsOf_l0_X a0 a1)) ?_ ?_ h_1 ?_
  · intro q; simp [spec_KidsOf_l0_X]
  · clear H h_1 q
    rintro ⟨x2, x3⟩ o R hf hR
    have H : HS (spec_KidsOf_l0 a0 a1 (x2, x3)) o := hf
    clear hf; unfold spec_KidsOf_l0 at H
    try simp -implicitDefEqProofs at H
    refine Tr.of_vc (cl := tabC []) (E := E0) [] tab_nil hm (by rw [hn]; decide +kernel) ?_
    try simp -implicitDefEqProofs (maxSteps := 2000000) [-selQ_sel, spec_KidsOf_l0_S]
    refine Hid.brV (fun h_2 => ?_) (fun h_2 => ?_)
    · replace H := HS.cnd_t h_2 H
      try simp -implicitDefEqProofs (maxSteps := 2000000) [-selQ_sel, h_2]
      have hr := (HS.some H).symm; subst hr
      exact Hid.mk ⟨(spec_KidsOf_l0_X a0 a1 x3).2, Wk.ofk [1] hk (by rfl) (by simp -implicitDefEqProofs [spec_KidsOf_l0_X, h_2]) (by simp -implicitDefEqProofs [spec_KidsOf_l0_X, h_2]), hR⟩
    · replace H := HS.cnd_f h_2 H
      try simp -implicitDefEqProofs (maxSteps := 2000000) [-selQ_sel, h_2]
      obtain ⟨v4, h_3, H⟩ := HS.bnd H
      try simp -implicitDefEqProofs (maxSteps := 2000000) [-selQ_sel, h_2, h_3]
      refine Hid.brV (fun h_4 => ?_) (fun h_4 => ?_)
      · replace H := HS.cnd_t h_4 H
        try simp -implicitDefEqProofs (maxSteps := 2000000) [-selQ_sel, h_2, h_3, h_4]
        obtain ⟨h_5, H⟩ := HS.chkP H
        try simp -implicitDefEqProofs (maxSteps := 2000000) [-selQ_sel, h_2, h_3, h_4, h_5]
        obtain ⟨l5, h_6, H⟩ := HS.nam H
        have m_7 := congrArg (List.map (AV.int .i64)) h_6
        have q_8 := congrArg List.length h_6
        simp -implicitDefEqProofs at m_7 q_8
        try simp only [q_8] at m_7
        try simp only [q_8] at h_5
        try simp -implicitDefEqProofs (maxSteps := 2000000) [-selQ_sel, h_2, h_3, h_4, h_5, m_7, q_8]
        have hr := (HS.some H).symm; subst hr
        exact Hid.mk ⟨spec_KidsOf_l0_S a0 a1 ((IntKind.i64.wrap (x2 + 1)), l5), Wk.ofk [0, 1] hk (by rfl) (by simp -implicitDefEqProofs [spec_KidsOf_l0_S, h_2, h_3, h_4, h_5, m_7, q_8]) (by simp -implicitDefEqProofs [spec_KidsOf_l0_S, h_2, h_3, h_4, h_5, m_7, q_8]), hR⟩
      · replace H := HS.cnd_f h_4 H
        try simp -implicitDefEqProofs (maxSteps := 2000000) [-selQ_sel, h_2, h_3, h_4]
        have hr := (HS.some H).symm; subst hr
        exact Hid.mk ⟨spec_KidsOf_l0_S a0 a1 ((IntKind.i64.wrap (x2 + 1)), x3), Wk.ofk [0, 1] hk (by rfl) (by simp -implicitDefEqProofs [spec_KidsOf_l0_S, h_2, h_3, h_4]) (by simp -implicitDefEqProofs [spec_KidsOf_l0_S, h_2, h_3, h_4]), hR⟩
  · revert H h_1; revert q; intro y6 h_1 H
    try dsimp only at H
    try simp -implicitDefEqProofs (maxSteps := 2000000) [-selQ_sel, spec_KidsOf_l0_X]
    have hr := (HS.some H).symm; subst hr
    refine Hid.mk ⟨_, Wk.refl _, ?_⟩
    try simp -implicitDefEqProofs (maxSteps := 2000000) [-selQ_sel]
theorem spec_l01New_ok0 (hm : Try.prog.follows .mixedOrders = true) : Sound Try.prog 37 spec_l01New_x := by
  refine xOf_sound fun q r h => ?_
  revert h; revert r; revert q; intro a0 r h
  refine fn_ok E0 hm Try.func37 rfl (by decide +kernel) (by rfl) fun Γ hn hk => ?_
  dsimp only [spec_l01New_e, spec_l01New_v]
  replace hn : Γ.n = 32 := hn
  replace hk : Γ.k = 0 := hk
  have H : HS (spec_l01New a0) r := h
  clear h; unfold spec_l01New at H
  try simp -implicitDefEqProofs at H
  refine Tr.of_vc (cl := tabC []) (E := E0) [] tab_nil hm (by rw [hn]; decide +kernel) ?_
  try simp -implicitDefEqProofs (maxSteps := 2000000) [-selQ_sel]
  obtain ⟨q, h_1, H⟩ := HS.bnd H
  refine Hid.mk (Tr.weak (s' := (spec_l01New_l0_S a0) ((IntKind.i64.wrap (28001 + (List.length a0 : Int))), 0)) (Wk.ofk [] hk (by rfl) (by simp -implicitDefEqProofs [spec_l01New_l0_S]) (by simp -implicitDefEqProofs [spec_l01New_l0_S])) ?_)
  refine wp_loop_of (S := (spec_l01New_l0_S a0)) (f := (spec_l01New_l0 a0)) (xt := (spec_l01New_l0_X a0)) ?_ ?_ h_1 ?_
  · intro q; simp [spec_l01New_l0_X]
  · clear H h_1 q
    rintro ⟨x2, x3⟩ o R hf hR
    have H : HS (spec_l01New_l0 a0 (x2, x3)) o := hf
    clear hf; unfold spec_l01New_l0 at H
    try simp -implicitDefEqProofs at H
    refine Tr.of_vc (cl := tabC []) (E := E0) [] tab_nil hm (by rw [hn]; decide +kernel) ?_
    try simp -implicitDefEqProofs (maxSteps := 2000000) [-selQ_sel, spec_l01New_l0_S]
    refine Hid.selQ (fun h_2 => ?_) (fun h_2 => ?_)
    · replace H := HS.cnd_t h_2 H
      try simp -implicitDefEqProofs (maxSteps := 2000000) [-selQ_sel, h_2]
      have hr := (HS.some H).symm; subst hr
      exact Hid.mk ⟨(spec_l01New_l0_X a0 x2).2, Wk.ofk [] hk (by rfl) (by simp -implicitDefEqProofs [spec_l01New_l0_X, h_2]) (by simp -implicitDefEqProofs [spec_l01New_l0_X, h_2]), hR⟩
    · replace H := HS.cnd_f h_2 H
      try simp -implicitDefEqProofs (maxSteps := 2000000) [-selQ_sel, h_2]
      refine Hid.brV (fun h_3 => ?_) (fun h_3 => ?_)
      · replace H := HS.cnd_t h_3 H
        try simp -implicitDefEqProofs (maxSteps := 2000000) [-selQ_sel, h_2, h_3]
        have hr := (HS.some H).symm; subst hr
        exact Hid.mk ⟨(spec_l01New_l0_X a0 x2).2, Wk.ofk [] hk (by rfl) (by simp -implicitDefEqProofs [spec_l01New_l0_X, h_2, h_3]) (by simp -implicitDefEqProofs [spec_l01New_l0_X, h_2, h_3]), hR⟩
      · replace H := HS.cnd_f h_3 H
        try simp -implicitDefEqProofs (maxSteps := 2000000) [-selQ_sel, h_2, h_3]
        obtain ⟨v4, h_4, H⟩ := HS.bnd H
        try simp -implicitDefEqProofs (maxSteps := 2000000) [-selQ_sel, h_2, h_3, h_4]
        have hr := (HS.some H).symm; subst hr
        exact Hid.mk ⟨spec_l01New_l0_S a0 ((andI .i64 (IntKind.i64.wrap ((IntKind.i64.wrap ((IntKind.i64.wrap (x2 * 131)) + (IntKind.i64.wrap v4))) + 7)) 1073741823), (IntKind.i64.wrap (x3 + 1))), Wk.ofk [] hk (by rfl) (by simp -implicitDefEqProofs [spec_l01New_l0_S, h_2, h_3, h_4]) (by simp -implicitDefEqProofs [spec_l01New_l0_S, h_2, h_3, h_4]), hR⟩
  · revert H h_1; revert q; intro y5 h_1 H
    try dsimp only at H
    try simp -implicitDefEqProofs (maxSteps := 2000000) [-selQ_sel, spec_l01New_l0_X]
    have hr := (HS.some H).symm; subst hr
    refine Hid.mk ⟨⟨[(2, AV.optr 0 0 3)], [(0, Ob.box [AV.fsl (List.map (AV.int .u8) a0), AV.int .i64 0, AV.int .i64 y5])], 1⟩, Wk.ofk [0] hk (by rfl) (by simp -implicitDefEqProofs []) (by simp -implicitDefEqProofs []), ?_⟩
    try simp -implicitDefEqProofs (maxSteps := 2000000) [-selQ_sel]
theorem impl_NeedOf_ok0 (hm : Try.prog.follows .mixedOrders = true) : Sound Try.prog 113 impl_NeedOf_x := by
  refine xOf_sound fun q r h => ?_
  revert h; revert r; revert q; intro a0 r h
  refine fn_ok E0 hm Try.func113 rfl (by decide +kernel) (by rfl) fun Γ hn hk => ?_
  dsimp only [impl_NeedOf_e, impl_NeedOf_v]
  replace hn : Γ.n = 13 := hn
  replace hk : Γ.k = 0 := hk
  have H : HS (impl_NeedOf a0) r := h
  clear h; unfold impl_NeedOf at H
  try simp -implicitDefEqProofs at H
  refine Tr.of_vc (cl := tabC []) (E := E0) [] tab_nil hm (by rw [hn]; decide +kernel) ?_
  try simp -implicitDefEqProofs (maxSteps := 2000000) [-selQ_sel]
  refine Hid.brV (fun h_1 => ?_) (fun h_1 => ?_)
  · replace H := HS.cnd_t h_1 H
    try simp -implicitDefEqProofs (maxSteps := 2000000) [-selQ_sel, h_1]
    have hr := (HS.some H).symm; subst hr
    refine Hid.mk ⟨_, Wk.refl _, ?_⟩
    try simp -implicitDefEqProofs (maxSteps := 2000000) [-selQ_sel, h_1]
  · replace H := HS.cnd_f h_1 H
    try simp -implicitDefEqProofs (maxSteps := 2000000) [-selQ_sel, h_1]
    refine Hid.brV (fun h_2 => ?_) (fun h_2 => ?_)
    · replace H := HS.cnd_t h_2 H
      try simp -implicitDefEqProofs (maxSteps := 2000000) [-selQ_sel, h_1, h_2]
      have hr := (HS.some H).symm; subst hr
      refine Hid.mk ⟨_, Wk.refl _, ?_⟩
      try simp -implicitDefEqProofs (maxSteps := 2000000) [-selQ_sel, h_1, h_2]
    · replace H := HS.cnd_f h_2 H
      try simp -implicitDefEqProofs (maxSteps := 2000000) [-selQ_sel, h_1, h_2]
      refine Hid.brV (fun h_3 => ?_) (fun h_3 => ?_)
      · replace H := HS.cnd_t h_3 H
        try simp -implicitDefEqProofs (maxSteps := 2000000) [-selQ_sel, h_1, h_2, h_3]
        have hr := (HS.some H).symm; subst hr
        refine Hid.mk ⟨_, Wk.refl _, ?_⟩
        try simp -implicitDefEqProofs (maxSteps := 2000000) [-selQ_sel, h_1, h_2, h_3]
      · replace H := HS.cnd_f h_3 H
        try simp -implicitDefEqProofs (maxSteps := 2000000) [-selQ_sel, h_1, h_2, h_3]
        refine Hid.brV (fun h_4 => ?_) (fun h_4 => ?_)
        · replace H := HS.cnd_t h_4 H
          try simp -implicitDefEqProofs (maxSteps := 2000000) [-selQ_sel, h_1, h_2, h_3, h_4]
          have hr := (HS.some H).symm; subst hr
          refine Hid.mk ⟨_, Wk.refl _, ?_⟩
          try simp -implicitDefEqProofs (maxSteps := 2000000) [-selQ_sel, h_1, h_2, h_3, h_4]
        · replace H := HS.cnd_f h_4 H
          try simp -implicitDefEqProofs (maxSteps := 2000000) [-selQ_sel, h_1, h_2, h_3, h_4]
          refine Hid.brV (fun h_5 => ?_) (fun h_5 => ?_)
          · replace H := HS.cnd_t h_5 H
            try simp -implicitDefEqProofs (maxSteps := 2000000) [-selQ_sel, h_1, h_2, h_3, h_4, h_5]
            have hr := (HS.some H).symm; subst hr
            refine Hid.mk ⟨_, Wk.refl _, ?_⟩
            try simp -implicitDefEqProofs (maxSteps := 2000000) [-selQ_sel, h_1, h_2, h_3, h_4, h_5]
          · replace H := HS.cnd_f h_5 H
            try simp -implicitDefEqProofs (maxSteps := 2000000) [-selQ_sel, h_1, h_2, h_3, h_4, h_5]
            have hr := (HS.some H).symm; subst hr
            refine Hid.mk ⟨_, Wk.refl _, ?_⟩
            try simp -implicitDefEqProofs (maxSteps := 2000000) [-selQ_sel, h_1, h_2, h_3, h_4, h_5]
theorem spec_ColorOk_ok0 (hm : Try.prog.follows .mixedOrders = true) (k_spec_l01In : Sound Try.prog 58 spec_l01In_x) : Sound Try.prog 118 spec_ColorOk_x := by
  refine xOf_sound fun q r h => ?_
  revert h; revert r; revert q; intro a0 r h
  refine fn_ok E0 hm Try.func118 rfl (by decide +kernel) (by rfl) fun Γ hn hk => ?_
  dsimp only [spec_ColorOk_e, spec_ColorOk_v]
  replace hn : Γ.n = 21 := hn
  replace hk : Γ.k = 0 := hk
  have H : HS (spec_ColorOk a0) r := h
  clear h; unfold spec_ColorOk at H
  try simp -implicitDefEqProofs at H
  refine Tr.of_vc (cl := tabC [(58, spec_l01In_x)]) (E := E0) [] (tab_cons k_spec_l01In tab_nil) hm (by rw [hn]; decide +kernel) ?_
  try simp -implicitDefEqProofs (maxSteps := 2000000) [-selQ_sel]
  obtain ⟨v1, h_1, H⟩ := HS.bnd H
  try simp -implicitDefEqProofs (maxSteps := 2000000) [-selQ_sel, h_1]
  refine Hid.selQ (fun h_2 => ?_) (fun h_2 => ?_)
  · replace H := HS.cnd_t h_2 H
    try simp -implicitDefEqProofs (maxSteps := 2000000) [-selQ_sel, h_1, h_2]
    obtain ⟨v2, h_3, H⟩ := HS.bnd H
    try simp -implicitDefEqProofs (maxSteps := 2000000) [-selQ_sel, h_1, h_2, h_3]
    refine Hid.selQ (fun h_4 => ?_) (fun h_4 => ?_)
    · replace H := HS.cnd_t h_4 H
      try simp -implicitDefEqProofs (maxSteps := 2000000) [-selQ_sel, h_1, h_2, h_3, h_4]
      obtain ⟨v3, h_5, H⟩ := HS.bnd H
      try simp -implicitDefEqProofs (maxSteps := 2000000) [-selQ_sel, h_1, h_2, h_3, h_4, h_5]
      refine Hid.selQ (fun h_6 => ?_) (fun h_6 => ?_)
      · replace H := HS.cnd_t h_6 H
        try simp -implicitDefEqProofs (maxSteps := 2000000) [-selQ_sel, h_1, h_2, h_3, h_4, h_5, h_6]
        obtain ⟨v4, h_7, H⟩ := HS.bnd H
        try simp -implicitDefEqProofs (maxSteps := 2000000) [-selQ_sel, h_1, h_2, h_3, h_4, h_5, h_6, h_7]
        have hr := (HS.some H).symm; subst hr
        refine Hid.mk ⟨_, Wk.refl _, ?_⟩
        try simp -implicitDefEqProofs (maxSteps := 2000000) [-selQ_sel, h_1, h_2, h_3, h_4, h_5, h_6, h_7]
      · replace H := HS.cnd_f h_6 H
        try simp -implicitDefEqProofs (maxSteps := 2000000) [-selQ_sel, h_1, h_2, h_3, h_4, h_5, h_6]
        have hr := (HS.some H).symm; subst hr
        refine Hid.mk ⟨_, Wk.refl _, ?_⟩
        try simp -implicitDefEqProofs (maxSteps := 2000000) [-selQ_sel, h_1, h_2, h_3, h_4, h_5, h_6]
    · replace H := HS.cnd_f h_4 H
      try simp -implicitDefEqProofs (maxSteps := 2000000) [-selQ_sel, h_1, h_2, h_3, h_4]
      have hr := (HS.some H).symm; subst hr
      refine Hid.mk ⟨_, Wk.refl _, ?_⟩
      try simp -implicitDefEqProofs (maxSteps := 2000000) [-selQ_sel, h_1, h_2, h_3, h_4]
  · replace H := HS.cnd_f h_2 H
    try simp -implicitDefEqProofs (maxSteps := 2000000) [-selQ_sel, h_1, h_2]
    have hr := (HS.some H).symm; subst hr
    refine Hid.mk ⟨_, Wk.refl _, ?_⟩
    try simp -implicitDefEqProofs (maxSteps := 2000000) [-selQ_sel, h_1, h_2]
theorem impl_Scene_isParent_ok0 (hm : Try.prog.follows .mixedOrders = true) (k_impl_NodeAt : Sound Try.prog 44 impl_NodeAt_x) : Sound Try.prog 55 impl_Scene_isParent_x := by
  refine xOf_sound fun q r h => ?_
  obtain ⟨a0, a1⟩ := q
  refine fn_ok E0 hm Try.func55 rfl (by decide +kernel) (by rfl) fun Γ hn hk => ?_
  dsimp only [impl_Scene_isParent_e, impl_Scene_isParent_v]
  replace hn : Γ.n = 27 := hn
  replace hk : Γ.k = 0 := hk
  have H : HS (impl_Scene_isParent a0 a1) r := h
  clear h; unfold impl_Scene_isParent at H
  try simp -implicitDefEqProofs at H
  refine Tr.of_vc (cl := tabC [(44, impl_NodeAt_x)]) (E := E0) [] (tab_cons k_impl_NodeAt tab_nil) hm (by rw [hn]; decide +kernel) ?_
  try simp -implicitDefEqProofs (maxSteps := 2000000) [-selQ_sel]
  obtain ⟨v1, h_1, H⟩ := HS.bnd H
  try simp -implicitDefEqProofs (maxSteps := 2000000) [-selQ_sel, h_1]
  refine Hid.selQ (fun h_2 => ?_) (fun h_2 => ?_)
  · replace H := HS.cnd_t h_2 H
    try simp -implicitDefEqProofs (maxSteps := 2000000) [-selQ_sel, h_1, h_2]
    have hr := (HS.some H).symm; subst hr
    refine Hid.mk ⟨_, Wk.refl _, ?_⟩
    try simp -implicitDefEqProofs (maxSteps := 2000000) [-selQ_sel, h_1, h_2]
  · replace H := HS.cnd_f h_2 H
    try simp -implicitDefEqProofs (maxSteps := 2000000) [-selQ_sel, h_1, h_2]
    refine Hid.selQ (fun h_3 => ?_) (fun h_3 => ?_)
    · replace H := HS.cnd_t h_3 H
      try simp -implicitDefEqProofs (maxSteps := 2000000) [-selQ_sel, h_1, h_2, h_3]
      obtain ⟨v2, h_4, H⟩ := HS.bnd H
      try simp -implicitDefEqProofs (maxSteps := 2000000) [-selQ_sel, h_1, h_2, h_3, h_4]
      have hr := (HS.some H).symm; subst hr
      refine Hid.mk ⟨_, Wk.refl _, ?_⟩
      try simp -implicitDefEqProofs (maxSteps := 2000000) [-selQ_sel, h_1, h_2, h_3, h_4]
    · replace H := HS.cnd_f h_3 H
      try simp -implicitDefEqProofs (maxSteps := 2000000) [-selQ_sel, h_1, h_2, h_3]
      have hr := (HS.some H).symm; subst hr
      refine Hid.mk ⟨_, Wk.refl _, ?_⟩
      try simp -implicitDefEqProofs (maxSteps := 2000000) [-selQ_sel, h_1, h_2, h_3]
theorem spec_l12Color_ok0 (hm : Try.prog.follows .mixedOrders = true) (k_spec_l01Below : Sound Try.prog 42 spec_l01Below_x) (k_spec_l01PickInt : Sound Try.prog 72 spec_l01PickInt_x) : Sound Try.prog 110 spec_l12Color_x := by
  refine xOf_sound fun q r h => ?_
  revert h; revert r; revert q; intro a0 r h
  refine fn_ok E0 hm Try.func110 rfl (by decide +kernel) (by rfl) fun Γ hn hk => ?_
  dsimp only [spec_l12Color_e, spec_l12Color_v]
  replace hn : Γ.n = 15 := hn
  replace hk : Γ.k = 1 := hk
  have H : HS (spec_l12Color a0) r := h
  clear h; unfold spec_l12Color at H
  try simp -implicitDefEqProofs at H
  refine Tr.of_vc (cl := tabC [(42, spec_l01Below_x), (72, spec_l01PickInt_x)]) (E := E0) [] (tab_cons k_spec_l01Below (tab_cons k_spec_l01PickInt tab_nil)) hm (by rw [hn]; decide +kernel) ?_
  try simp -implicitDefEqProofs (maxSteps := 2000000) [-selQ_sel]
  obtain ⟨⟨w2, w3⟩, h_1, H⟩ := HS.bnd H
  dsimp only at H
  try simp -implicitDefEqProofs (maxSteps := 2000000) [-selQ_sel, h_1]
  obtain ⟨⟨w5, w6⟩, h_2, H⟩ := HS.bnd H
  dsimp only at H
  try simp -implicitDefEqProofs (maxSteps := 2000000) [-selQ_sel, h_1, h_2]
  obtain ⟨⟨w8, w9⟩, h_3, H⟩ := HS.bnd H
  dsimp only at H
  try simp -implicitDefEqProofs (maxSteps := 2000000) [-selQ_sel, h_1, h_2, h_3]
  obtain ⟨⟨w11, w12⟩, h_4, H⟩ := HS.bnd H
  dsimp only at H
  have k_5 := spec_l01PickInt_k w9.b w9.i w9.h [255, 255, 128, 0, 1, 200]
  simp -implicitDefEqProofs [-spec_l01PickInt_k] at k_5
  try simp -implicitDefEqProofs (maxSteps := 2000000) [-selQ_sel, h_1, h_2, h_3, h_4, k_5]
  have hr := (HS.some H).symm; subst hr
  refine Hid.mk ⟨_, Wk.refl _, ?_⟩
  try simp -implicitDefEqProofs (maxSteps := 2000000) [-selQ_sel, h_1, h_2, h_3, h_4, k_5]
theorem impl_PointOk_ok0 (hm : Try.prog.follows .mixedOrders = true) (k_impl_isFar : Sound Try.prog 111 impl_isFar_x) : Sound Try.prog 115 impl_PointOk_x := by
  refine xOf_sound fun q r h => ?_
  revert h; revert r; revert q; intro a0 r h
  refine fn_ok E0 hm Try.func115 rfl (by decide +kernel) (by rfl) fun Γ hn hk => ?_
  dsimp only [impl_PointOk_e, impl_PointOk_v]
  replace hn : Γ.n = 11 := hn
  replace hk : Γ.k = 0 := hk
  have H : HS (impl_PointOk a0) r := h
  clear h; unfold impl_PointOk at H
  try simp -implicitDefEqProofs at H
  refine Tr.of_vc (cl := tabC [(111, impl_isFar_x)]) (E := E0) [] (tab_cons k_impl_isFar tab_nil) hm (by rw [hn]; decide +kernel) ?_
  try simp -implicitDefEqProofs (maxSteps := 2000000) [-selQ_sel]
  obtain ⟨v1, h_1, H⟩ := HS.bnd H
  try simp -implicitDefEqProofs (maxSteps := 2000000) [-selQ_sel, h_1]
  refine Hid.selQ (fun h_2 => ?_) (fun h_2 => ?_)
  · replace H := HS.cnd_t h_2 H
    try simp -implicitDefEqProofs (maxSteps := 2000000) [-selQ_sel, h_1, h_2]
    obtain ⟨v2, h_3, H⟩ := HS.bnd H
    try simp -implicitDefEqProofs (maxSteps := 2000000) [-selQ_sel, h_1, h_2, h_3]
    have hr := (HS.some H).symm; subst hr
    refine Hid.mk ⟨_, Wk.refl _, ?_⟩
    try simp -implicitDefEqProofs (maxSteps := 2000000) [-selQ_sel, h_1, h_2, h_3]
  · replace H := HS.cnd_f h_2 H
    try simp -implicitDefEqProofs (maxSteps := 2000000) [-selQ_sel, h_1, h_2]
    have hr := (HS.some H).symm; subst hr
    refine Hid.mk ⟨_, Wk.refl _, ?_⟩
    try simp -implicitDefEqProofs (maxSteps := 2000000) [-selQ_sel, h_1, h_2]
theorem slices_Clone_int_ok0 (hm : Try.prog.follows .mixedOrders = true) : Sound Try.prog 90 slices_Clone_int_x := by
  refine xOf_sound fun q r h => ?_
  revert h; revert r; revert q; intro a0 r h
  refine fn_ok E0 hm Try.func90 rfl (by decide +kernel) (by rfl) fun Γ hn hk => ?_
  dsimp only [slices_Clone_int_e, slices_Clone_int_v]
  replace hn : Γ.n = 8 := hn
  replace hk : Γ.k = 0 := hk
  have H : HS (slices_Clone_int a0) r := h
  clear h; unfold slices_Clone_int at H
  obtain ⟨h_1, H⟩ := HS.chkP H
  have hr := (HS.some H).symm; subst hr
  refine Tr.of_vc (cl := tabC []) (E := E0) [1] tab_nil hm (by rw [hn]; decide +kernel) ?_
  simp -implicitDefEqProofs [-selQ_sel]
  refine Hid.mk (Tr_nil (E := E0) tab_nil (h1 := rfl) (hd1 := fun d h => by cases h; rw [hn]; decide) (ho := rfl) (hg := rfl) (hd := rfl) (hdn := by rw [hn]; decide) (hu := elt_29) (hx := rfl) fun b hb => ?_)
  refine Tr.of_vc (cl := tabC []) (E := E0) [] tab_nil hm (by rw [hn]; decide +kernel) ?_
  simp -implicitDefEqProofs [-selQ_sel, aft, putT]
  refine Hid.brV (fun h_2 => ?_) (fun h_2 => ?_)
  · simp -implicitDefEqProofs [-selQ_sel]
    have h_3 := hb h_2; simp at h_3; subst h_3
    refine Hid.mk ⟨_, Wk.refl _, ?_⟩
    simp -implicitDefEqProofs [-selQ_sel, h_1]
    refine ⟨_, Wk.refl _, ?_⟩
    simp -implicitDefEqProofs [-selQ_sel, h_1]
  · simp -implicitDefEqProofs [-selQ_sel]
    refine Hid.mk ⟨_, Wk.refl _, ?_⟩
    simp -implicitDefEqProofs [-selQ_sel, h_1]
    refine ⟨_, Wk.refl _, ?_⟩
    simp -implicitDefEqProofs [-selQ_sel, h_1]
theorem impl_copyPath_ok0 (hm : Try.prog.follows .mixedOrders = true) (k_slices_Clone_int : Sound Try.prog 90 slices_Clone_int_x) (k_slices_Clone_Point : Sound Try.prog 116 slices_Clone_Point_x) : Sound Try.prog 89 impl_copyPath_x := by
  refine xOf_sound fun q r h => ?_
  revert h; revert r; revert q; intro a0 r h
  refine fn_ok E0 hm Try.func89 rfl (by decide +kernel) (by rfl) fun Γ hn hk => ?_
  dsimp only [impl_copyPath_e, impl_copyPath_v]
  replace hn : Γ.n = 10 := hn
  replace hk : Γ.k = 0 := hk
  have H : HS (impl_copyPath a0) r := h
  clear h; unfold impl_copyPath at H
  try simp -implicitDefEqProofs at H
  refine Tr.of_vc (cl := tabC [(90, slices_Clone_int_x), (116, slices_Clone_Point_x)]) (E := E0) [] (tab_cons k_slices_Clone_int (tab_cons k_slices_Clone_Point tab_nil)) hm (by rw [hn]; decide +kernel) ?_
  try simp -implicitDefEqProofs +decide (maxSteps := 2000000) [-selQ_sel, hokQ_of]
  obtain ⟨v1, h_1, H⟩ := HS.bnd H
  try simp -implicitDefEqProofs +decide (maxSteps := 2000000) [-selQ_sel, hokQ_of, h_1]
  obtain ⟨v2, h_2, H⟩ := HS.bnd H
  try simp -implicitDefEqProofs +decide (maxSteps := 2000000) [-selQ_sel, hokQ_of, h_1, h_2]
  have hr := (HS.some H).symm; subst hr
  refine Hid.mk ⟨_, Wk.refl _, ?_⟩
  try simp -implicitDefEqProofs +decide (maxSteps := 2000000) [-selQ_sel, hokQ_of, h_1, h_2]
theorem spec_Empty_ok0 (hm : Try.prog.follows .mixedOrders = true) : Sound Try.prog 123 spec_Empty_x := by
  refine xOf_sound fun q r h => ?_
  revert h; revert r; revert q; intro a0 r h
  refine fn_ok E0 hm Try.func123 rfl (by decide +kernel) (by rfl) fun Γ hn hk => ?_
  dsimp only [spec_Empty_e, spec_Empty_v]
  replace hn : Γ.n = 15 := hn
  replace hk : Γ.k = 0 := hk
  have H : HS (spec_Empty a0) r := h
  clear h; unfold spec_Empty at H
  try simp -implicitDefEqProofs at H
  refine Tr.of_vc (cl := tabC []) (E := E0) [] tab_nil hm (by rw [hn]; decide +kernel) ?_
  try simp -implicitDefEqProofs (maxSteps := 2000000) [-selQ_sel]
  refine Hid.selQ (fun h_1 => ?_) (fun h_1 => ?_)
  · replace H := HS.cnd_t h_1 H
    try simp -implicitDefEqProofs (maxSteps := 2000000) [-selQ_sel, h_1]
    have hr := (HS.some H).symm; subst hr
    refine Hid.mk ⟨_, Wk.refl _, ?_⟩
    try simp -implicitDefEqProofs (maxSteps := 2000000) [-selQ_sel, h_1]
  · replace H := HS.cnd_f h_1 H
    try simp -implicitDefEqProofs (maxSteps := 2000000) [-selQ_sel, h_1]
    have hr := (HS.some H).symm; subst hr
    refine Hid.mk ⟨_, Wk.refl _, ?_⟩
    try simp -implicitDefEqProofs (maxSteps := 2000000) [-selQ_sel, h_1]
theorem spec_l01PickInt_ok0 (hm : Try.prog.follows .mixedOrders = true) (k_spec_l01Below : Sound Try.prog 42 spec_l01Below_x) : Sound Try.prog 72 spec_l01PickInt_x := by
  refine xOf_sound fun q r h => ?_
  obtain ⟨a0, a1⟩ := q
  refine fn_ok E0 hm Try.func72 rfl (by decide +kernel) (by rfl) fun Γ hn hk => ?_
  dsimp only [spec_l01PickInt_e, spec_l01PickInt_v]
  replace hn : Γ.n = 12 := hn
  replace hk : Γ.k = 2 := hk
  have H : HS (spec_l01PickInt a0 a1) r := h
  clear h; unfold spec_l01PickInt at H
  try simp -implicitDefEqProofs at H
  refine Tr.of_vc (cl := tabC [(42, spec_l01Below_x)]) (E := E0) [] (tab_cons k_spec_l01Below tab_nil) hm (by rw [hn]; decide +kernel) ?_
  try simp -implicitDefEqProofs (maxSteps := 2000000) [-selQ_sel]
  obtain ⟨⟨w2, w3⟩, h_1, H⟩ := HS.bnd H
  dsimp only at H
  try simp -implicitDefEqProofs (maxSteps := 2000000) [-selQ_sel, h_1]
  obtain ⟨v4, h_2, H⟩ := HS.bnd H
  have g_3 := idx_get h_2
  try simp -implicitDefEqProofs (maxSteps := 2000000) [-selQ_sel, h_1, h_2, g_3]
  have hr := (HS.some H).symm; subst hr
  refine Hid.mk ⟨_, Wk.refl _, ?_⟩
  try simp -implicitDefEqProofs (maxSteps := 2000000) [-selQ_sel, h_1, h_2, g_3]
theorem spec_l01Once_ok0 (hm : Try.prog.follows .mixedOrders = true) (k_spec_l01Below : Sound Try.prog 42 spec_l01Below_x) : Sound Try.prog 40 spec_l01Once_x := by
  refine xOf_sound fun q r h => ?_
  obtain ⟨a0, a1⟩ := q
  refine fn_ok E0 hm Try.func40 rfl (by decide +kernel) (by rfl) fun Γ hn hk => ?_
  dsimp only [spec_l01Once_e, spec_l01Once_v]
  replace hn : Γ.n = 9 := hn
  replace hk : Γ.k = 1 := hk
  have H : HS (spec_l01Once a0 a1) r := h
  clear h; unfold spec_l01Once at H
  try simp -implicitDefEqProofs at H
  refine Tr.of_vc (cl := tabC [(42, spec_l01Below_x)]) (E := E0) [] (tab_cons k_spec_l01Below tab_nil) hm (by rw [hn]; decide +kernel) ?_
  try simp -implicitDefEqProofs (maxSteps := 2000000) [-selQ_sel]
  obtain ⟨⟨w2, w3⟩, h_1, H⟩ := HS.bnd H
  dsimp only at H
  try simp -implicitDefEqProofs (maxSteps := 2000000) [-selQ_sel, h_1]
  have hr := (HS.some H).symm; subst hr
  refine Hid.mk ⟨_, Wk.refl _, ?_⟩
  try simp -implicitDefEqProofs (maxSteps := 2000000) [-selQ_sel, h_1]
theorem impl_isFar_ok0 (hm : Try.prog.follows .mixedOrders = true) (k_impl_inRange : Sound Try.prog 56 impl_inRange_x) : Sound Try.prog 111 impl_isFar_x := by
  refine xOf_sound fun q r h => ?_
  revert h; revert r; revert q; intro a0 r h
  refine fn_ok E0 hm Try.func111 rfl (by decide +kernel) (by rfl) fun Γ hn hk => ?_
  dsimp only [impl_isFar_e, impl_isFar_v]
  replace hn : Γ.n = 5 := hn
  replace hk : Γ.k = 0 := hk
  have H : HS (impl_isFar a0) r := h
  clear h; unfold impl_isFar at H
  try simp -implicitDefEqProofs at H
  refine Tr.of_vc (cl := tabC [(56, impl_inRange_x)]) (E := E0) [] (tab_cons k_impl_inRange tab_nil) hm (by rw [hn]; decide +kernel) ?_
  try simp -implicitDefEqProofs (maxSteps := 2000000) [-selQ_sel]
  obtain ⟨v1, h_1, H⟩ := HS.bnd H
  try simp -implicitDefEqProofs (maxSteps := 2000000) [-selQ_sel, h_1]
  have hr := (HS.some H).symm; subst hr
  refine Hid.mk ⟨_, Wk.refl _, ?_⟩
  try simp -implicitDefEqProofs (maxSteps := 2000000) [-selQ_sel, h_1]
theorem laws_big_ok0 (hm : Try.prog.follows .mixedOrders = true) : Sound Try.prog 10 laws_big_x := by
  refine xOf_sound fun q r h => ?_
  revert h; revert r; revert q; intro a0 r h
  refine fn_ok E0 hm Try.func10 rfl (by decide +kernel) (by rfl) fun Γ hn hk => ?_
  dsimp only [laws_big_e, laws_big_v]
  replace hn : Γ.n = 6 := hn
  replace hk : Γ.k = 0 := hk
  have H : HS (laws_big a0) r := h
  clear h; unfold laws_big at H
  try simp -implicitDefEqProofs at H
  refine Tr.of_vc (cl := tabC []) (E := E0) [] tab_nil hm (by rw [hn]; decide +kernel) ?_
  try simp -implicitDefEqProofs (maxSteps := 2000000) [-selQ_sel]
  have hr := (HS.some H).symm; subst hr
  refine Hid.mk ⟨_, Wk.refl _, ?_⟩
  try simp -implicitDefEqProofs (maxSteps := 2000000) [-selQ_sel]
end Go.Proofs.Ytokobfpimdadmaa.Am
