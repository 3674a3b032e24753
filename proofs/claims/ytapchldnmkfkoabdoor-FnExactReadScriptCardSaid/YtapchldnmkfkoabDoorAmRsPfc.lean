import Derived.Test.YtapchldnmkfkoabDoorAmRsMo
set_option linter.unusedVariables false
set_option linter.unusedSimpArgs false
set_option linter.unusedSectionVars false
namespace Go.Proofs.YtapchldnmkfkoabDoor.Am
open Go Go.Proofs
set_option maxRecDepth 100000
set_option linter.unusedSimpArgs false
set_option linter.unusedVariables false
set_option maxHeartbeats 4000000
theorem impl_ReadScript_ok0 (hm : Tryd.prog.follows .mixedOrders = true) (k_impl_scriptLines : Sound Tryd.prog 13 impl_scriptLines_x) (k_impl_PartsOf : Sound Tryd.prog 14 impl_PartsOf_x) (k_impl_readDeed : Sound Tryd.prog 15 impl_readDeed_x) (k_impl_isSide : Sound Tryd.prog 16 impl_isSide_x) : Sound Tryd.prog 5 impl_ReadScript_x := by
 refine xOf_sound fun q r h => ?_
 revert h; revert r; revert q; intro a0 r h
 refine fn_ok E0 hm Tryd.func5 rfl (by decide +kernel) (by rfl) fun Γ hn hk => ?_
 dsimp only [impl_ReadScript_e,impl_ReadScript_v]
 replace hn : Γ.n = 102 := hn
 replace hk : Γ.k = 0 := hk
 have H : HS (impl_ReadScript a0) r := h
 clear h; unfold impl_ReadScript at H
 try simp -implicitDefEqProofs at H
 refine Tr.of_vc (cl := tabC [(13,impl_scriptLines_x),(14,impl_PartsOf_x),(15,impl_readDeed_x),(16,impl_isSide_x)]) (E := E0) [] (tab_cons k_impl_scriptLines (tab_cons k_impl_PartsOf (tab_cons k_impl_readDeed (tab_cons k_impl_isSide tab_nil)))) hm (by rw [hn]; decide +kernel) ?_
 try simp -implicitDefEqProofs +decide (maxSteps := 999999) [-selQ_sel,hokQ_of]
 obtain ⟨v1,h_1,H⟩ := HS.bnd H
 try simp -implicitDefEqProofs +decide (maxSteps := 999999) [-selQ_sel,hokQ_of,h_1]
 refine Hid.selQ (fun h_2 => ?_) (fun h_2 => ?_)
 ·replace H := HS.cnd_t h_2 H
  try simp -implicitDefEqProofs +decide (maxSteps := 999999) [-selQ_sel,hokQ_of,h_1,h_2]
  refine Hid.brV (fun h_3 => ?_) (fun h_3 => ?_)
  ·replace H := HS.cnd_t h_3 H
   try simp -implicitDefEqProofs +decide (maxSteps := 999999) [-selQ_sel,hokQ_of,h_1,h_2,h_3]
   obtain ⟨q,h_4,H⟩ := HS.bnd H
   refine Hid.mk (Tr.weak (s' := (impl_ReadScript_l0_S v1) (0,0,0,[])) (Wk.ofk [0] hk (by rfl) (by simp -implicitDefEqProofs [impl_ReadScript_l0_S,h_1,h_2,h_3]) (by simp -implicitDefEqProofs [impl_ReadScript_l0_S,h_1,h_2,h_3])) ?_)
   refine wp_loop_of (S := (impl_ReadScript_l0_S v1)) (f := (impl_ReadScript_l0 v1)) (xt := (impl_ReadScript_l0_X v1)) ?_ ?_ h_4 ?_
   ·intro q; rcases q with ⟨y144,y145,y146⟩ | y147 <;> simp [impl_ReadScript_l0_X]
   ·clear H h_4 q
    rintro ⟨x48,x49,x50,x97⟩ o R hf hR
    have H : HS (impl_ReadScript_l0 v1 (x48,x49,x50,x97)) o := hf
    clear hf; unfold impl_ReadScript_l0 at H
    try simp -implicitDefEqProofs at H
    refine Tr.of_vc (cl := tabC [(13,impl_scriptLines_x),(14,impl_PartsOf_x),(15,impl_readDeed_x),(16,impl_isSide_x)]) (E := E0) [] (tab_cons k_impl_scriptLines (tab_cons k_impl_PartsOf (tab_cons k_impl_readDeed (tab_cons k_impl_isSide tab_nil)))) hm (by rw [hn]; decide +kernel) ?_
    try simp -implicitDefEqProofs +decide (maxSteps := 999999) [-selQ_sel,hokQ_of,impl_ReadScript_l0_S]
    refine Hid.brV (fun h_5 => ?_) (fun h_5 => ?_)
    ·replace H := HS.cnd_t h_5 H
     try simp -implicitDefEqProofs +decide (maxSteps := 999999) [-selQ_sel,hokQ_of,h_5]
     have hr := (HS.some H).symm; subst hr
     exact Hid.mk ⟨(impl_ReadScript_l0_X v1 (.inl (x97,x49,x50))).2,Wk.ofk [0] hk (by rfl) (by simp -implicitDefEqProofs [impl_ReadScript_l0_X,h_5]) (by simp -implicitDefEqProofs [impl_ReadScript_l0_X,h_5]),hR⟩
    ·replace H := HS.cnd_f h_5 H
     try simp -implicitDefEqProofs +decide (maxSteps := 999999) [-selQ_sel,hokQ_of,h_5]
     obtain ⟨v98,h_6,H⟩ := HS.bnd H
     try simp -implicitDefEqProofs +decide (maxSteps := 999999) [-selQ_sel,hokQ_of,h_5,h_6]
     obtain ⟨⟨w100,w101⟩,h_7,H⟩ := HS.bnd H
     try dsimp only at H
     try simp -implicitDefEqProofs +decide (maxSteps := 999999) [-selQ_sel,hokQ_of,h_5,h_6,h_7]
     refine Hid.selQ (fun h_8 => ?_) (fun h_8 => ?_)
     ·replace H := HS.cnd_t h_8 H
      try simp -implicitDefEqProofs +decide (maxSteps := 999999) [-selQ_sel,hokQ_of,h_5,h_6,h_7,h_8]
      refine Hid.selQ (fun h_9 => ?_) (fun h_9 => ?_)
      ·replace H := HS.cnd_t h_9 H
       try simp -implicitDefEqProofs +decide (maxSteps := 999999) [-selQ_sel,hokQ_of,h_5,h_6,h_7,h_8,h_9]
       have hr := (HS.some H).symm; subst hr
       exact Hid.mk ⟨impl_ReadScript_l0_S v1 ((IntKind.i64.wrap (x48 + 1)),x49,x50,x97),Wk.ofk [0] hk (by rfl) (by simp -implicitDefEqProofs [impl_ReadScript_l0_S,h_5,h_6,h_7,h_8,h_9]) (by simp -implicitDefEqProofs [impl_ReadScript_l0_S,h_5,h_6,h_7,h_8,h_9]),hR⟩
      ·replace H := HS.cnd_f h_9 H
       try simp -implicitDefEqProofs +decide (maxSteps := 999999) [-selQ_sel,hokQ_of,h_5,h_6,h_7,h_8,h_9]
       obtain ⟨v102,h_10,H⟩ := HS.bnd H
       try simp -implicitDefEqProofs +decide (maxSteps := 999999) [-selQ_sel,hokQ_of,h_5,h_6,h_7,h_8,h_9,h_10]
       obtain ⟨b103,h_11,H⟩ := HS.bnd H
       try simp -implicitDefEqProofs +decide (maxSteps := 999999) [-selQ_sel,hokQ_of,h_5,h_6,h_7,h_8,h_9,h_10,h_11]
       refine Hid.brV (fun h_12 => ?_) (fun h_12 => ?_)
       ·replace H := HS.cnd_t h_12 H
        try simp -implicitDefEqProofs +decide (maxSteps := 999999) [-selQ_sel,hokQ_of,h_5,h_6,h_7,h_8,h_9,h_10,h_11,h_12]
        have hr := (HS.some H).symm; subst hr
        exact Hid.mk ⟨impl_ReadScript_l0_S v1 ((IntKind.i64.wrap (x48 + 1)),x49,x50,x97),Wk.ofk [0] hk (by rfl) (by simp -implicitDefEqProofs [impl_ReadScript_l0_S,h_5,h_6,h_7,h_8,h_9,h_10,h_11,h_12]) (by simp -implicitDefEqProofs [impl_ReadScript_l0_S,h_5,h_6,h_7,h_8,h_9,h_10,h_11,h_12]),hR⟩
       ·replace H := HS.cnd_f h_12 H
        try simp -implicitDefEqProofs +decide (maxSteps := 999999) [-selQ_sel,hokQ_of,h_5,h_6,h_7,h_8,h_9,h_10,h_11,h_12]
        obtain ⟨⟨w105,w106,w107,w108,w109,w110,w111,w112,w113,w114,w115,w116,w117,w118,w119,w120,w121,w122⟩,h_13,H⟩ := HS.bnd H
        try dsimp only at H
        try simp -implicitDefEqProofs +decide (maxSteps := 999999) [-selQ_sel,hokQ_of,h_5,h_6,h_7,h_8,h_9,h_10,h_11,h_12,h_13]
        refine Hid.selQ (fun h_14 => ?_) (fun h_14 => ?_)
        ·replace H := HS.cnd_t h_14 H
         try simp -implicitDefEqProofs +decide (maxSteps := 999999) [-selQ_sel,hokQ_of,h_5,h_6,h_7,h_8,h_9,h_10,h_11,h_12,h_13,h_14]
         refine Hid.brV (fun h_15 => ?_) (fun h_15 => ?_)
         ·replace H := HS.cnd_t h_15 H
          try simp -implicitDefEqProofs +decide (maxSteps := 999999) [-selQ_sel,hokQ_of,h_5,h_6,h_7,h_8,h_9,h_10,h_11,h_12,h_13,h_14,h_15]
          have hr := (HS.some H).symm; subst hr
          exact Hid.mk ⟨(impl_ReadScript_l0_X v1 (.inr (IntKind.i64.wrap (x48 + 1)))).2,Wk.ofk [] hk (by rfl) (by simp -implicitDefEqProofs [impl_ReadScript_l0_X,h_5,h_6,h_7,h_8,h_9,h_10,h_11,h_12,h_13,h_14,h_15]) (by simp -implicitDefEqProofs [impl_ReadScript_l0_X,h_5,h_6,h_7,h_8,h_9,h_10,h_11,h_12,h_13,h_14,h_15]),hR⟩
         ·replace H := HS.cnd_f h_15 H
          try simp -implicitDefEqProofs +decide (maxSteps := 999999) [-selQ_sel,hokQ_of,h_5,h_6,h_7,h_8,h_9,h_10,h_11,h_12,h_13,h_14,h_15]
          refine Hid.brV (fun h_16 => ?_) (fun h_16 => ?_)
          ·replace H := HS.cnd_t h_16 H
           try simp -implicitDefEqProofs +decide (maxSteps := 999999) [-selQ_sel,hokQ_of,h_5,h_6,h_7,h_8,h_9,h_10,h_11,h_12,h_13,h_14,h_15,h_16]
           refine Hid.selQ (fun h_17 => ?_) (fun h_17 => ?_)
           ·replace H := HS.cnd_t h_17 H
            try simp -implicitDefEqProofs +decide (maxSteps := 999999) [-selQ_sel,hokQ_of,h_5,h_6,h_7,h_8,h_9,h_10,h_11,h_12,h_13,h_14,h_15,h_16,h_17]
            obtain ⟨v123,h_18,H⟩ := HS.bnd H
            try simp -implicitDefEqProofs +decide (maxSteps := 999999) [-selQ_sel,hokQ_of,h_5,h_6,h_7,h_8,h_9,h_10,h_11,h_12,h_13,h_14,h_15,h_16,h_17,h_18]
            refine Hid.selQ (fun h_19 => ?_) (fun h_19 => ?_)
            ·replace H := HS.cnd_t h_19 H
             try simp -implicitDefEqProofs +decide (maxSteps := 999999) [-selQ_sel,hokQ_of,h_5,h_6,h_7,h_8,h_9,h_10,h_11,h_12,h_13,h_14,h_15,h_16,h_17,h_18,h_19]
             obtain ⟨v124,h_20,H⟩ := HS.bnd H
             try simp -implicitDefEqProofs +decide (maxSteps := 999999) [-selQ_sel,hokQ_of,h_5,h_6,h_7,h_8,h_9,h_10,h_11,h_12,h_13,h_14,h_15,h_16,h_17,h_18,h_19,h_20]
             refine Hid.brV (fun h_21 => ?_) (fun h_21 => ?_)
             ·replace H := HS.cnd_t h_21 H
              try simp -implicitDefEqProofs +decide (maxSteps := 999999) [-selQ_sel,hokQ_of,h_5,h_6,h_7,h_8,h_9,h_10,h_11,h_12,h_13,h_14,h_15,h_16,h_17,h_18,h_19,h_20,h_21]
              have hr := (HS.some H).symm; subst hr
              exact Hid.mk ⟨impl_ReadScript_l0_S v1 ((IntKind.i64.wrap (x48 + 1)),w118,w119,x97),Wk.ofk [0] hk (by rfl) (by simp -implicitDefEqProofs [impl_ReadScript_l0_S,h_5,h_6,h_7,h_8,h_9,h_10,h_11,h_12,h_13,h_14,h_15,h_16,h_17,h_18,h_19,h_20,h_21]) (by simp -implicitDefEqProofs [impl_ReadScript_l0_S,h_5,h_6,h_7,h_8,h_9,h_10,h_11,h_12,h_13,h_14,h_15,h_16,h_17,h_18,h_19,h_20,h_21]),hR⟩
             ·replace H := HS.cnd_f h_21 H
              try simp -implicitDefEqProofs +decide (maxSteps := 999999) [-selQ_sel,hokQ_of,h_5,h_6,h_7,h_8,h_9,h_10,h_11,h_12,h_13,h_14,h_15,h_16,h_17,h_18,h_19,h_20,h_21]
              have hr := (HS.some H).symm; subst hr
              exact Hid.mk ⟨(impl_ReadScript_l0_X v1 (.inr (IntKind.i64.wrap (x48 + 1)))).2,Wk.ofk [] hk (by rfl) (by simp -implicitDefEqProofs [impl_ReadScript_l0_X,h_5,h_6,h_7,h_8,h_9,h_10,h_11,h_12,h_13,h_14,h_15,h_16,h_17,h_18,h_19,h_20,h_21]) (by simp -implicitDefEqProofs [impl_ReadScript_l0_X,h_5,h_6,h_7,h_8,h_9,h_10,h_11,h_12,h_13,h_14,h_15,h_16,h_17,h_18,h_19,h_20,h_21]),hR⟩
            ·replace H := HS.cnd_f h_19 H
             try simp -implicitDefEqProofs +decide (maxSteps := 999999) [-selQ_sel,hokQ_of,h_5,h_6,h_7,h_8,h_9,h_10,h_11,h_12,h_13,h_14,h_15,h_16,h_17,h_18,h_19]
             have hr := (HS.some H).symm; subst hr
             exact Hid.mk ⟨(impl_ReadScript_l0_X v1 (.inr (IntKind.i64.wrap (x48 + 1)))).2,Wk.ofk [] hk (by rfl) (by simp -implicitDefEqProofs [impl_ReadScript_l0_X,h_5,h_6,h_7,h_8,h_9,h_10,h_11,h_12,h_13,h_14,h_15,h_16,h_17,h_18,h_19]) (by simp -implicitDefEqProofs [impl_ReadScript_l0_X,h_5,h_6,h_7,h_8,h_9,h_10,h_11,h_12,h_13,h_14,h_15,h_16,h_17,h_18,h_19]),hR⟩
           ·replace H := HS.cnd_f h_17 H
            try simp -implicitDefEqProofs +decide (maxSteps := 999999) [-selQ_sel,hokQ_of,h_5,h_6,h_7,h_8,h_9,h_10,h_11,h_12,h_13,h_14,h_15,h_16,h_17]
            have hr := (HS.some H).symm; subst hr
            exact Hid.mk ⟨(impl_ReadScript_l0_X v1 (.inr (IntKind.i64.wrap (x48 + 1)))).2,Wk.ofk [] hk (by rfl) (by simp -implicitDefEqProofs [impl_ReadScript_l0_X,h_5,h_6,h_7,h_8,h_9,h_10,h_11,h_12,h_13,h_14,h_15,h_16,h_17]) (by simp -implicitDefEqProofs [impl_ReadScript_l0_X,h_5,h_6,h_7,h_8,h_9,h_10,h_11,h_12,h_13,h_14,h_15,h_16,h_17]),hR⟩
          ·replace H := HS.cnd_f h_16 H
           try simp -implicitDefEqProofs +decide (maxSteps := 999999) [-selQ_sel,hokQ_of,h_5,h_6,h_7,h_8,h_9,h_10,h_11,h_12,h_13,h_14,h_15,h_16]
           obtain ⟨h_22,H⟩ := HS.chkP H
           try simp -implicitDefEqProofs +decide (maxSteps := 999999) [-selQ_sel,hokQ_of,h_5,h_6,h_7,h_8,h_9,h_10,h_11,h_12,h_13,h_14,h_15,h_16,h_22]
           have hr := (HS.some H).symm; subst hr
           exact Hid.mk ⟨impl_ReadScript_l0_S v1 ((IntKind.i64.wrap (x48 + 1)),x49,x50,(x97 ++ [(TDeed.mk w105 (TNode.mk w106 w107 w108 w109 (TPath.mk w121 w122) w110 w111 [] w112 w113 w114 (TPath.mk [] [])) w115 w116 w117 w118 w119)])),Wk.trans (Wk.abs (id := 0) (j := 1) (js := [2]) (by rfl) (by rfl) (by decide) (by simp -implicitDefEqProofs [impl_ReadScript_l0_S,h_5,h_6,h_7,h_8,h_9,h_10,h_11,h_12,h_13,h_14,h_15,h_16,h_22]) (by rfl) (by simp -implicitDefEqProofs [impl_ReadScript_l0_S,h_5,h_6,h_7,h_8,h_9,h_10,h_11,h_12,h_13,h_14,h_15,h_16,h_22]) (by simp -implicitDefEqProofs [impl_ReadScript_l0_S,h_5,h_6,h_7,h_8,h_9,h_10,h_11,h_12,h_13,h_14,h_15,h_16,h_22])) (Wk.trans (Wk.abs (id := 0) (j := 2) (js := []) (by rfl) (by rfl) (by decide) (by simp -implicitDefEqProofs [impl_ReadScript_l0_S,h_5,h_6,h_7,h_8,h_9,h_10,h_11,h_12,h_13,h_14,h_15,h_16,h_22]) (by rfl) (by simp -implicitDefEqProofs [impl_ReadScript_l0_S,h_5,h_6,h_7,h_8,h_9,h_10,h_11,h_12,h_13,h_14,h_15,h_16,h_22]) (by simp -implicitDefEqProofs [impl_ReadScript_l0_S,h_5,h_6,h_7,h_8,h_9,h_10,h_11,h_12,h_13,h_14,h_15,h_16,h_22])) (Wk.trans (Wk.nlc (id := 0) (by rfl)) (Wk.ofk [0] hk (by rfl) (by simp -implicitDefEqProofs [impl_ReadScript_l0_S,h_5,h_6,h_7,h_8,h_9,h_10,h_11,h_12,h_13,h_14,h_15,h_16,h_22]) (by simp -implicitDefEqProofs [impl_ReadScript_l0_S,h_5,h_6,h_7,h_8,h_9,h_10,h_11,h_12,h_13,h_14,h_15,h_16,h_22])))),hR⟩
        ·replace H := HS.cnd_f h_14 H
         try simp -implicitDefEqProofs +decide (maxSteps := 999999) [-selQ_sel,hokQ_of,h_5,h_6,h_7,h_8,h_9,h_10,h_11,h_12,h_13,h_14]
         have hr := (HS.some H).symm; subst hr
         exact Hid.mk ⟨(impl_ReadScript_l0_X v1 (.inr (IntKind.i64.wrap (x48 + 1)))).2,Wk.ofk [] hk (by rfl) (by simp -implicitDefEqProofs [impl_ReadScript_l0_X,h_5,h_6,h_7,h_8,h_9,h_10,h_11,h_12,h_13,h_14]) (by simp -implicitDefEqProofs [impl_ReadScript_l0_X,h_5,h_6,h_7,h_8,h_9,h_10,h_11,h_12,h_13,h_14]),hR⟩
     ·replace H := HS.cnd_f h_8 H
      try simp -implicitDefEqProofs +decide (maxSteps := 999999) [-selQ_sel,hokQ_of,h_5,h_6,h_7,h_8]
      obtain ⟨⟨w126,w127,w128,w129,w130,w131,w132,w133,w134,w135,w136,w137,w138,w139,w140,w141,w142,w143⟩,h_23,H⟩ := HS.bnd H
      try dsimp only at H
      try simp -implicitDefEqProofs +decide (maxSteps := 999999) [-selQ_sel,hokQ_of,h_5,h_6,h_7,h_8,h_23]
      have hr := (HS.some H).symm; subst hr
      exact Hid.mk ⟨(impl_ReadScript_l0_X v1 (.inr (IntKind.i64.wrap (x48 + 1)))).2,Wk.ofk [] hk (by rfl) (by simp -implicitDefEqProofs [impl_ReadScript_l0_X,h_5,h_6,h_7,h_8,h_23]) (by simp -implicitDefEqProofs [impl_ReadScript_l0_X,h_5,h_6,h_7,h_8,h_23]),hR⟩
   ·rcases q with ⟨y144,y145,y146⟩ | y147
    ·dsimp only at H
     try simp -implicitDefEqProofs +decide (maxSteps := 999999) [-selQ_sel,hokQ_of,h_1,h_2,h_3,impl_ReadScript_l0_X]
     refine Hid.brV (fun h_24 => ?_) (fun h_24 => ?_)
     ·replace H := HS.cnd_t h_24 H
      try simp -implicitDefEqProofs +decide (maxSteps := 999999) [-selQ_sel,hokQ_of,h_1,h_2,h_3,h_24]
      have hr := (HS.some H).symm; subst hr
      refine Hid.mk ⟨⟨[(2,AV.int .i64 0),(3,AV.int .i64 0),(4,AV.osl 0 0 0 0),(5,AV.int .i64 1)],[(0,Ob.nar 37 (List.map eDeed []) [0,0,0,0,0,0,0,0,0,0,1,2,0,0,1,0,0,0,0,0,0,0,0,0,0,0,0,0,0,0,1,2,0,0,0,0,0])],1⟩,Wk.ofk [1] hk (by rfl) (by simp -implicitDefEqProofs [h_1,h_2,h_3,h_24]) (by simp -implicitDefEqProofs [h_1,h_2,h_3,h_24]),?_⟩
      try simp -implicitDefEqProofs +decide (maxSteps := 999999) [-selQ_sel,hokQ_of,h_1,h_2,h_3,h_24]
     ·replace H := HS.cnd_f h_24 H
      try simp -implicitDefEqProofs +decide (maxSteps := 999999) [-selQ_sel,hokQ_of,h_1,h_2,h_3,h_24]
      have hr := (HS.some H).symm; subst hr
      refine Hid.mk ⟨⟨[(2,AV.int .i64 y145),(3,AV.int .i64 y146),(4,AV.osl 0 0 (List.length y144) (List.length y144)),(5,AV.int .i64 0)],[(0,Ob.nar 37 (List.map eDeed y144) [0,0,0,0,0,0,0,0,0,0,1,2,0,0,1,0,0,0,0,0,0,0,0,0,0,0,0,0,0,0,1,2,0,0,0,0,0])],1⟩,Wk.ofk [0] hk (by rfl) (by simp -implicitDefEqProofs [h_1,h_2,h_3,h_24]) (by simp -implicitDefEqProofs [h_1,h_2,h_3,h_24]),?_⟩
      try simp -implicitDefEqProofs +decide (maxSteps := 999999) [-selQ_sel,hokQ_of,h_1,h_2,h_3,h_24]
    ·dsimp only at H
     try simp -implicitDefEqProofs +decide (maxSteps := 999999) [-selQ_sel,hokQ_of,h_1,h_2,h_3,impl_ReadScript_l0_X]
     have hr := (HS.some H).symm; subst hr
     refine Hid.mk ⟨⟨[(2,AV.int .i64 0),(3,AV.int .i64 0),(4,AV.osl 0 0 0 0),(5,AV.int .i64 y147)],[(0,Ob.nar 37 (List.map eDeed []) [0,0,0,0,0,0,0,0,0,0,1,2,0,0,1,0,0,0,0,0,0,0,0,0,0,0,0,0,0,0,1,2,0,0,0,0,0])],1⟩,Wk.ofk [0] hk (by rfl) (by simp -implicitDefEqProofs [h_1,h_2,h_3]) (by simp -implicitDefEqProofs [h_1,h_2,h_3]),?_⟩
     try simp -implicitDefEqProofs +decide (maxSteps := 999999) [-selQ_sel,hokQ_of,h_1,h_2,h_3]
  ·replace H := HS.cnd_f h_3 H
   try simp -implicitDefEqProofs +decide (maxSteps := 999999) [-selQ_sel,hokQ_of,h_1,h_2,h_3]
   have hr := (HS.some H).symm; subst hr
   refine Hid.mk ⟨⟨[(2,AV.int .i64 0),(3,AV.int .i64 0),(4,AV.osl 0 0 0 0),(5,AV.int .i64 (-1))],[(0,Ob.nar 37 (List.map eDeed []) [0,0,0,0,0,0,0,0,0,0,1,2,0,0,1,0,0,0,0,0,0,0,0,0,0,0,0,0,0,0,1,2,0,0,0,0,0])],1⟩,Wk.ofk [0] hk (by rfl) (by simp -implicitDefEqProofs [h_1,h_2,h_3]) (by simp -implicitDefEqProofs [h_1,h_2,h_3]),?_⟩
   try simp -implicitDefEqProofs +decide (maxSteps := 999999) [-selQ_sel,hokQ_of,h_1,h_2,h_3]
 ·replace H := HS.cnd_f h_2 H
  try simp -implicitDefEqProofs +decide (maxSteps := 999999) [-selQ_sel,hokQ_of,h_1,h_2]
  have hr := (HS.some H).symm; subst hr
  refine Hid.mk ⟨⟨[(2,AV.int .i64 0),(3,AV.int .i64 0),(4,AV.osl 0 0 0 0),(5,AV.int .i64 (-1))],[(0,Ob.nar 37 (List.map eDeed []) [0,0,0,0,0,0,0,0,0,0,1,2,0,0,1,0,0,0,0,0,0,0,0,0,0,0,0,0,0,0,1,2,0,0,0,0,0])],1⟩,Wk.ofk [0] hk (by rfl) (by simp -implicitDefEqProofs [h_1,h_2]) (by simp -implicitDefEqProofs [h_1,h_2]),?_⟩
  try simp -implicitDefEqProofs +decide (maxSteps := 999999) [-selQ_sel,hokQ_of,h_1,h_2]
theorem spec_l24Deed_ok0 (hm : Tryd.prog.follows .mixedOrders = true) (k_spec_l24Create : Sound Tryd.prog 22 spec_l24Create_x) (k_spec_l24Nums : Sound Tryd.prog 23 spec_l24Nums_x) : Sound Tryd.prog 11 spec_l24Deed_x := by
 refine xOf_sound fun q r h => ?_
 revert h; revert r; revert q; intro a0 r h
 refine fn_ok E0 hm Tryd.func11 rfl (by decide +kernel) (by rfl) fun Γ hn hk => ?_
 dsimp only [spec_l24Deed_e,spec_l24Deed_v]
 replace hn : Γ.n = 112 := hn
 replace hk : Γ.k = 0 := hk
 have H : HS (spec_l24Deed a0) r := h
 clear h; unfold spec_l24Deed at H
 try simp -implicitDefEqProofs at H
 refine Tr.of_vc (cl := tabC [(22,spec_l24Create_x),(23,spec_l24Nums_x)]) (E := E0) [] (tab_cons k_spec_l24Create (tab_cons k_spec_l24Nums tab_nil)) hm (by rw [hn]; decide +kernel) ?_
 try simp -implicitDefEqProofs +decide (maxSteps := 999999) [-selQ_sel,hokQ_of]
 obtain ⟨v1,h_1,H⟩ := HS.bnd H
 try simp -implicitDefEqProofs +decide (maxSteps := 999999) [-selQ_sel,hokQ_of,h_1]
 refine Hid.selQ (fun h_2 => ?_) (fun h_2 => ?_)
 ·replace H := HS.cnd_t h_2 H
  try simp -implicitDefEqProofs +decide (maxSteps := 999999) [-selQ_sel,hokQ_of,h_1,h_2]
  obtain ⟨⟨w3,w4⟩,h_3,H⟩ := HS.bnd H
  try dsimp only at H
  try simp -implicitDefEqProofs +decide (maxSteps := 999999) [-selQ_sel,hokQ_of,h_1,h_2,h_3]
  have hr := (HS.some H).symm; subst hr
  refine Hid.mk ⟨_,Wk.refl _,?_⟩
  try simp -implicitDefEqProofs +decide (maxSteps := 999999) [-selQ_sel,hokQ_of,h_1,h_2,h_3]
 ·replace H := HS.cnd_f h_2 H
  try simp -implicitDefEqProofs +decide (maxSteps := 999999) [-selQ_sel,hokQ_of,h_1,h_2]
  refine Hid.selQ (fun h_4 => ?_) (fun h_4 => ?_)
  ·replace H := HS.cnd_t h_4 H
   try simp -implicitDefEqProofs +decide (maxSteps := 999999) [-selQ_sel,hokQ_of,h_1,h_2,h_4]
   obtain ⟨⟨w6,w7⟩,h_5,H⟩ := HS.bnd H
   try dsimp only at H
   try simp -implicitDefEqProofs +decide (maxSteps := 999999) [-selQ_sel,hokQ_of,h_1,h_2,h_4,h_5]
   have hr := (HS.some H).symm; subst hr
   refine Hid.mk ⟨_,Wk.refl _,?_⟩
   try simp -implicitDefEqProofs +decide (maxSteps := 999999) [-selQ_sel,hokQ_of,h_1,h_2,h_4,h_5]
  ·replace H := HS.cnd_f h_4 H
   try simp -implicitDefEqProofs +decide (maxSteps := 999999) [-selQ_sel,hokQ_of,h_1,h_2,h_4]
   refine Hid.brV (fun h_6 => ?_) (fun h_6 => ?_)
   ·replace H := HS.cnd_t h_6 H
    try simp -implicitDefEqProofs +decide (maxSteps := 999999) [-selQ_sel,hokQ_of,h_1,h_2,h_4,h_6]
    obtain ⟨⟨w9,w10⟩,h_7,H⟩ := HS.bnd H
    try dsimp only at H
    try simp -implicitDefEqProofs +decide (maxSteps := 999999) [-selQ_sel,hokQ_of,h_1,h_2,h_4,h_6,h_7]
    have hr := (HS.some H).symm; subst hr
    refine Hid.mk ⟨_,Wk.refl _,?_⟩
    try simp -implicitDefEqProofs +decide (maxSteps := 999999) [-selQ_sel,hokQ_of,h_1,h_2,h_4,h_6,h_7]
   ·replace H := HS.cnd_f h_6 H
    try simp -implicitDefEqProofs +decide (maxSteps := 999999) [-selQ_sel,hokQ_of,h_1,h_2,h_4,h_6]
    obtain ⟨q,h_8,H⟩ := HS.bnd H
    refine Hid.mk (Tr.weak (s' := (spec_l24Deed_l0_S a0) 0) (Wk.ofk [0,1,2,3] hk (by rfl) (by simp -implicitDefEqProofs [spec_l24Deed_l0_S,h_1,h_2,h_4,h_6]) (by simp -implicitDefEqProofs [spec_l24Deed_l0_S,h_1,h_2,h_4,h_6])) ?_)
    refine wp_loop_of (S := (spec_l24Deed_l0_S a0)) (f := (spec_l24Deed_l0 a0)) (xt := (spec_l24Deed_l0_X a0)) ?_ ?_ h_8 ?_
    ·intro q; rcases q with ⟨⟩ | ⟨y32,y33,y34,y35,y36,y37,y38⟩ <;> simp [spec_l24Deed_l0_X]
    ·clear H h_8 q
     rintro x16 o R hf hR
     have H : HS (spec_l24Deed_l0 a0 x16) o := hf
     clear hf; unfold spec_l24Deed_l0 at H
     try simp -implicitDefEqProofs at H
     refine Tr.of_vc (cl := tabC [(22,spec_l24Create_x),(23,spec_l24Nums_x)]) (E := E0) [] (tab_cons k_spec_l24Create (tab_cons k_spec_l24Nums tab_nil)) hm (by rw [hn]; decide +kernel) ?_
     try simp -implicitDefEqProofs +decide (maxSteps := 999999) [-selQ_sel,hokQ_of,spec_l24Deed_l0_S]
     refine Hid.brV (fun h_9 => ?_) (fun h_9 => ?_)
     ·replace H := HS.cnd_t h_9 H
      try simp -implicitDefEqProofs +decide (maxSteps := 999999) [-selQ_sel,hokQ_of,h_9]
      have hr := (HS.some H).symm; subst hr
      exact Hid.mk ⟨(spec_l24Deed_l0_X a0 (.inl ())).2,Wk.ofk [0] hk (by rfl) (by simp -implicitDefEqProofs [spec_l24Deed_l0_X,h_9]) (by simp -implicitDefEqProofs [spec_l24Deed_l0_X,h_9]),hR⟩
     ·replace H := HS.cnd_f h_9 H
      try simp -implicitDefEqProofs +decide (maxSteps := 999999) [-selQ_sel,hokQ_of,h_9]
      obtain ⟨v17,h_10,H⟩ := HS.bnd H
      try simp -implicitDefEqProofs +decide (maxSteps := 999999) [-selQ_sel,hokQ_of,h_9,h_10]
      obtain ⟨v18,h_11,H⟩ := HS.bnd H
      have g_12 := idx_get h_11
      have g_13 := idx_map (e := eS) h_11
      have g_14 := idx_get g_13
      simp -implicitDefEqProofs at g_13 g_14
      try simp -implicitDefEqProofs +decide (maxSteps := 999999) [-selQ_sel,hokQ_of,h_9,h_10,h_11,g_12,g_13,g_14]
      refine Hid.selQ (fun h_15 => ?_) (fun h_15 => ?_)
      ·replace H := HS.cnd_t h_15 H
       try simp -implicitDefEqProofs +decide (maxSteps := 999999) [-selQ_sel,hokQ_of,h_9,h_10,h_11,g_12,g_13,g_14,h_15]
       obtain ⟨v19,h_16,H⟩ := HS.bnd H
       have g_17 := idx_get h_16
       have g_18 := idx_map (e := (AV.int .i64)) h_16
       have g_19 := idx_get g_18
       simp -implicitDefEqProofs at g_18 g_19
       try simp -implicitDefEqProofs +decide (maxSteps := 999999) [-selQ_sel,hokQ_of,h_9,h_10,h_11,g_12,g_13,g_14,h_15,h_16,g_17,g_18,g_19]
       refine Hid.brV (fun h_20 => ?_) (fun h_20 => ?_)
       ·replace H := HS.cnd_t h_20 H
        try simp -implicitDefEqProofs +decide (maxSteps := 999999) [-selQ_sel,hokQ_of,h_9,h_10,h_11,g_12,g_13,g_14,h_15,h_16,g_17,g_18,g_19,h_20]
        obtain ⟨⟨w21,w22⟩,h_21,H⟩ := HS.bnd H
        try dsimp only at H
        try simp -implicitDefEqProofs +decide (maxSteps := 999999) [-selQ_sel,hokQ_of,h_9,h_10,h_11,g_12,g_13,g_14,h_15,h_16,g_17,g_18,g_19,h_20,h_21]
        refine Hid.brV (fun h_22 => ?_) (fun h_22 => ?_)
        ·replace H := HS.cnd_t h_22 H
         try simp -implicitDefEqProofs +decide (maxSteps := 999999) [-selQ_sel,hokQ_of,h_9,h_10,h_11,g_12,g_13,g_14,h_15,h_16,g_17,g_18,g_19,h_20,h_21,h_22]
         obtain ⟨v23,h_23,H⟩ := HS.bnd H
         have g_24 := idx_get h_23
         have g_25 := idx_map (e := (AV.int .i64)) h_23
         have g_26 := idx_get g_25
         simp -implicitDefEqProofs at g_25 g_26
         try simp -implicitDefEqProofs +decide (maxSteps := 999999) [-selQ_sel,hokQ_of,h_9,h_10,h_11,g_12,g_13,g_14,h_15,h_16,g_17,g_18,g_19,h_20,h_21,h_22,h_23,g_24,g_25,g_26]
         refine Hid.brV (fun h_27 => ?_) (fun h_27 => ?_)
         ·replace H := HS.cnd_t h_27 H
          try simp -implicitDefEqProofs +decide (maxSteps := 999999) [-selQ_sel,hokQ_of,h_9,h_10,h_11,g_12,g_13,g_14,h_15,h_16,g_17,g_18,g_19,h_20,h_21,h_22,h_23,g_24,g_25,g_26,h_27]
          obtain ⟨v24,h_28,H⟩ := HS.bnd H
          try simp -implicitDefEqProofs +decide (maxSteps := 999999) [-selQ_sel,hokQ_of,h_9,h_10,h_11,g_12,g_13,g_14,h_15,h_16,g_17,g_18,g_19,h_20,h_21,h_22,h_23,g_24,g_25,g_26,h_27,h_28]
          have hr := (HS.some H).symm; subst hr
          exact Hid.mk ⟨(spec_l24Deed_l0_X a0 (.inr (v23,v24,0,0,0,0,true))).2,Wk.ofk [0] hk (by rfl) (by simp -implicitDefEqProofs [spec_l24Deed_l0_X,h_9,h_10,h_11,g_12,g_13,g_14,h_15,h_16,g_17,g_18,g_19,h_20,h_21,h_22,h_23,g_24,g_25,g_26,h_27,h_28]) (by simp -implicitDefEqProofs [spec_l24Deed_l0_X,h_9,h_10,h_11,g_12,g_13,g_14,h_15,h_16,g_17,g_18,g_19,h_20,h_21,h_22,h_23,g_24,g_25,g_26,h_27,h_28]),hR⟩
         ·replace H := HS.cnd_f h_27 H
          try simp -implicitDefEqProofs +decide (maxSteps := 999999) [-selQ_sel,hokQ_of,h_9,h_10,h_11,g_12,g_13,g_14,h_15,h_16,g_17,g_18,g_19,h_20,h_21,h_22,h_23,g_24,g_25,g_26,h_27]
          refine Hid.brV (fun h_29 => ?_) (fun h_29 => ?_)
          ·replace H := HS.cnd_t h_29 H
           try simp -implicitDefEqProofs +decide (maxSteps := 999999) [-selQ_sel,hokQ_of,h_9,h_10,h_11,g_12,g_13,g_14,h_15,h_16,g_17,g_18,g_19,h_20,h_21,h_22,h_23,g_24,g_25,g_26,h_27,h_29]
           obtain ⟨v25,h_30,H⟩ := HS.bnd H
           try simp -implicitDefEqProofs +decide (maxSteps := 999999) [-selQ_sel,hokQ_of,h_9,h_10,h_11,g_12,g_13,g_14,h_15,h_16,g_17,g_18,g_19,h_20,h_21,h_22,h_23,g_24,g_25,g_26,h_27,h_29,h_30]
           obtain ⟨v26,h_31,H⟩ := HS.bnd H
           try simp -implicitDefEqProofs +decide (maxSteps := 999999) [-selQ_sel,hokQ_of,h_9,h_10,h_11,g_12,g_13,g_14,h_15,h_16,g_17,g_18,g_19,h_20,h_21,h_22,h_23,g_24,g_25,g_26,h_27,h_29,h_30,h_31]
           obtain ⟨v27,h_32,H⟩ := HS.bnd H
           try simp -implicitDefEqProofs +decide (maxSteps := 999999) [-selQ_sel,hokQ_of,h_9,h_10,h_11,g_12,g_13,g_14,h_15,h_16,g_17,g_18,g_19,h_20,h_21,h_22,h_23,g_24,g_25,g_26,h_27,h_29,h_30,h_31,h_32]
           have hr := (HS.some H).symm; subst hr
           exact Hid.mk ⟨(spec_l24Deed_l0_X a0 (.inr (v23,v25,v26,v27,0,0,true))).2,Wk.ofk [0] hk (by rfl) (by simp -implicitDefEqProofs [spec_l24Deed_l0_X,h_9,h_10,h_11,g_12,g_13,g_14,h_15,h_16,g_17,g_18,g_19,h_20,h_21,h_22,h_23,g_24,g_25,g_26,h_27,h_29,h_30,h_31,h_32]) (by simp -implicitDefEqProofs [spec_l24Deed_l0_X,h_9,h_10,h_11,g_12,g_13,g_14,h_15,h_16,g_17,g_18,g_19,h_20,h_21,h_22,h_23,g_24,g_25,g_26,h_27,h_29,h_30,h_31,h_32]),hR⟩
          ·replace H := HS.cnd_f h_29 H
           try simp -implicitDefEqProofs +decide (maxSteps := 999999) [-selQ_sel,hokQ_of,h_9,h_10,h_11,g_12,g_13,g_14,h_15,h_16,g_17,g_18,g_19,h_20,h_21,h_22,h_23,g_24,g_25,g_26,h_27,h_29]
           refine Hid.brV (fun h_33 => ?_) (fun h_33 => ?_)
           ·replace H := HS.cnd_t h_33 H
            try simp -implicitDefEqProofs +decide (maxSteps := 999999) [-selQ_sel,hokQ_of,h_9,h_10,h_11,g_12,g_13,g_14,h_15,h_16,g_17,g_18,g_19,h_20,h_21,h_22,h_23,g_24,g_25,g_26,h_27,h_29,h_33]
            obtain ⟨v28,h_34,H⟩ := HS.bnd H
            try simp -implicitDefEqProofs +decide (maxSteps := 999999) [-selQ_sel,hokQ_of,h_9,h_10,h_11,g_12,g_13,g_14,h_15,h_16,g_17,g_18,g_19,h_20,h_21,h_22,h_23,g_24,g_25,g_26,h_27,h_29,h_33,h_34]
            obtain ⟨v29,h_35,H⟩ := HS.bnd H
            try simp -implicitDefEqProofs +decide (maxSteps := 999999) [-selQ_sel,hokQ_of,h_9,h_10,h_11,g_12,g_13,g_14,h_15,h_16,g_17,g_18,g_19,h_20,h_21,h_22,h_23,g_24,g_25,g_26,h_27,h_29,h_33,h_34,h_35]
            have hr := (HS.some H).symm; subst hr
            exact Hid.mk ⟨(spec_l24Deed_l0_X a0 (.inr (v23,0,0,0,v28,v29,true))).2,Wk.ofk [0] hk (by rfl) (by simp -implicitDefEqProofs [spec_l24Deed_l0_X,h_9,h_10,h_11,g_12,g_13,g_14,h_15,h_16,g_17,g_18,g_19,h_20,h_21,h_22,h_23,g_24,g_25,g_26,h_27,h_29,h_33,h_34,h_35]) (by simp -implicitDefEqProofs [spec_l24Deed_l0_X,h_9,h_10,h_11,g_12,g_13,g_14,h_15,h_16,g_17,g_18,g_19,h_20,h_21,h_22,h_23,g_24,g_25,g_26,h_27,h_29,h_33,h_34,h_35]),hR⟩
           ·replace H := HS.cnd_f h_33 H
            try simp -implicitDefEqProofs +decide (maxSteps := 999999) [-selQ_sel,hokQ_of,h_9,h_10,h_11,g_12,g_13,g_14,h_15,h_16,g_17,g_18,g_19,h_20,h_21,h_22,h_23,g_24,g_25,g_26,h_27,h_29,h_33]
            refine Hid.brV (fun h_36 => ?_) (fun h_36 => ?_)
            ·replace H := HS.cnd_t h_36 H
             try simp -implicitDefEqProofs +decide (maxSteps := 999999) [-selQ_sel,hokQ_of,h_9,h_10,h_11,g_12,g_13,g_14,h_15,h_16,g_17,g_18,g_19,h_20,h_21,h_22,h_23,g_24,g_25,g_26,h_27,h_29,h_33,h_36]
             obtain ⟨v30,h_37,H⟩ := HS.bnd H
             try simp -implicitDefEqProofs +decide (maxSteps := 999999) [-selQ_sel,hokQ_of,h_9,h_10,h_11,g_12,g_13,g_14,h_15,h_16,g_17,g_18,g_19,h_20,h_21,h_22,h_23,g_24,g_25,g_26,h_27,h_29,h_33,h_36,h_37]
             obtain ⟨v31,h_38,H⟩ := HS.bnd H
             try simp -implicitDefEqProofs +decide (maxSteps := 999999) [-selQ_sel,hokQ_of,h_9,h_10,h_11,g_12,g_13,g_14,h_15,h_16,g_17,g_18,g_19,h_20,h_21,h_22,h_23,g_24,g_25,g_26,h_27,h_29,h_33,h_36,h_37,h_38]
             have hr := (HS.some H).symm; subst hr
             exact Hid.mk ⟨(spec_l24Deed_l0_X a0 (.inr (v23,0,0,0,v30,v31,true))).2,Wk.ofk [0] hk (by rfl) (by simp -implicitDefEqProofs [spec_l24Deed_l0_X,h_9,h_10,h_11,g_12,g_13,g_14,h_15,h_16,g_17,g_18,g_19,h_20,h_21,h_22,h_23,g_24,g_25,g_26,h_27,h_29,h_33,h_36,h_37,h_38]) (by simp -implicitDefEqProofs [spec_l24Deed_l0_X,h_9,h_10,h_11,g_12,g_13,g_14,h_15,h_16,g_17,g_18,g_19,h_20,h_21,h_22,h_23,g_24,g_25,g_26,h_27,h_29,h_33,h_36,h_37,h_38]),hR⟩
            ·replace H := HS.cnd_f h_36 H
             try simp -implicitDefEqProofs +decide (maxSteps := 999999) [-selQ_sel,hokQ_of,h_9,h_10,h_11,g_12,g_13,g_14,h_15,h_16,g_17,g_18,g_19,h_20,h_21,h_22,h_23,g_24,g_25,g_26,h_27,h_29,h_33,h_36]
             have hr := (HS.some H).symm; subst hr
             exact Hid.mk ⟨(spec_l24Deed_l0_X a0 (.inr (v23,0,0,0,0,0,true))).2,Wk.ofk [0] hk (by rfl) (by simp -implicitDefEqProofs [spec_l24Deed_l0_X,h_9,h_10,h_11,g_12,g_13,g_14,h_15,h_16,g_17,g_18,g_19,h_20,h_21,h_22,h_23,g_24,g_25,g_26,h_27,h_29,h_33,h_36]) (by simp -implicitDefEqProofs [spec_l24Deed_l0_X,h_9,h_10,h_11,g_12,g_13,g_14,h_15,h_16,g_17,g_18,g_19,h_20,h_21,h_22,h_23,g_24,g_25,g_26,h_27,h_29,h_33,h_36]),hR⟩
        ·replace H := HS.cnd_f h_22 H
         try simp -implicitDefEqProofs +decide (maxSteps := 999999) [-selQ_sel,hokQ_of,h_9,h_10,h_11,g_12,g_13,g_14,h_15,h_16,g_17,g_18,g_19,h_20,h_21,h_22]
         have hr := (HS.some H).symm; subst hr
         exact Hid.mk ⟨(spec_l24Deed_l0_X a0 (.inr (0,0,0,0,0,0,false))).2,Wk.ofk [0] hk (by rfl) (by simp -implicitDefEqProofs [spec_l24Deed_l0_X,h_9,h_10,h_11,g_12,g_13,g_14,h_15,h_16,g_17,g_18,g_19,h_20,h_21,h_22]) (by simp -implicitDefEqProofs [spec_l24Deed_l0_X,h_9,h_10,h_11,g_12,g_13,g_14,h_15,h_16,g_17,g_18,g_19,h_20,h_21,h_22]),hR⟩
       ·replace H := HS.cnd_f h_20 H
        try simp -implicitDefEqProofs +decide (maxSteps := 999999) [-selQ_sel,hokQ_of,h_9,h_10,h_11,g_12,g_13,g_14,h_15,h_16,g_17,g_18,g_19,h_20]
        have hr := (HS.some H).symm; subst hr
        exact Hid.mk ⟨spec_l24Deed_l0_S a0 (IntKind.i64.wrap (x16 + 1)),Wk.ofk [0,1,2,3] hk (by rfl) (by simp -implicitDefEqProofs [spec_l24Deed_l0_S,h_9,h_10,h_11,g_12,g_13,g_14,h_15,h_16,g_17,g_18,g_19,h_20]) (by simp -implicitDefEqProofs [spec_l24Deed_l0_S,h_9,h_10,h_11,g_12,g_13,g_14,h_15,h_16,g_17,g_18,g_19,h_20]),hR⟩
      ·replace H := HS.cnd_f h_15 H
       try simp -implicitDefEqProofs +decide (maxSteps := 999999) [-selQ_sel,hokQ_of,h_9,h_10,h_11,g_12,g_13,g_14,h_15]
       have hr := (HS.some H).symm; subst hr
       exact Hid.mk ⟨spec_l24Deed_l0_S a0 (IntKind.i64.wrap (x16 + 1)),Wk.ofk [0,1,2,3] hk (by rfl) (by simp -implicitDefEqProofs [spec_l24Deed_l0_S,h_9,h_10,h_11,g_12,g_13,g_14,h_15]) (by simp -implicitDefEqProofs [spec_l24Deed_l0_S,h_9,h_10,h_11,g_12,g_13,g_14,h_15]),hR⟩
    ·rcases q with ⟨⟩ | ⟨y32,y33,y34,y35,y36,y37,y38⟩
     ·dsimp only at H
      try simp -implicitDefEqProofs +decide (maxSteps := 999999) [-selQ_sel,hokQ_of,h_1,h_2,h_4,h_6,spec_l24Deed_l0_X]
      have hr := (HS.some H).symm; subst hr
      refine Hid.mk ⟨_,Wk.refl _,?_⟩
      try simp -implicitDefEqProofs +decide (maxSteps := 999999) [-selQ_sel,hokQ_of,h_1,h_2,h_4,h_6]
     ·dsimp only at H
      try simp -implicitDefEqProofs +decide (maxSteps := 999999) [-selQ_sel,hokQ_of,h_1,h_2,h_4,h_6,spec_l24Deed_l0_X]
      have hr := (HS.some H).symm; subst hr
      refine Hid.mk ⟨_,Wk.refl _,?_⟩
      try simp -implicitDefEqProofs +decide (maxSteps := 999999) [-selQ_sel,hokQ_of,h_1,h_2,h_4,h_6]
theorem laws_markDeedS_ok0 (hm : Tryd.prog.follows .mixedOrders = true) (k_laws_markIntS : Sound Tryd.prog 18 laws_markIntS_x) (k_laws_markPointS : Sound Tryd.prog 19 laws_markPointS_x) : Sound Tryd.prog 7 laws_markDeedS_x := by
 refine xOf_sound fun q r h => ?_
 obtain ⟨a0,a1⟩ := q
 refine fn_ok E0 hm Tryd.func7 rfl (by decide +kernel) (by rfl) fun Γ hn hk => ?_
 dsimp only [laws_markDeedS_e,laws_markDeedS_v]
 replace hn : Γ.n = 342 := hn
 replace hk : Γ.k = 1 := hk
 have H : HS (laws_markDeedS a0 a1) r := h
 clear h; unfold laws_markDeedS at H
 try simp -implicitDefEqProofs at H
 refine Tr.of_vc (cl := tabC [(18,laws_markIntS_x),(19,laws_markPointS_x)]) (E := E0) [] (tab_cons k_laws_markIntS (tab_cons k_laws_markPointS tab_nil)) hm (by rw [hn]; decide +kernel) ?_
 try simp -implicitDefEqProofs (maxSteps := 999999) [-selQ_sel]
 obtain ⟨q,h_1,H⟩ := HS.bnd H
 refine Hid.mk (Tr.weak (s' := laws_markDeedS_l0_S (a0,0,a1)) (Wk.ofk [0] hk (by rfl) (by simp -implicitDefEqProofs [laws_markDeedS_l0_S]) (by simp -implicitDefEqProofs [laws_markDeedS_l0_S])) ?_)
 refine wp_loop_of (S := laws_markDeedS_l0_S) (f := laws_markDeedS_l0) (xt := laws_markDeedS_l0_X) ?_ ?_ h_1 ?_
 ·intro q; rcases q with ⟨y36,y37⟩ <;> simp [laws_markDeedS_l0_X]
 ·clear H h_1 q
  rintro ⟨x17,x18,x19⟩ o R hf hR
  have H : HS (laws_markDeedS_l0 (x17,x18,x19)) o := hf
  clear hf; unfold laws_markDeedS_l0 at H
  try simp -implicitDefEqProofs at H
  refine Tr.of_vc (cl := tabC [(18,laws_markIntS_x),(19,laws_markPointS_x)]) (E := E0) [] (tab_cons k_laws_markIntS (tab_cons k_laws_markPointS tab_nil)) hm (by rw [hn]; decide +kernel) ?_
  try simp -implicitDefEqProofs (maxSteps := 999999) [-selQ_sel,laws_markDeedS_l0_S]
  refine Hid.brV (fun h_2 => ?_) (fun h_2 => ?_)
  ·replace H := HS.cnd_t h_2 H
   try simp -implicitDefEqProofs (maxSteps := 999999) [-selQ_sel,h_2]
   have hr := (HS.some H).symm; subst hr
   exact Hid.mk ⟨(laws_markDeedS_l0_X (x19,x17)).2,Wk.ofk [0] hk (by rfl) (by simp -implicitDefEqProofs [laws_markDeedS_l0_X,h_2]) (by simp -implicitDefEqProofs [laws_markDeedS_l0_X,h_2]),hR⟩
  ·replace H := HS.cnd_f h_2 H
   try simp -implicitDefEqProofs (maxSteps := 999999) [-selQ_sel,h_2]
   obtain ⟨v20,h_3,H⟩ := HS.bnd H
   have g_4 := idx_get h_3
   have g_5 := idx_lt h_3
   have g_6 := idx_getE h_3
   try simp -implicitDefEqProofs (maxSteps := 999999) [-selQ_sel,h_2,h_3,g_4,g_5,g_6]
   obtain ⟨⟨w22,w23⟩,h_7,H⟩ := HS.bnd H
   try dsimp only at H
   have g_8 := laws_markIntS_n h_7
   try simp -implicitDefEqProofs (maxSteps := 999999) [-selQ_sel,h_2,h_3,g_4,g_5,g_6,h_7,g_8]
   obtain ⟨⟨w25,w26⟩,h_9,H⟩ := HS.bnd H
   try dsimp only at H
   have g_10 := laws_markPointS_n h_9
   try simp -implicitDefEqProofs (maxSteps := 999999) [-selQ_sel,h_2,h_3,g_4,g_5,g_6,h_7,g_8,h_9,g_10]
   obtain ⟨⟨w28,w29⟩,h_11,H⟩ := HS.bnd H
   try dsimp only at H
   have g_12 := laws_markIntS_n h_11
   try simp -implicitDefEqProofs (maxSteps := 999999) [-selQ_sel,h_2,h_3,g_4,g_5,g_6,h_7,g_8,h_9,g_10,h_11,g_12]
   obtain ⟨⟨w31,w32⟩,h_13,H⟩ := HS.bnd H
   try dsimp only at H
   have g_14 := laws_markIntS_n h_13
   try simp -implicitDefEqProofs (maxSteps := 999999) [-selQ_sel,h_2,h_3,g_4,g_5,g_6,h_7,g_8,h_9,g_10,h_11,g_12,h_13,g_14]
   obtain ⟨⟨w34,w35⟩,h_15,H⟩ := HS.bnd H
   try dsimp only at H
   have g_16 := laws_markPointS_n h_15
   try simp -implicitDefEqProofs (maxSteps := 999999) [-selQ_sel,h_2,h_3,g_4,g_5,g_6,h_7,g_8,h_9,g_10,h_11,g_12,h_13,g_14,h_15,g_16]
   have hr := (HS.some H).symm; subst hr
   exact Hid.mk ⟨laws_markDeedS_l0_S ((IntKind.i64.wrap ((IntKind.i64.wrap ((IntKind.i64.wrap ((IntKind.i64.wrap ((IntKind.i64.wrap (w34 + 1)) + 1)) + 1)) + 1)) + 1)),(IntKind.i64.wrap (x18 + 1)),(List.set x19 (Int.toNat x18) (TDeed.mk x17 (TNode.mk (IntKind.i64.wrap (x17 + 1)) (IntKind.i64.wrap ((IntKind.i64.wrap (x17 + 1)) + 1)) (ieq (Int.tmod (IntKind.i64.wrap ((IntKind.i64.wrap ((IntKind.i64.wrap (x17 + 1)) + 1)) + 1)) 3) 0) (TMat.mk (IntKind.i64.wrap ((IntKind.i64.wrap ((IntKind.i64.wrap ((IntKind.i64.wrap (x17 + 1)) + 1)) + 1)) + 1)) (IntKind.i64.wrap ((IntKind.i64.wrap ((IntKind.i64.wrap ((IntKind.i64.wrap ((IntKind.i64.wrap (x17 + 1)) + 1)) + 1)) + 1)) + 1)) (IntKind.i64.wrap ((IntKind.i64.wrap ((IntKind.i64.wrap ((IntKind.i64.wrap ((IntKind.i64.wrap ((IntKind.i64.wrap (x17 + 1)) + 1)) + 1)) + 1)) + 1)) + 1)) (IntKind.i64.wrap ((IntKind.i64.wrap ((IntKind.i64.wrap ((IntKind.i64.wrap ((IntKind.i64.wrap ((IntKind.i64.wrap ((IntKind.i64.wrap (x17 + 1)) + 1)) + 1)) + 1)) + 1)) + 1)) + 1)) (IntKind.i64.wrap ((IntKind.i64.wrap ((IntKind.i64.wrap ((IntKind.i64.wrap ((IntKind.i64.wrap ((IntKind.i64.wrap ((IntKind.i64.wrap ((IntKind.i64.wrap (x17 + 1)) + 1)) + 1)) + 1)) + 1)) + 1)) + 1)) + 1)) (IntKind.i64.wrap ((IntKind.i64.wrap ((IntKind.i64.wrap ((IntKind.i64.wrap ((IntKind.i64.wrap ((IntKind.i64.wrap ((IntKind.i64.wrap ((IntKind.i64.wrap ((IntKind.i64.wrap (x17 + 1)) + 1)) + 1)) + 1)) + 1)) + 1)) + 1)) + 1)) + 1))) (TPath.mk w23 w26) (ieq (Int.tmod w25 3) 0) (IntKind.i64.wrap (w25 + 1)) w29 (TPaint.mk w28 (TColor.mk (IntKind.i64.wrap (w28 + 1)) (IntKind.i64.wrap ((IntKind.i64.wrap (w28 + 1)) + 1)) (IntKind.i64.wrap ((IntKind.i64.wrap ((IntKind.i64.wrap (w28 + 1)) + 1)) + 1)) (IntKind.i64.wrap ((IntKind.i64.wrap ((IntKind.i64.wrap ((IntKind.i64.wrap (w28 + 1)) + 1)) + 1)) + 1))) (TColor.mk (IntKind.i64.wrap ((IntKind.i64.wrap ((IntKind.i64.wrap ((IntKind.i64.wrap ((IntKind.i64.wrap (w28 + 1)) + 1)) + 1)) + 1)) + 1)) (IntKind.i64.wrap ((IntKind.i64.wrap ((IntKind.i64.wrap ((IntKind.i64.wrap ((IntKind.i64.wrap ((IntKind.i64.wrap (w28 + 1)) + 1)) + 1)) + 1)) + 1)) + 1)) (IntKind.i64.wrap ((IntKind.i64.wrap ((IntKind.i64.wrap ((IntKind.i64.wrap ((IntKind.i64.wrap ((IntKind.i64.wrap ((IntKind.i64.wrap (w28 + 1)) + 1)) + 1)) + 1)) + 1)) + 1)) + 1)) (IntKind.i64.wrap ((IntKind.i64.wrap ((IntKind.i64.wrap ((IntKind.i64.wrap ((IntKind.i64.wrap ((IntKind.i64.wrap ((IntKind.i64.wrap ((IntKind.i64.wrap (w28 + 1)) + 1)) + 1)) + 1)) + 1)) + 1)) + 1)) + 1))) (TPoint.mk (IntKind.i64.wrap ((IntKind.i64.wrap ((IntKind.i64.wrap ((IntKind.i64.wrap ((IntKind.i64.wrap ((IntKind.i64.wrap ((IntKind.i64.wrap ((IntKind.i64.wrap ((IntKind.i64.wrap (w28 + 1)) + 1)) + 1)) + 1)) + 1)) + 1)) + 1)) + 1)) + 1)) (IntKind.i64.wrap ((IntKind.i64.wrap ((IntKind.i64.wrap ((IntKind.i64.wrap ((IntKind.i64.wrap ((IntKind.i64.wrap ((IntKind.i64.wrap ((IntKind.i64.wrap ((IntKind.i64.wrap ((IntKind.i64.wrap (w28 + 1)) + 1)) + 1)) + 1)) + 1)) + 1)) + 1)) + 1)) + 1)) + 1))) (TPoint.mk (IntKind.i64.wrap ((IntKind.i64.wrap ((IntKind.i64.wrap ((IntKind.i64.wrap ((IntKind.i64.wrap ((IntKind.i64.wrap ((IntKind.i64.wrap ((IntKind.i64.wrap ((IntKind.i64.wrap ((IntKind.i64.wrap ((IntKind.i64.wrap (w28 + 1)) + 1)) + 1)) + 1)) + 1)) + 1)) + 1)) + 1)) + 1)) + 1)) + 1)) (IntKind.i64.wrap ((IntKind.i64.wrap ((IntKind.i64.wrap ((IntKind.i64.wrap ((IntKind.i64.wrap ((IntKind.i64.wrap ((IntKind.i64.wrap ((IntKind.i64.wrap ((IntKind.i64.wrap ((IntKind.i64.wrap ((IntKind.i64.wrap ((IntKind.i64.wrap (w28 + 1)) + 1)) + 1)) + 1)) + 1)) + 1)) + 1)) + 1)) + 1)) + 1)) + 1)) + 1)))) (IntKind.i64.wrap ((IntKind.i64.wrap ((IntKind.i64.wrap ((IntKind.i64.wrap ((IntKind.i64.wrap ((IntKind.i64.wrap ((IntKind.i64.wrap ((IntKind.i64.wrap ((IntKind.i64.wrap ((IntKind.i64.wrap ((IntKind.i64.wrap ((IntKind.i64.wrap ((IntKind.i64.wrap (w28 + 1)) + 1)) + 1)) + 1)) + 1)) + 1)) + 1)) + 1)) + 1)) + 1)) + 1)) + 1)) + 1)) (IntKind.i64.wrap ((IntKind.i64.wrap ((IntKind.i64.wrap ((IntKind.i64.wrap ((IntKind.i64.wrap ((IntKind.i64.wrap ((IntKind.i64.wrap ((IntKind.i64.wrap ((IntKind.i64.wrap ((IntKind.i64.wrap ((IntKind.i64.wrap ((IntKind.i64.wrap ((IntKind.i64.wrap ((IntKind.i64.wrap (w28 + 1)) + 1)) + 1)) + 1)) + 1)) + 1)) + 1)) + 1)) + 1)) + 1)) + 1)) + 1)) + 1)) + 1)) (TPath.mk w32 w35)) w34 (IntKind.i64.wrap (w34 + 1)) (IntKind.i64.wrap ((IntKind.i64.wrap (w34 + 1)) + 1)) (IntKind.i64.wrap ((IntKind.i64.wrap ((IntKind.i64.wrap (w34 + 1)) + 1)) + 1)) (IntKind.i64.wrap ((IntKind.i64.wrap ((IntKind.i64.wrap ((IntKind.i64.wrap (w34 + 1)) + 1)) + 1)) + 1))))),Wk.trans (Wk.abs (id := 0) (j := 1) (js := [2,3,4,5]) (by rfl) (by rfl) (by decide) (by simp -implicitDefEqProofs [laws_markDeedS_l0_S,h_2,h_3,g_4,g_5,g_6,h_7,g_8,h_9,g_10,h_11,g_12,h_13,g_14,h_15,g_16]) (by rfl) (by simp -implicitDefEqProofs [laws_markDeedS_l0_S,h_2,h_3,g_4,g_5,g_6,h_7,g_8,h_9,g_10,h_11,g_12,h_13,g_14,h_15,g_16]) (by simp -implicitDefEqProofs [laws_markDeedS_l0_S,h_2,h_3,g_4,g_5,g_6,h_7,g_8,h_9,g_10,h_11,g_12,h_13,g_14,h_15,g_16])) (Wk.trans (Wk.abs (id := 0) (j := 2) (js := [3,4,5]) (by rfl) (by rfl) (by decide) (by simp -implicitDefEqProofs [laws_markDeedS_l0_S,h_2,h_3,g_4,g_5,g_6,h_7,g_8,h_9,g_10,h_11,g_12,h_13,g_14,h_15,g_16]) (by rfl) (by simp -implicitDefEqProofs [laws_markDeedS_l0_S,h_2,h_3,g_4,g_5,g_6,h_7,g_8,h_9,g_10,h_11,g_12,h_13,g_14,h_15,g_16]) (by simp -implicitDefEqProofs [laws_markDeedS_l0_S,h_2,h_3,g_4,g_5,g_6,h_7,g_8,h_9,g_10,h_11,g_12,h_13,g_14,h_15,g_16])) (Wk.trans (Wk.abs (id := 0) (j := 3) (js := [4,5]) (by rfl) (by rfl) (by decide) (by simp -implicitDefEqProofs [laws_markDeedS_l0_S,h_2,h_3,g_4,g_5,g_6,h_7,g_8,h_9,g_10,h_11,g_12,h_13,g_14,h_15,g_16]) (by rfl) (by simp -implicitDefEqProofs [laws_markDeedS_l0_S,h_2,h_3,g_4,g_5,g_6,h_7,g_8,h_9,g_10,h_11,g_12,h_13,g_14,h_15,g_16]) (by simp -implicitDefEqProofs [laws_markDeedS_l0_S,h_2,h_3,g_4,g_5,g_6,h_7,g_8,h_9,g_10,h_11,g_12,h_13,g_14,h_15,g_16])) (Wk.trans (Wk.abs (id := 0) (j := 4) (js := [5]) (by rfl) (by rfl) (by decide) (by simp -implicitDefEqProofs [laws_markDeedS_l0_S,h_2,h_3,g_4,g_5,g_6,h_7,g_8,h_9,g_10,h_11,g_12,h_13,g_14,h_15,g_16]) (by rfl) (by simp -implicitDefEqProofs [laws_markDeedS_l0_S,h_2,h_3,g_4,g_5,g_6,h_7,g_8,h_9,g_10,h_11,g_12,h_13,g_14,h_15,g_16]) (by simp -implicitDefEqProofs [laws_markDeedS_l0_S,h_2,h_3,g_4,g_5,g_6,h_7,g_8,h_9,g_10,h_11,g_12,h_13,g_14,h_15,g_16])) (Wk.trans (Wk.abs (id := 0) (j := 5) (js := []) (by rfl) (by rfl) (by decide) (by simp -implicitDefEqProofs [laws_markDeedS_l0_S,h_2,h_3,g_4,g_5,g_6,h_7,g_8,h_9,g_10,h_11,g_12,h_13,g_14,h_15,g_16]) (by rfl) (by simp -implicitDefEqProofs [laws_markDeedS_l0_S,h_2,h_3,g_4,g_5,g_6,h_7,g_8,h_9,g_10,h_11,g_12,h_13,g_14,h_15,g_16]) (by simp -implicitDefEqProofs [laws_markDeedS_l0_S,h_2,h_3,g_4,g_5,g_6,h_7,g_8,h_9,g_10,h_11,g_12,h_13,g_14,h_15,g_16])) (Wk.ofk [0] hk (by rfl) (by simp -implicitDefEqProofs [laws_markDeedS_l0_S,h_2,h_3,g_4,g_5,g_6,h_7,g_8,h_9,g_10,h_11,g_12,h_13,g_14,h_15,g_16]) (by simp -implicitDefEqProofs [laws_markDeedS_l0_S,h_2,h_3,g_4,g_5,g_6,h_7,g_8,h_9,g_10,h_11,g_12,h_13,g_14,h_15,g_16])))))),hR⟩
 ·obtain ⟨y36,y37⟩ := q
  try dsimp only at H
  try simp -implicitDefEqProofs (maxSteps := 999999) [-selQ_sel,laws_markDeedS_l0_X]
  have hr := (HS.some H).symm; subst hr
  refine Hid.mk ⟨_,Wk.refl _,?_⟩
  try simp -implicitDefEqProofs (maxSteps := 999999) [-selQ_sel]
theorem laws_eqNode_ok0 (hm : Tryd.prog.follows .mixedOrders = true) (k_laws_eqMat : Sound Tryd.prog 42 laws_eqMat_x) (k_laws_eqPath : Sound Tryd.prog 43 laws_eqPath_x) (k_laws_eqIntS : Sound Tryd.prog 44 laws_eqIntS_x) (k_laws_eqPaint : Sound Tryd.prog 45 laws_eqPaint_x) : Sound Tryd.prog 30 laws_eqNode_x := by
 refine xOf_sound fun q r h => ?_
 obtain ⟨a0,a1⟩ := q
 refine fn_ok E0 hm Tryd.func30 rfl (by decide +kernel) (by rfl) fun Γ hn hk => ?_
 dsimp only [laws_eqNode_e,laws_eqNode_v]
 replace hn : Γ.n = 70 := hn
 replace hk : Γ.k = 0 := hk
 have H : HS (laws_eqNode a0 a1) r := h
 clear h; unfold laws_eqNode at H
 try simp -implicitDefEqProofs at H
 refine Tr.of_vc (cl := tabC [(42,laws_eqMat_x),(43,laws_eqPath_x),(44,laws_eqIntS_x),(45,laws_eqPaint_x)]) (E := E0) [] (tab_cons k_laws_eqMat (tab_cons k_laws_eqPath (tab_cons k_laws_eqIntS (tab_cons k_laws_eqPaint tab_nil)))) hm (by rw [hn]; decide +kernel) ?_
 try simp -implicitDefEqProofs (maxSteps := 999999) [-selQ_sel]
 refine Hid.brV (fun h_1 => ?_) (fun h_1 => ?_)
 ·replace H := HS.cnd_t h_1 H
  try simp -implicitDefEqProofs (maxSteps := 999999) [-selQ_sel,h_1]
  refine Hid.brV (fun h_2 => ?_) (fun h_2 => ?_)
  ·replace H := HS.cnd_t h_2 H
   try simp -implicitDefEqProofs (maxSteps := 999999) [-selQ_sel,h_1,h_2]
   refine Hid.brV (fun h_3 => ?_) (fun h_3 => ?_)
   ·replace H := HS.cnd_t h_3 H
    try simp -implicitDefEqProofs (maxSteps := 999999) [-selQ_sel,h_1,h_2,h_3]
    obtain ⟨v1,h_4,H⟩ := HS.bnd H
    try simp -implicitDefEqProofs (maxSteps := 999999) [-selQ_sel,h_1,h_2,h_3,h_4]
    refine Hid.brV (fun h_5 => ?_) (fun h_5 => ?_)
    ·replace H := HS.cnd_t h_5 H
     try simp -implicitDefEqProofs (maxSteps := 999999) [-selQ_sel,h_1,h_2,h_3,h_4,h_5]
     obtain ⟨v2,h_6,H⟩ := HS.bnd H
     try simp -implicitDefEqProofs (maxSteps := 999999) [-selQ_sel,h_1,h_2,h_3,h_4,h_5,h_6]
     refine Hid.brV (fun h_7 => ?_) (fun h_7 => ?_)
     ·replace H := HS.cnd_t h_7 H
      try simp -implicitDefEqProofs (maxSteps := 999999) [-selQ_sel,h_1,h_2,h_3,h_4,h_5,h_6,h_7]
      refine Hid.brV (fun h_8 => ?_) (fun h_8 => ?_)
      ·replace H := HS.cnd_t h_8 H
       try simp -implicitDefEqProofs (maxSteps := 999999) [-selQ_sel,h_1,h_2,h_3,h_4,h_5,h_6,h_7,h_8]
       refine Hid.brV (fun h_9 => ?_) (fun h_9 => ?_)
       ·replace H := HS.cnd_t h_9 H
        try simp -implicitDefEqProofs (maxSteps := 999999) [-selQ_sel,h_1,h_2,h_3,h_4,h_5,h_6,h_7,h_8,h_9]
        obtain ⟨v3,h_10,H⟩ := HS.bnd H
        try simp -implicitDefEqProofs (maxSteps := 999999) [-selQ_sel,h_1,h_2,h_3,h_4,h_5,h_6,h_7,h_8,h_9,h_10]
        refine Hid.brV (fun h_11 => ?_) (fun h_11 => ?_)
        ·replace H := HS.cnd_t h_11 H
         try simp -implicitDefEqProofs (maxSteps := 999999) [-selQ_sel,h_1,h_2,h_3,h_4,h_5,h_6,h_7,h_8,h_9,h_10,h_11]
         obtain ⟨v4,h_12,H⟩ := HS.bnd H
         try simp -implicitDefEqProofs (maxSteps := 999999) [-selQ_sel,h_1,h_2,h_3,h_4,h_5,h_6,h_7,h_8,h_9,h_10,h_11,h_12]
         refine Hid.brV (fun h_13 => ?_) (fun h_13 => ?_)
         ·replace H := HS.cnd_t h_13 H
          try simp -implicitDefEqProofs (maxSteps := 999999) [-selQ_sel,h_1,h_2,h_3,h_4,h_5,h_6,h_7,h_8,h_9,h_10,h_11,h_12,h_13]
          refine Hid.brV (fun h_14 => ?_) (fun h_14 => ?_)
          ·replace H := HS.cnd_t h_14 H
           try simp -implicitDefEqProofs (maxSteps := 999999) [-selQ_sel,h_1,h_2,h_3,h_4,h_5,h_6,h_7,h_8,h_9,h_10,h_11,h_12,h_13,h_14]
           refine Hid.brV (fun h_15 => ?_) (fun h_15 => ?_)
           ·replace H := HS.cnd_t h_15 H
            try simp -implicitDefEqProofs (maxSteps := 999999) [-selQ_sel,h_1,h_2,h_3,h_4,h_5,h_6,h_7,h_8,h_9,h_10,h_11,h_12,h_13,h_14,h_15]
            obtain ⟨v5,h_16,H⟩ := HS.bnd H
            try simp -implicitDefEqProofs (maxSteps := 999999) [-selQ_sel,h_1,h_2,h_3,h_4,h_5,h_6,h_7,h_8,h_9,h_10,h_11,h_12,h_13,h_14,h_15,h_16]
            refine Hid.brV (fun h_17 => ?_) (fun h_17 => ?_)
            ·replace H := HS.cnd_t h_17 H
             try simp -implicitDefEqProofs (maxSteps := 999999) [-selQ_sel,h_1,h_2,h_3,h_4,h_5,h_6,h_7,h_8,h_9,h_10,h_11,h_12,h_13,h_14,h_15,h_16,h_17]
             have hr := (HS.some H).symm; subst hr
             refine Hid.mk ⟨_,Wk.refl _,?_⟩
             try simp -implicitDefEqProofs (maxSteps := 999999) [-selQ_sel,h_1,h_2,h_3,h_4,h_5,h_6,h_7,h_8,h_9,h_10,h_11,h_12,h_13,h_14,h_15,h_16,h_17]
            ·replace H := HS.cnd_f h_17 H
             try simp -implicitDefEqProofs (maxSteps := 999999) [-selQ_sel,h_1,h_2,h_3,h_4,h_5,h_6,h_7,h_8,h_9,h_10,h_11,h_12,h_13,h_14,h_15,h_16,h_17]
             have hr := (HS.some H).symm; subst hr
             refine Hid.mk ⟨_,Wk.refl _,?_⟩
             try simp -implicitDefEqProofs (maxSteps := 999999) [-selQ_sel,h_1,h_2,h_3,h_4,h_5,h_6,h_7,h_8,h_9,h_10,h_11,h_12,h_13,h_14,h_15,h_16,h_17]
           ·replace H := HS.cnd_f h_15 H
            try simp -implicitDefEqProofs (maxSteps := 999999) [-selQ_sel,h_1,h_2,h_3,h_4,h_5,h_6,h_7,h_8,h_9,h_10,h_11,h_12,h_13,h_14,h_15]
            have hr := (HS.some H).symm; subst hr
            refine Hid.mk ⟨_,Wk.refl _,?_⟩
            try simp -implicitDefEqProofs (maxSteps := 999999) [-selQ_sel,h_1,h_2,h_3,h_4,h_5,h_6,h_7,h_8,h_9,h_10,h_11,h_12,h_13,h_14,h_15]
          ·replace H := HS.cnd_f h_14 H
           try simp -implicitDefEqProofs (maxSteps := 999999) [-selQ_sel,h_1,h_2,h_3,h_4,h_5,h_6,h_7,h_8,h_9,h_10,h_11,h_12,h_13,h_14]
           have hr := (HS.some H).symm; subst hr
           refine Hid.mk ⟨_,Wk.refl _,?_⟩
           try simp -implicitDefEqProofs (maxSteps := 999999) [-selQ_sel,h_1,h_2,h_3,h_4,h_5,h_6,h_7,h_8,h_9,h_10,h_11,h_12,h_13,h_14]
         ·replace H := HS.cnd_f h_13 H
          try simp -implicitDefEqProofs (maxSteps := 999999) [-selQ_sel,h_1,h_2,h_3,h_4,h_5,h_6,h_7,h_8,h_9,h_10,h_11,h_12,h_13]
          have hr := (HS.some H).symm; subst hr
          refine Hid.mk ⟨_,Wk.refl _,?_⟩
          try simp -implicitDefEqProofs (maxSteps := 999999) [-selQ_sel,h_1,h_2,h_3,h_4,h_5,h_6,h_7,h_8,h_9,h_10,h_11,h_12,h_13]
        ·replace H := HS.cnd_f h_11 H
         try simp -implicitDefEqProofs (maxSteps := 999999) [-selQ_sel,h_1,h_2,h_3,h_4,h_5,h_6,h_7,h_8,h_9,h_10,h_11]
         have hr := (HS.some H).symm; subst hr
         refine Hid.mk ⟨_,Wk.refl _,?_⟩
         try simp -implicitDefEqProofs (maxSteps := 999999) [-selQ_sel,h_1,h_2,h_3,h_4,h_5,h_6,h_7,h_8,h_9,h_10,h_11]
       ·replace H := HS.cnd_f h_9 H
        try simp -implicitDefEqProofs (maxSteps := 999999) [-selQ_sel,h_1,h_2,h_3,h_4,h_5,h_6,h_7,h_8,h_9]
        have hr := (HS.some H).symm; subst hr
        refine Hid.mk ⟨_,Wk.refl _,?_⟩
        try simp -implicitDefEqProofs (maxSteps := 999999) [-selQ_sel,h_1,h_2,h_3,h_4,h_5,h_6,h_7,h_8,h_9]
      ·replace H := HS.cnd_f h_8 H
       try simp -implicitDefEqProofs (maxSteps := 999999) [-selQ_sel,h_1,h_2,h_3,h_4,h_5,h_6,h_7,h_8]
       have hr := (HS.some H).symm; subst hr
       refine Hid.mk ⟨_,Wk.refl _,?_⟩
       try simp -implicitDefEqProofs (maxSteps := 999999) [-selQ_sel,h_1,h_2,h_3,h_4,h_5,h_6,h_7,h_8]
     ·replace H := HS.cnd_f h_7 H
      try simp -implicitDefEqProofs (maxSteps := 999999) [-selQ_sel,h_1,h_2,h_3,h_4,h_5,h_6,h_7]
      have hr := (HS.some H).symm; subst hr
      refine Hid.mk ⟨_,Wk.refl _,?_⟩
      try simp -implicitDefEqProofs (maxSteps := 999999) [-selQ_sel,h_1,h_2,h_3,h_4,h_5,h_6,h_7]
    ·replace H := HS.cnd_f h_5 H
     try simp -implicitDefEqProofs (maxSteps := 999999) [-selQ_sel,h_1,h_2,h_3,h_4,h_5]
     have hr := (HS.some H).symm; subst hr
     refine Hid.mk ⟨_,Wk.refl _,?_⟩
     try simp -implicitDefEqProofs (maxSteps := 999999) [-selQ_sel,h_1,h_2,h_3,h_4,h_5]
   ·replace H := HS.cnd_f h_3 H
    try simp -implicitDefEqProofs (maxSteps := 999999) [-selQ_sel,h_1,h_2,h_3]
    have hr := (HS.some H).symm; subst hr
    refine Hid.mk ⟨_,Wk.refl _,?_⟩
    try simp -implicitDefEqProofs (maxSteps := 999999) [-selQ_sel,h_1,h_2,h_3]
  ·replace H := HS.cnd_f h_2 H
   try simp -implicitDefEqProofs (maxSteps := 999999) [-selQ_sel,h_1,h_2]
   have hr := (HS.some H).symm; subst hr
   refine Hid.mk ⟨_,Wk.refl _,?_⟩
   try simp -implicitDefEqProofs (maxSteps := 999999) [-selQ_sel,h_1,h_2]
 ·replace H := HS.cnd_f h_1 H
  try simp -implicitDefEqProofs (maxSteps := 999999) [-selQ_sel,h_1]
  have hr := (HS.some H).symm; subst hr
  refine Hid.mk ⟨_,Wk.refl _,?_⟩
  try simp -implicitDefEqProofs (maxSteps := 999999) [-selQ_sel,h_1]
theorem impl_lineReader_created_ok0 (hm : Tryd.prog.follows .mixedOrders = true) (k_impl_lineReader_number : Sound Tryd.prog 41 impl_lineReader_number_x) (k_impl_Still : Sound Tryd.prog 54 impl_Still_x) (k_impl_lineReader_box : Sound Tryd.prog 55 impl_lineReader_box_x) (k_impl_RectPath : Sound Tryd.prog 56 impl_RectPath_x) (k_impl_lineReader_color : Sound Tryd.prog 57 impl_lineReader_color_x) : Sound Tryd.prog 40 impl_lineReader_created_x := by
 refine xOf_sound fun q r h => ?_
 obtain ⟨a0,a1⟩ := q
 refine fn_ok E0 hm Tryd.func40 rfl (by decide +kernel) (by rfl) fun Γ hn hk => ?_
 dsimp only [impl_lineReader_created_e,impl_lineReader_created_v]
 replace hn : Γ.n = 58 := hn
 replace hk : Γ.k = 1 := hk
 have H : HS (impl_lineReader_created a0 a1) r := h
 clear h; unfold impl_lineReader_created at H
 try simp -implicitDefEqProofs at H
 refine Tr.of_vc (cl := tabC [(41,impl_lineReader_number_x),(54,impl_Still_x),(55,impl_lineReader_box_x),(56,impl_RectPath_x),(57,impl_lineReader_color_x)]) (E := E0) [] (tab_cons k_impl_lineReader_number (tab_cons k_impl_Still (tab_cons k_impl_lineReader_box (tab_cons k_impl_RectPath (tab_cons k_impl_lineReader_color tab_nil))))) hm (by rw [hn]; decide +kernel) ?_
 try simp -implicitDefEqProofs (maxSteps := 999999) [-selQ_sel]
 obtain ⟨⟨w2,w3⟩,h_1,H⟩ := HS.bnd H
 try dsimp only at H
 try simp -implicitDefEqProofs (maxSteps := 999999) [-selQ_sel,h_1]
 obtain ⟨v4,h_2,H⟩ := HS.bnd H
 try simp -implicitDefEqProofs (maxSteps := 999999) [-selQ_sel,h_1,h_2]
 obtain ⟨⟨w6,w7⟩,h_3,H⟩ := HS.bnd H
 try dsimp only at H
 try simp -implicitDefEqProofs (maxSteps := 999999) [-selQ_sel,h_1,h_2,h_3]
 refine Hid.brV (fun h_4 => ?_) (fun h_4 => ?_)
 ·replace H := HS.cnd_t h_4 H
  try simp -implicitDefEqProofs (maxSteps := 999999) [-selQ_sel,h_1,h_2,h_3,h_4]
  obtain ⟨⟨w9,w10⟩,h_5,H⟩ := HS.bnd H
  try dsimp only at H
  try simp -implicitDefEqProofs (maxSteps := 999999) [-selQ_sel,h_1,h_2,h_3,h_4,h_5]
  obtain ⟨⟨w12,w13⟩,h_6,H⟩ := HS.bnd H
  try dsimp only at H
  try simp -implicitDefEqProofs (maxSteps := 999999) [-selQ_sel,h_1,h_2,h_3,h_4,h_5,h_6]
  obtain ⟨⟨w15,w16⟩,h_7,H⟩ := HS.bnd H
  try dsimp only at H
  try simp -implicitDefEqProofs (maxSteps := 999999) [-selQ_sel,h_1,h_2,h_3,h_4,h_5,h_6,h_7]
  have hr := (HS.some H).symm; subst hr
  refine Hid.mk ⟨⟨[(4,AV.optr 1 0 31)],[(0,Ob.box [AV.fsl (List.map eS w16.parts),AV.bool w16.bad]),(1,Ob.box [AV.int .i64 w2,AV.int .i64 w6,AV.bool true,AV.int .i64 v4.a,AV.int .i64 v4.b,AV.int .i64 v4.c,AV.int .i64 v4.d,AV.int .i64 w9,AV.int .i64 w12,AV.osl 2 0 0 0,AV.osl 3 0 0 0,AV.bool false,AV.int .i64 0,AV.nilsl,AV.int .i64 0,AV.int .i64 0,AV.int .i64 0,AV.int .i64 0,AV.int .i64 0,AV.int .i64 0,AV.int .i64 0,AV.int .i64 0,AV.int .i64 0,AV.int .i64 0,AV.int .i64 0,AV.int .i64 0,AV.int .i64 0,AV.int .i64 1,AV.int .i64 w15,AV.nilsl,AV.nilsl]),(2,Ob.arr 1 (List.map (AV.int .i64) []) false),(3,Ob.arr 2 (List.map ePoint []) false)],4⟩,Wk.ofk [0,1,3,4] hk (by rfl) (by simp -implicitDefEqProofs [h_1,h_2,h_3,h_4,h_5,h_6,h_7]) (by simp -implicitDefEqProofs [h_1,h_2,h_3,h_4,h_5,h_6,h_7]),?_⟩
  try simp -implicitDefEqProofs (maxSteps := 999999) [-selQ_sel,h_1,h_2,h_3,h_4,h_5,h_6,h_7]
 ·replace H := HS.cnd_f h_4 H
  try simp -implicitDefEqProofs (maxSteps := 999999) [-selQ_sel,h_1,h_2,h_3,h_4]
  obtain ⟨⟨w18,w19⟩,h_8,H⟩ := HS.bnd H
  try dsimp only at H
  try simp -implicitDefEqProofs (maxSteps := 999999) [-selQ_sel,h_1,h_2,h_3,h_4,h_8]
  obtain ⟨⟨w21,w22⟩,h_9,H⟩ := HS.bnd H
  try dsimp only at H
  try simp -implicitDefEqProofs (maxSteps := 999999) [-selQ_sel,h_1,h_2,h_3,h_4,h_8,h_9]
  refine Hid.brV (fun h_10 => ?_) (fun h_10 => ?_)
  ·replace H := HS.cnd_t h_10 H
   try simp -implicitDefEqProofs (maxSteps := 999999) [-selQ_sel,h_1,h_2,h_3,h_4,h_8,h_9,h_10]
   obtain ⟨⟨w24,w25⟩,h_11,H⟩ := HS.bnd H
   try dsimp only at H
   try simp -implicitDefEqProofs (maxSteps := 999999) [-selQ_sel,h_1,h_2,h_3,h_4,h_8,h_9,h_10,h_11]
   obtain ⟨⟨w27,w28⟩,h_12,H⟩ := HS.bnd H
   try dsimp only at H
   try simp -implicitDefEqProofs (maxSteps := 999999) [-selQ_sel,h_1,h_2,h_3,h_4,h_8,h_9,h_10,h_11,h_12]
   have hr := (HS.some H).symm; subst hr
   refine Hid.mk ⟨⟨[(4,AV.optr 1 0 31)],[(0,Ob.box [AV.fsl (List.map eS w28.parts),AV.bool w28.bad]),(1,Ob.box [AV.int .i64 w2,AV.int .i64 w6,AV.bool false,AV.int .i64 v4.a,AV.int .i64 v4.b,AV.int .i64 v4.c,AV.int .i64 v4.d,AV.int .i64 v4.e,AV.int .i64 v4.f,AV.osl 2 0 (List.length [1,2]) (List.length [1,2]),AV.osl 3 0 (List.length [(TPoint.mk w18.x0 w18.y0),(TPoint.mk w18.x1 w18.y1)]) (List.length [(TPoint.mk w18.x0 w18.y0),(TPoint.mk w18.x1 w18.y1)]),AV.bool false,AV.int .i64 w24,AV.nilsl,AV.int .i64 1,AV.int .i64 w27.r,AV.int .i64 w27.g,AV.int .i64 w27.b,AV.int .i64 w27.a,AV.int .i64 0,AV.int .i64 0,AV.int .i64 0,AV.int .i64 0,AV.int .i64 0,AV.int .i64 0,AV.int .i64 0,AV.int .i64 0,AV.int .i64 1,AV.int .i64 255,AV.nilsl,AV.nilsl]),(2,Ob.arr 1 (List.map (AV.int .i64) [1,2]) false),(3,Ob.arr 2 (List.map ePoint [(TPoint.mk w18.x0 w18.y0),(TPoint.mk w18.x1 w18.y1)]) false)],4⟩,Wk.ofk [0,1,6,7] hk (by rfl) (by simp -implicitDefEqProofs [h_1,h_2,h_3,h_4,h_8,h_9,h_10,h_11,h_12]) (by simp -implicitDefEqProofs [h_1,h_2,h_3,h_4,h_8,h_9,h_10,h_11,h_12]),?_⟩
   try simp -implicitDefEqProofs (maxSteps := 999999) [-selQ_sel,h_1,h_2,h_3,h_4,h_8,h_9,h_10,h_11,h_12]
  ·replace H := HS.cnd_f h_10 H
   try simp -implicitDefEqProofs (maxSteps := 999999) [-selQ_sel,h_1,h_2,h_3,h_4,h_8,h_9,h_10]
   obtain ⟨⟨w30,w31⟩,h_13,H⟩ := HS.bnd H
   try dsimp only at H
   try simp -implicitDefEqProofs (maxSteps := 999999) [-selQ_sel,h_1,h_2,h_3,h_4,h_8,h_9,h_10,h_13]
   have hr := (HS.some H).symm; subst hr
   refine Hid.mk ⟨⟨[(4,AV.optr 1 0 31)],[(0,Ob.box [AV.fsl (List.map eS w31.parts),AV.bool w31.bad]),(1,Ob.box [AV.int .i64 w2,AV.int .i64 w6,AV.bool false,AV.int .i64 v4.a,AV.int .i64 v4.b,AV.int .i64 v4.c,AV.int .i64 v4.d,AV.int .i64 v4.e,AV.int .i64 v4.f,AV.osl 2 0 (List.length w21) (List.length w21),AV.osl 3 0 (List.length w22) (List.length w22),AV.bool false,AV.int .i64 0,AV.nilsl,AV.int .i64 1,AV.int .i64 w30.r,AV.int .i64 w30.g,AV.int .i64 w30.b,AV.int .i64 w30.a,AV.int .i64 0,AV.int .i64 0,AV.int .i64 0,AV.int .i64 0,AV.int .i64 0,AV.int .i64 0,AV.int .i64 0,AV.int .i64 0,AV.int .i64 1,AV.int .i64 255,AV.nilsl,AV.nilsl]),(2,Ob.arr 1 (List.map (AV.int .i64) w21) false),(3,Ob.arr 2 (List.map ePoint w22) false)],4⟩,Wk.ofk [0,1,4,5] hk (by rfl) (by simp -implicitDefEqProofs [h_1,h_2,h_3,h_4,h_8,h_9,h_10,h_13]) (by simp -implicitDefEqProofs [h_1,h_2,h_3,h_4,h_8,h_9,h_10,h_13]),?_⟩
   try simp -implicitDefEqProofs (maxSteps := 999999) [-selQ_sel,h_1,h_2,h_3,h_4,h_8,h_9,h_10,h_13]
theorem spec_Unhex_ok0 (hm : Tryd.prog.follows .mixedOrders = true) (k_spec_l01Value : Sound Tryd.prog 62 spec_l01Value_x) : Sound Tryd.prog 46 spec_Unhex_x := by
 refine xOf_sound fun q r h => ?_
 revert h; revert r; revert q; intro a0 r h
 refine fn_ok E0 hm Tryd.func46 rfl (by decide +kernel) (by rfl) fun Γ hn hk => ?_
 dsimp only [spec_Unhex_e,spec_Unhex_v]
 replace hn : Γ.n = 49 := hn
 replace hk : Γ.k = 0 := hk
 have H : HS (spec_Unhex a0) r := h
 clear h; unfold spec_Unhex at H
 try simp -implicitDefEqProofs at H
 refine Tr.of_vc (cl := tabC [(62,spec_l01Value_x)]) (E := E0) [] (tab_cons k_spec_l01Value tab_nil) hm (by rw [hn]; decide +kernel) ?_
 try simp -implicitDefEqProofs (maxSteps := 999999) [-selQ_sel]
 refine Hid.selQ (fun h_1 => ?_) (fun h_1 => ?_)
 ·replace H := HS.cnd_t h_1 H
  try simp -implicitDefEqProofs (maxSteps := 999999) [-selQ_sel,h_1]
  refine Hid.brV (fun h_2 => ?_) (fun h_2 => ?_)
  ·replace H := HS.cnd_t h_2 H
   try simp -implicitDefEqProofs (maxSteps := 999999) [-selQ_sel,h_1,h_2]
   obtain ⟨q,h_3,H⟩ := HS.bnd H
   refine Hid.mk (Tr.weak (s' := (spec_Unhex_l0_S a0) (0,[])) (Wk.ofk [0] hk (by rfl) (by simp -implicitDefEqProofs [spec_Unhex_l0_S,h_1,h_2]) (by simp -implicitDefEqProofs [spec_Unhex_l0_S,h_1,h_2])) ?_)
   refine wp_loop_of (S := (spec_Unhex_l0_S a0)) (f := (spec_Unhex_l0 a0)) (xt := (spec_Unhex_l0_X a0)) ?_ ?_ h_3 ?_
   ·intro q; rcases q with y12 | ⟨⟩ <;> simp [spec_Unhex_l0_X]
   ·clear H h_3 q
    rintro ⟨x5,x6⟩ o R hf hR
    have H : HS (spec_Unhex_l0 a0 (x5,x6)) o := hf
    clear hf; unfold spec_Unhex_l0 at H
    try simp -implicitDefEqProofs at H
    refine Tr.of_vc (cl := tabC [(62,spec_l01Value_x)]) (E := E0) [] (tab_cons k_spec_l01Value tab_nil) hm (by rw [hn]; decide +kernel) ?_
    try simp -implicitDefEqProofs (maxSteps := 999999) [-selQ_sel,spec_Unhex_l0_S]
    refine Hid.brV (fun h_4 => ?_) (fun h_4 => ?_)
    ·replace H := HS.cnd_t h_4 H
     try simp -implicitDefEqProofs (maxSteps := 999999) [-selQ_sel,h_4]
     have hr := (HS.some H).symm; subst hr
     exact Hid.mk ⟨(spec_Unhex_l0_X a0 (.inl x6)).2,Wk.ofk [0] hk (by rfl) (by simp -implicitDefEqProofs [spec_Unhex_l0_X,h_4]) (by simp -implicitDefEqProofs [spec_Unhex_l0_X,h_4]),hR⟩
    ·replace H := HS.cnd_f h_4 H
     try simp -implicitDefEqProofs (maxSteps := 999999) [-selQ_sel,h_4]
     obtain ⟨b7,h_5,H⟩ := HS.bnd H
     try simp -implicitDefEqProofs (maxSteps := 999999) [-selQ_sel,h_4,h_5]
     obtain ⟨v8,h_6,H⟩ := HS.bnd H
     try simp -implicitDefEqProofs (maxSteps := 999999) [-selQ_sel,h_4,h_5,h_6]
     obtain ⟨b9,h_7,H⟩ := HS.bnd H
     try simp -implicitDefEqProofs (maxSteps := 999999) [-selQ_sel,h_4,h_5,h_6,h_7]
     obtain ⟨v10,h_8,H⟩ := HS.bnd H
     try simp -implicitDefEqProofs (maxSteps := 999999) [-selQ_sel,h_4,h_5,h_6,h_7,h_8]
     refine Hid.selQ (fun h_9 => ?_) (fun h_9 => ?_)
     ·replace H := HS.cnd_t h_9 H
      try simp -implicitDefEqProofs (maxSteps := 999999) [-selQ_sel,h_4,h_5,h_6,h_7,h_8,h_9]
      refine Hid.brV (fun h_10 => ?_) (fun h_10 => ?_)
      ·replace H := HS.cnd_t h_10 H
       try simp -implicitDefEqProofs (maxSteps := 999999) [-selQ_sel,h_4,h_5,h_6,h_7,h_8,h_9,h_10]
       obtain ⟨h_11,H⟩ := HS.chkP H
       try simp -implicitDefEqProofs (maxSteps := 999999) [-selQ_sel,h_4,h_5,h_6,h_7,h_8,h_9,h_10,h_11]
       obtain ⟨l11,h_12,H⟩ := HS.nam H
       have m_13 := congrArg (List.map (AV.int .u8)) h_12
       have q_14 := congrArg List.length h_12
       simp -implicitDefEqProofs at m_13 q_14
       try simp only [q_14] at m_13
       try simp only [q_14] at h_11
       try simp -implicitDefEqProofs (maxSteps := 999999) [-selQ_sel,h_4,h_5,h_6,h_7,h_8,h_9,h_10,h_11,m_13,q_14]
       have hr := (HS.some H).symm; subst hr
       exact Hid.mk ⟨spec_Unhex_l0_S a0 ((IntKind.i64.wrap (x5 + 2)),l11),Wk.ofk [0] hk (by rfl) (by simp -implicitDefEqProofs [spec_Unhex_l0_S,h_4,h_5,h_6,h_7,h_8,h_9,h_10,h_11,m_13,q_14]) (by simp -implicitDefEqProofs [spec_Unhex_l0_S,h_4,h_5,h_6,h_7,h_8,h_9,h_10,h_11,m_13,q_14]),hR⟩
      ·replace H := HS.cnd_f h_10 H
       try simp -implicitDefEqProofs (maxSteps := 999999) [-selQ_sel,h_4,h_5,h_6,h_7,h_8,h_9,h_10]
       have hr := (HS.some H).symm; subst hr
       exact Hid.mk ⟨(spec_Unhex_l0_X a0 (.inr ())).2,Wk.ofk [] hk (by rfl) (by simp -implicitDefEqProofs [spec_Unhex_l0_X,h_4,h_5,h_6,h_7,h_8,h_9,h_10]) (by simp -implicitDefEqProofs [spec_Unhex_l0_X,h_4,h_5,h_6,h_7,h_8,h_9,h_10]),hR⟩
     ·replace H := HS.cnd_f h_9 H
      try simp -implicitDefEqProofs (maxSteps := 999999) [-selQ_sel,h_4,h_5,h_6,h_7,h_8,h_9]
      have hr := (HS.some H).symm; subst hr
      exact Hid.mk ⟨(spec_Unhex_l0_X a0 (.inr ())).2,Wk.ofk [] hk (by rfl) (by simp -implicitDefEqProofs [spec_Unhex_l0_X,h_4,h_5,h_6,h_7,h_8,h_9]) (by simp -implicitDefEqProofs [spec_Unhex_l0_X,h_4,h_5,h_6,h_7,h_8,h_9]),hR⟩
   ·rcases q with y12 | ⟨⟩
    ·dsimp only at H
     try simp -implicitDefEqProofs (maxSteps := 999999) [-selQ_sel,h_1,h_2,spec_Unhex_l0_X]
     have hr := (HS.some H).symm; subst hr
     refine Hid.mk ⟨_,Wk.refl _,?_⟩
     try simp -implicitDefEqProofs (maxSteps := 999999) [-selQ_sel,h_1,h_2]
    ·dsimp only at H
     try simp -implicitDefEqProofs (maxSteps := 999999) [-selQ_sel,h_1,h_2,spec_Unhex_l0_X]
     have hr := (HS.some H).symm; subst hr
     refine Hid.mk ⟨_,Wk.refl _,?_⟩
     try simp -implicitDefEqProofs (maxSteps := 999999) [-selQ_sel,h_1,h_2]
  ·replace H := HS.cnd_f h_2 H
   try simp -implicitDefEqProofs (maxSteps := 999999) [-selQ_sel,h_1,h_2]
   have hr := (HS.some H).symm; subst hr
   refine Hid.mk ⟨_,Wk.refl _,?_⟩
   try simp -implicitDefEqProofs (maxSteps := 999999) [-selQ_sel,h_1,h_2]
 ·replace H := HS.cnd_f h_1 H
  try simp -implicitDefEqProofs (maxSteps := 999999) [-selQ_sel,h_1]
  have hr := (HS.some H).symm; subst hr
  refine Hid.mk ⟨_,Wk.refl _,?_⟩
  try simp -implicitDefEqProofs (maxSteps := 999999) [-selQ_sel,h_1]
theorem spec_l24Lines_ok0 (hm : Tryd.prog.follows .mixedOrders = true) : Sound Tryd.prog 9 spec_l24Lines_x := by
 refine xOf_sound fun q r h => ?_
 revert h; revert r; revert q; intro a0 r h
 refine fn_ok E0 hm Tryd.func9 rfl (by decide +kernel) (by rfl) fun Γ hn hk => ?_
 dsimp only [spec_l24Lines_e,spec_l24Lines_v]
 replace hn : Γ.n = 37 := hn
 replace hk : Γ.k = 0 := hk
 have H : HS (spec_l24Lines a0) r := h
 clear h; unfold spec_l24Lines at H
 try simp -implicitDefEqProofs at H
 refine Tr.of_vc (cl := tabC []) (E := E0) [] tab_nil hm (by rw [hn]; decide +kernel) ?_
 try simp -implicitDefEqProofs (maxSteps := 999999) [-selQ_sel]
 obtain ⟨q,h_1,H⟩ := HS.bnd H
 refine Hid.mk (Tr.weak (s' := (spec_l24Lines_l0_S a0) (0,0,[])) (Wk.ofk [0] hk (by rfl) (by simp -implicitDefEqProofs [spec_l24Lines_l0_S]) (by simp -implicitDefEqProofs [spec_l24Lines_l0_S])) ?_)
 refine wp_loop_of (S := (spec_l24Lines_l0_S a0)) (f := (spec_l24Lines_l0 a0)) (xt := (spec_l24Lines_l0_X a0)) ?_ ?_ h_1 ?_
 ·intro q; rcases q with ⟨y9,y10⟩ <;> simp [spec_l24Lines_l0_X]
 ·clear H h_1 q
  rintro ⟨x3,x4,x5⟩ o R hf hR
  have H : HS (spec_l24Lines_l0 a0 (x3,x4,x5)) o := hf
  clear hf; unfold spec_l24Lines_l0 at H
  try simp -implicitDefEqProofs at H
  refine Tr.of_vc (cl := tabC []) (E := E0) [] tab_nil hm (by rw [hn]; decide +kernel) ?_
  try simp -implicitDefEqProofs (maxSteps := 999999) [-selQ_sel,spec_l24Lines_l0_S]
  refine Hid.brV (fun h_2 => ?_) (fun h_2 => ?_)
  ·replace H := HS.cnd_t h_2 H
   try simp -implicitDefEqProofs (maxSteps := 999999) [-selQ_sel,h_2]
   have hr := (HS.some H).symm; subst hr
   exact Hid.mk ⟨(spec_l24Lines_l0_X a0 (x5,x3)).2,Wk.ofk [0] hk (by rfl) (by simp -implicitDefEqProofs [spec_l24Lines_l0_X,h_2]) (by simp -implicitDefEqProofs [spec_l24Lines_l0_X,h_2]),hR⟩
  ·replace H := HS.cnd_f h_2 H
   try simp -implicitDefEqProofs (maxSteps := 999999) [-selQ_sel,h_2]
   obtain ⟨b6,h_3,H⟩ := HS.bnd H
   try simp -implicitDefEqProofs (maxSteps := 999999) [-selQ_sel,h_2,h_3]
   refine Hid.brV (fun h_4 => ?_) (fun h_4 => ?_)
   ·replace H := HS.cnd_t h_4 H
    try simp -implicitDefEqProofs (maxSteps := 999999) [-selQ_sel,h_2,h_3,h_4]
    obtain ⟨v7,h_5,H⟩ := HS.bnd H
    try simp -implicitDefEqProofs (maxSteps := 999999) [-selQ_sel,h_2,h_3,h_4,h_5]
    obtain ⟨h_6,H⟩ := HS.chkP H
    try simp -implicitDefEqProofs (maxSteps := 999999) [-selQ_sel,h_2,h_3,h_4,h_5,h_6]
    obtain ⟨l8,h_7,H⟩ := HS.nam H
    have m_8 := congrArg (List.map eS) h_7
    have q_9 := congrArg List.length h_7
    simp -implicitDefEqProofs at m_8 q_9
    try simp only [q_9] at m_8
    try simp only [q_9] at h_6
    try simp -implicitDefEqProofs (maxSteps := 999999) [-selQ_sel,h_2,h_3,h_4,h_5,h_6,m_8,q_9]
    have hr := (HS.some H).symm; subst hr
    exact Hid.mk ⟨spec_l24Lines_l0_S a0 ((IntKind.i64.wrap (x4 + 1)),(IntKind.i64.wrap (x4 + 1)),l8),Wk.ofk [0] hk (by rfl) (by simp -implicitDefEqProofs [spec_l24Lines_l0_S,h_2,h_3,h_4,h_5,h_6,m_8,q_9]) (by simp -implicitDefEqProofs [spec_l24Lines_l0_S,h_2,h_3,h_4,h_5,h_6,m_8,q_9]),hR⟩
   ·replace H := HS.cnd_f h_4 H
    try simp -implicitDefEqProofs (maxSteps := 999999) [-selQ_sel,h_2,h_3,h_4]
    have hr := (HS.some H).symm; subst hr
    exact Hid.mk ⟨spec_l24Lines_l0_S a0 (x3,(IntKind.i64.wrap (x4 + 1)),x5),Wk.ofk [0] hk (by rfl) (by simp -implicitDefEqProofs [spec_l24Lines_l0_S,h_2,h_3,h_4]) (by simp -implicitDefEqProofs [spec_l24Lines_l0_S,h_2,h_3,h_4]),hR⟩
 ·obtain ⟨y9,y10⟩ := q
  try dsimp only at H
  try simp -implicitDefEqProofs (maxSteps := 999999) [-selQ_sel,spec_l24Lines_l0_X]
  refine Hid.brV (fun h_10 => ?_) (fun h_10 => ?_)
  ·replace H := HS.cnd_t h_10 H
   try simp -implicitDefEqProofs (maxSteps := 999999) [-selQ_sel,h_10]
   have hr := (HS.some H).symm; subst hr
   refine Hid.mk ⟨_,Wk.refl _,?_⟩
   try simp -implicitDefEqProofs (maxSteps := 999999) [-selQ_sel,h_10]
  ·replace H := HS.cnd_f h_10 H
   try simp -implicitDefEqProofs (maxSteps := 999999) [-selQ_sel,h_10]
   obtain ⟨v11,h_11,H⟩ := HS.bnd H
   try simp -implicitDefEqProofs (maxSteps := 999999) [-selQ_sel,h_10,h_11]
   obtain ⟨h_12,H⟩ := HS.chkP H
   try simp -implicitDefEqProofs (maxSteps := 999999) [-selQ_sel,h_10,h_11,h_12]
   obtain ⟨l12,h_13,H⟩ := HS.nam H
   have m_14 := congrArg (List.map eS) h_13
   have q_15 := congrArg List.length h_13
   simp -implicitDefEqProofs at m_14 q_15
   try simp only [q_15] at m_14
   try simp only [q_15] at h_12
   try simp -implicitDefEqProofs (maxSteps := 999999) [-selQ_sel,h_10,h_11,h_12,m_14,q_15]
   have hr := (HS.some H).symm; subst hr
   refine Hid.mk ⟨_,Wk.refl _,?_⟩
   try simp -implicitDefEqProofs (maxSteps := 999999) [-selQ_sel,h_10,h_11,h_12,m_14,q_15]
theorem laws_eqDeedS_ok0 (hm : Tryd.prog.follows .mixedOrders = true) (k_laws_eqDeed : Sound Tryd.prog 17 laws_eqDeed_x) : Sound Tryd.prog 6 laws_eqDeedS_x := by
 refine xOf_sound fun q r h => ?_
 obtain ⟨a0,a1⟩ := q
 refine fn_ok E0 hm Tryd.func6 rfl (by decide +kernel) (by rfl) fun Γ hn hk => ?_
 dsimp only [laws_eqDeedS_e,laws_eqDeedS_v]
 replace hn : Γ.n = 27 := hn
 replace hk : Γ.k = 0 := hk
 have H : HS (laws_eqDeedS a0 a1) r := h
 clear h; unfold laws_eqDeedS at H
 try simp -implicitDefEqProofs at H
 refine Tr.of_vc (cl := tabC [(17,laws_eqDeed_x)]) (E := E0) [] (tab_cons k_laws_eqDeed tab_nil) hm (by rw [hn]; decide +kernel) ?_
 try simp -implicitDefEqProofs +decide (maxSteps := 999999) [-selQ_sel,hokQ_of]
 refine Hid.brV (fun h_1 => ?_) (fun h_1 => ?_)
 ·replace H := HS.cnd_t h_1 H
  try simp -implicitDefEqProofs +decide (maxSteps := 999999) [-selQ_sel,hokQ_of,h_1]
  obtain ⟨q,h_2,H⟩ := HS.bnd H
  refine Hid.mk (Tr.weak (s' := (laws_eqDeedS_l0_S a0 a1) 0) (Wk.ofk [] hk (by rfl) (by simp -implicitDefEqProofs [laws_eqDeedS_l0_S,h_1]) (by simp -implicitDefEqProofs [laws_eqDeedS_l0_S,h_1])) ?_)
  refine wp_loop_of (S := (laws_eqDeedS_l0_S a0 a1)) (f := (laws_eqDeedS_l0 a0 a1)) (xt := (laws_eqDeedS_l0_X a0 a1)) ?_ ?_ h_2 ?_
  ·intro q; rcases q with ⟨⟩ | ⟨⟩ <;> simp [laws_eqDeedS_l0_X]
  ·clear H h_2 q
   rintro x4 o R hf hR
   have H : HS (laws_eqDeedS_l0 a0 a1 x4) o := hf
   clear hf; unfold laws_eqDeedS_l0 at H
   try simp -implicitDefEqProofs at H
   refine Tr.of_vc (cl := tabC [(17,laws_eqDeed_x)]) (E := E0) [] (tab_cons k_laws_eqDeed tab_nil) hm (by rw [hn]; decide +kernel) ?_
   try simp -implicitDefEqProofs +decide (maxSteps := 999999) [-selQ_sel,hokQ_of,laws_eqDeedS_l0_S]
   refine Hid.brV (fun h_3 => ?_) (fun h_3 => ?_)
   ·replace H := HS.cnd_t h_3 H
    try simp -implicitDefEqProofs +decide (maxSteps := 999999) [-selQ_sel,hokQ_of,h_3]
    have hr := (HS.some H).symm; subst hr
    exact Hid.mk ⟨(laws_eqDeedS_l0_X a0 a1 (.inl ())).2,Wk.ofk [] hk (by rfl) (by simp -implicitDefEqProofs [laws_eqDeedS_l0_X,h_3]) (by simp -implicitDefEqProofs [laws_eqDeedS_l0_X,h_3]),hR⟩
   ·replace H := HS.cnd_f h_3 H
    try simp -implicitDefEqProofs +decide (maxSteps := 999999) [-selQ_sel,hokQ_of,h_3]
    obtain ⟨v5,h_4,H⟩ := HS.bnd H
    try simp -implicitDefEqProofs +decide (maxSteps := 999999) [-selQ_sel,hokQ_of,h_3,h_4]
    obtain ⟨v6,h_5,H⟩ := HS.bnd H
    try simp -implicitDefEqProofs +decide (maxSteps := 999999) [-selQ_sel,hokQ_of,h_3,h_4,h_5]
    obtain ⟨v7,h_6,H⟩ := HS.bnd H
    try simp -implicitDefEqProofs +decide (maxSteps := 999999) [-selQ_sel,hokQ_of,h_3,h_4,h_5,h_6]
    refine Hid.brV (fun h_7 => ?_) (fun h_7 => ?_)
    ·replace H := HS.cnd_t h_7 H
     try simp -implicitDefEqProofs +decide (maxSteps := 999999) [-selQ_sel,hokQ_of,h_3,h_4,h_5,h_6,h_7]
     have hr := (HS.some H).symm; subst hr
     exact Hid.mk ⟨laws_eqDeedS_l0_S a0 a1 (IntKind.i64.wrap (x4 + 1)),Wk.ofk [] hk (by rfl) (by simp -implicitDefEqProofs [laws_eqDeedS_l0_S,h_3,h_4,h_5,h_6,h_7]) (by simp -implicitDefEqProofs [laws_eqDeedS_l0_S,h_3,h_4,h_5,h_6,h_7]),hR⟩
    ·replace H := HS.cnd_f h_7 H
     try simp -implicitDefEqProofs +decide (maxSteps := 999999) [-selQ_sel,hokQ_of,h_3,h_4,h_5,h_6,h_7]
     have hr := (HS.some H).symm; subst hr
     exact Hid.mk ⟨(laws_eqDeedS_l0_X a0 a1 (.inr ())).2,Wk.ofk [] hk (by rfl) (by simp -implicitDefEqProofs [laws_eqDeedS_l0_X,h_3,h_4,h_5,h_6,h_7]) (by simp -implicitDefEqProofs [laws_eqDeedS_l0_X,h_3,h_4,h_5,h_6,h_7]),hR⟩
  ·rcases q with ⟨⟩ | ⟨⟩
   ·dsimp only at H
    try simp -implicitDefEqProofs +decide (maxSteps := 999999) [-selQ_sel,hokQ_of,h_1,laws_eqDeedS_l0_X]
    have hr := (HS.some H).symm; subst hr
    refine Hid.mk ⟨_,Wk.refl _,?_⟩
    try simp -implicitDefEqProofs +decide (maxSteps := 999999) [-selQ_sel,hokQ_of,h_1]
   ·dsimp only at H
    try simp -implicitDefEqProofs +decide (maxSteps := 999999) [-selQ_sel,hokQ_of,h_1,laws_eqDeedS_l0_X]
    have hr := (HS.some H).symm; subst hr
    refine Hid.mk ⟨_,Wk.refl _,?_⟩
    try simp -implicitDefEqProofs +decide (maxSteps := 999999) [-selQ_sel,hokQ_of,h_1]
 ·replace H := HS.cnd_f h_1 H
  try simp -implicitDefEqProofs +decide (maxSteps := 999999) [-selQ_sel,hokQ_of,h_1]
  have hr := (HS.some H).symm; subst hr
  refine Hid.mk ⟨_,Wk.refl _,?_⟩
  try simp -implicitDefEqProofs +decide (maxSteps := 999999) [-selQ_sel,hokQ_of,h_1]
theorem spec_l24Nums_ok0 (hm : Tryd.prog.follows .mixedOrders = true) (k_spec_ReadDecimal : Sound Tryd.prog 35 spec_ReadDecimal_x) : Sound Tryd.prog 23 spec_l24Nums_x := by
 refine xOf_sound fun q r h => ?_
 obtain ⟨a0,a1,a2⟩ := q
 refine fn_ok E0 hm Tryd.func23 rfl (by decide +kernel) (by rfl) fun Γ hn hk => ?_
 dsimp only [spec_l24Nums_e,spec_l24Nums_v]
 replace hn : Γ.n = 37 := hn
 replace hk : Γ.k = 0 := hk
 have H : HS (spec_l24Nums a0 a1 a2) r := h
 clear h; unfold spec_l24Nums at H
 try simp -implicitDefEqProofs at H
 refine Tr.of_vc (cl := tabC [(35,spec_ReadDecimal_x)]) (E := E0) [] (tab_cons k_spec_ReadDecimal tab_nil) hm (by rw [hn]; decide +kernel) ?_
 try simp -implicitDefEqProofs (maxSteps := 999999) [-selQ_sel]
 obtain ⟨q,h_1,H⟩ := HS.bnd H
 refine Hid.mk (Tr.weak (s' := (spec_l24Nums_l0_S a0 a1 a2) (a1,[])) (Wk.ofk [0] hk (by rfl) (by simp -implicitDefEqProofs [spec_l24Nums_l0_S]) (by simp -implicitDefEqProofs [spec_l24Nums_l0_S])) ?_)
 refine wp_loop_of (S := (spec_l24Nums_l0_S a0 a1 a2)) (f := (spec_l24Nums_l0 a0 a1 a2)) (xt := (spec_l24Nums_l0_X a0 a1 a2)) ?_ ?_ h_1 ?_
 ·intro q; rcases q with y12 | ⟨⟩ <;> simp [spec_l24Nums_l0_X]
 ·clear H h_1 q
  rintro ⟨x5,x6⟩ o R hf hR
  have H : HS (spec_l24Nums_l0 a0 a1 a2 (x5,x6)) o := hf
  clear hf; unfold spec_l24Nums_l0 at H
  try simp -implicitDefEqProofs at H
  refine Tr.of_vc (cl := tabC [(35,spec_ReadDecimal_x)]) (E := E0) [] (tab_cons k_spec_ReadDecimal tab_nil) hm (by rw [hn]; decide +kernel) ?_
  try simp -implicitDefEqProofs (maxSteps := 999999) [-selQ_sel,spec_l24Nums_l0_S]
  refine Hid.brV (fun h_2 => ?_) (fun h_2 => ?_)
  ·replace H := HS.cnd_t h_2 H
   try simp -implicitDefEqProofs (maxSteps := 999999) [-selQ_sel,h_2]
   have hr := (HS.some H).symm; subst hr
   exact Hid.mk ⟨(spec_l24Nums_l0_X a0 a1 a2 (.inl x6)).2,Wk.ofk [0] hk (by rfl) (by simp -implicitDefEqProofs [spec_l24Nums_l0_X,h_2]) (by simp -implicitDefEqProofs [spec_l24Nums_l0_X,h_2]),hR⟩
  ·replace H := HS.cnd_f h_2 H
   try simp -implicitDefEqProofs (maxSteps := 999999) [-selQ_sel,h_2]
   obtain ⟨v7,h_3,H⟩ := HS.bnd H
   try simp -implicitDefEqProofs (maxSteps := 999999) [-selQ_sel,h_2,h_3]
   obtain ⟨⟨w9,w10⟩,h_4,H⟩ := HS.bnd H
   try dsimp only at H
   try simp -implicitDefEqProofs (maxSteps := 999999) [-selQ_sel,h_2,h_3,h_4]
   refine Hid.brV (fun h_5 => ?_) (fun h_5 => ?_)
   ·replace H := HS.cnd_t h_5 H
    try simp -implicitDefEqProofs (maxSteps := 999999) [-selQ_sel,h_2,h_3,h_4,h_5]
    obtain ⟨h_6,H⟩ := HS.chkP H
    try simp -implicitDefEqProofs (maxSteps := 999999) [-selQ_sel,h_2,h_3,h_4,h_5,h_6]
    obtain ⟨l11,h_7,H⟩ := HS.nam H
    have m_8 := congrArg (List.map (AV.int .i64)) h_7
    have q_9 := congrArg List.length h_7
    simp -implicitDefEqProofs at m_8 q_9
    try simp only [q_9] at m_8
    try simp only [q_9] at h_6
    try simp -implicitDefEqProofs (maxSteps := 999999) [-selQ_sel,h_2,h_3,h_4,h_5,h_6,m_8,q_9]
    have hr := (HS.some H).symm; subst hr
    exact Hid.mk ⟨spec_l24Nums_l0_S a0 a1 a2 ((IntKind.i64.wrap (x5 + 1)),l11),Wk.ofk [0] hk (by rfl) (by simp -implicitDefEqProofs [spec_l24Nums_l0_S,h_2,h_3,h_4,h_5,h_6,m_8,q_9]) (by simp -implicitDefEqProofs [spec_l24Nums_l0_S,h_2,h_3,h_4,h_5,h_6,m_8,q_9]),hR⟩
   ·replace H := HS.cnd_f h_5 H
    try simp -implicitDefEqProofs (maxSteps := 999999) [-selQ_sel,h_2,h_3,h_4,h_5]
    have hr := (HS.some H).symm; subst hr
    exact Hid.mk ⟨(spec_l24Nums_l0_X a0 a1 a2 (.inr ())).2,Wk.ofk [1] hk (by rfl) (by simp -implicitDefEqProofs [spec_l24Nums_l0_X,h_2,h_3,h_4,h_5]) (by simp -implicitDefEqProofs [spec_l24Nums_l0_X,h_2,h_3,h_4,h_5]),hR⟩
 ·rcases q with y12 | ⟨⟩
  ·dsimp only at H
   try simp -implicitDefEqProofs (maxSteps := 999999) [-selQ_sel,spec_l24Nums_l0_X]
   have hr := (HS.some H).symm; subst hr
   refine Hid.mk ⟨_,Wk.refl _,?_⟩
   try simp -implicitDefEqProofs (maxSteps := 999999) [-selQ_sel]
  ·dsimp only at H
   try simp -implicitDefEqProofs (maxSteps := 999999) [-selQ_sel,spec_l24Nums_l0_X]
   have hr := (HS.some H).symm; subst hr
   refine Hid.mk ⟨_,Wk.refl _,?_⟩
   try simp -implicitDefEqProofs (maxSteps := 999999) [-selQ_sel]
theorem laws_eqPaint_ok0 (hm : Tryd.prog.follows .mixedOrders = true) (k_laws_eqColor : Sound Tryd.prog 60 laws_eqColor_x) (k_laws_eqPoint : Sound Tryd.prog 61 laws_eqPoint_x) : Sound Tryd.prog 45 laws_eqPaint_x := by
 refine xOf_sound fun q r h => ?_
 obtain ⟨a0,a1⟩ := q
 refine fn_ok E0 hm Tryd.func45 rfl (by decide +kernel) (by rfl) fun Γ hn hk => ?_
 dsimp only [laws_eqPaint_e,laws_eqPaint_v]
 replace hn : Γ.n = 34 := hn
 replace hk : Γ.k = 0 := hk
 have H : HS (laws_eqPaint a0 a1) r := h
 clear h; unfold laws_eqPaint at H
 try simp -implicitDefEqProofs at H
 refine Tr.of_vc (cl := tabC [(60,laws_eqColor_x),(61,laws_eqPoint_x)]) (E := E0) [] (tab_cons k_laws_eqColor (tab_cons k_laws_eqPoint tab_nil)) hm (by rw [hn]; decide +kernel) ?_
 try simp -implicitDefEqProofs (maxSteps := 999999) [-selQ_sel]
 refine Hid.brV (fun h_1 => ?_) (fun h_1 => ?_)
 ·replace H := HS.cnd_t h_1 H
  try simp -implicitDefEqProofs (maxSteps := 999999) [-selQ_sel,h_1]
  obtain ⟨v1,h_2,H⟩ := HS.bnd H
  try simp -implicitDefEqProofs (maxSteps := 999999) [-selQ_sel,h_1,h_2]
  refine Hid.brV (fun h_3 => ?_) (fun h_3 => ?_)
  ·replace H := HS.cnd_t h_3 H
   try simp -implicitDefEqProofs (maxSteps := 999999) [-selQ_sel,h_1,h_2,h_3]
   obtain ⟨v2,h_4,H⟩ := HS.bnd H
   try simp -implicitDefEqProofs (maxSteps := 999999) [-selQ_sel,h_1,h_2,h_3,h_4]
   refine Hid.brV (fun h_5 => ?_) (fun h_5 => ?_)
   ·replace H := HS.cnd_t h_5 H
    try simp -implicitDefEqProofs (maxSteps := 999999) [-selQ_sel,h_1,h_2,h_3,h_4,h_5]
    obtain ⟨v3,h_6,H⟩ := HS.bnd H
    try simp -implicitDefEqProofs (maxSteps := 999999) [-selQ_sel,h_1,h_2,h_3,h_4,h_5,h_6]
    refine Hid.brV (fun h_7 => ?_) (fun h_7 => ?_)
    ·replace H := HS.cnd_t h_7 H
     try simp -implicitDefEqProofs (maxSteps := 999999) [-selQ_sel,h_1,h_2,h_3,h_4,h_5,h_6,h_7]
     obtain ⟨v4,h_8,H⟩ := HS.bnd H
     try simp -implicitDefEqProofs (maxSteps := 999999) [-selQ_sel,h_1,h_2,h_3,h_4,h_5,h_6,h_7,h_8]
     refine Hid.brV (fun h_9 => ?_) (fun h_9 => ?_)
     ·replace H := HS.cnd_t h_9 H
      try simp -implicitDefEqProofs (maxSteps := 999999) [-selQ_sel,h_1,h_2,h_3,h_4,h_5,h_6,h_7,h_8,h_9]
      have hr := (HS.some H).symm; subst hr
      refine Hid.mk ⟨_,Wk.refl _,?_⟩
      try simp -implicitDefEqProofs (maxSteps := 999999) [-selQ_sel,h_1,h_2,h_3,h_4,h_5,h_6,h_7,h_8,h_9]
     ·replace H := HS.cnd_f h_9 H
      try simp -implicitDefEqProofs (maxSteps := 999999) [-selQ_sel,h_1,h_2,h_3,h_4,h_5,h_6,h_7,h_8,h_9]
      have hr := (HS.some H).symm; subst hr
      refine Hid.mk ⟨_,Wk.refl _,?_⟩
      try simp -implicitDefEqProofs (maxSteps := 999999) [-selQ_sel,h_1,h_2,h_3,h_4,h_5,h_6,h_7,h_8,h_9]
    ·replace H := HS.cnd_f h_7 H
     try simp -implicitDefEqProofs (maxSteps := 999999) [-selQ_sel,h_1,h_2,h_3,h_4,h_5,h_6,h_7]
     have hr := (HS.some H).symm; subst hr
     refine Hid.mk ⟨_,Wk.refl _,?_⟩
     try simp -implicitDefEqProofs (maxSteps := 999999) [-selQ_sel,h_1,h_2,h_3,h_4,h_5,h_6,h_7]
   ·replace H := HS.cnd_f h_5 H
    try simp -implicitDefEqProofs (maxSteps := 999999) [-selQ_sel,h_1,h_2,h_3,h_4,h_5]
    have hr := (HS.some H).symm; subst hr
    refine Hid.mk ⟨_,Wk.refl _,?_⟩
    try simp -implicitDefEqProofs (maxSteps := 999999) [-selQ_sel,h_1,h_2,h_3,h_4,h_5]
  ·replace H := HS.cnd_f h_3 H
   try simp -implicitDefEqProofs (maxSteps := 999999) [-selQ_sel,h_1,h_2,h_3]
   have hr := (HS.some H).symm; subst hr
   refine Hid.mk ⟨_,Wk.refl _,?_⟩
   try simp -implicitDefEqProofs (maxSteps := 999999) [-selQ_sel,h_1,h_2,h_3]
 ·replace H := HS.cnd_f h_1 H
  try simp -implicitDefEqProofs (maxSteps := 999999) [-selQ_sel,h_1]
  have hr := (HS.some H).symm; subst hr
  refine Hid.mk ⟨_,Wk.refl _,?_⟩
  try simp -implicitDefEqProofs (maxSteps := 999999) [-selQ_sel,h_1]
theorem impl_pointsOk_ok0 (hm : Tryd.prog.follows .mixedOrders = true) (k_impl_PointOk : Sound Tryd.prog 78 impl_PointOk_x) : Sound Tryd.prog 70 impl_pointsOk_x := by
 refine xOf_sound fun q r h => ?_
 revert h; revert r; revert q; intro a0 r h
 refine fn_ok E0 hm Tryd.func70 rfl (by decide +kernel) (by rfl) fun Γ hn hk => ?_
 dsimp only [impl_pointsOk_e,impl_pointsOk_v]
 replace hn : Γ.n = 15 := hn
 replace hk : Γ.k = 0 := hk
 have H : HS (impl_pointsOk a0) r := h
 clear h; unfold impl_pointsOk at H
 try simp -implicitDefEqProofs at H
 refine Tr.of_vc (cl := tabC [(78,impl_PointOk_x)]) (E := E0) [] (tab_cons k_impl_PointOk tab_nil) hm (by rw [hn]; decide +kernel) ?_
 try simp -implicitDefEqProofs (maxSteps := 999999) [-selQ_sel]
 obtain ⟨q,h_1,H⟩ := HS.bnd H
 refine Hid.mk (Tr.weak (s' := (impl_pointsOk_l0_S a0) 0) (Wk.ofk [] hk (by rfl) (by simp -implicitDefEqProofs [impl_pointsOk_l0_S]) (by simp -implicitDefEqProofs [impl_pointsOk_l0_S])) ?_)
 refine wp_loop_of (S := (impl_pointsOk_l0_S a0)) (f := (impl_pointsOk_l0 a0)) (xt := (impl_pointsOk_l0_X a0)) ?_ ?_ h_1 ?_
 ·intro q; rcases q with ⟨⟩ | ⟨⟩ <;> simp [impl_pointsOk_l0_X]
 ·clear H h_1 q
  rintro x3 o R hf hR
  have H : HS (impl_pointsOk_l0 a0 x3) o := hf
  clear hf; unfold impl_pointsOk_l0 at H
  try simp -implicitDefEqProofs at H
  refine Tr.of_vc (cl := tabC [(78,impl_PointOk_x)]) (E := E0) [] (tab_cons k_impl_PointOk tab_nil) hm (by rw [hn]; decide +kernel) ?_
  try simp -implicitDefEqProofs (maxSteps := 999999) [-selQ_sel,impl_pointsOk_l0_S]
  refine Hid.brV (fun h_2 => ?_) (fun h_2 => ?_)
  ·replace H := HS.cnd_t h_2 H
   try simp -implicitDefEqProofs (maxSteps := 999999) [-selQ_sel,h_2]
   have hr := (HS.some H).symm; subst hr
   exact Hid.mk ⟨(impl_pointsOk_l0_X a0 (.inl ())).2,Wk.ofk [] hk (by rfl) (by simp -implicitDefEqProofs [impl_pointsOk_l0_X,h_2]) (by simp -implicitDefEqProofs [impl_pointsOk_l0_X,h_2]),hR⟩
  ·replace H := HS.cnd_f h_2 H
   try simp -implicitDefEqProofs (maxSteps := 999999) [-selQ_sel,h_2]
   obtain ⟨v4,h_3,H⟩ := HS.bnd H
   try simp -implicitDefEqProofs (maxSteps := 999999) [-selQ_sel,h_2,h_3]
   obtain ⟨v5,h_4,H⟩ := HS.bnd H
   try simp -implicitDefEqProofs (maxSteps := 999999) [-selQ_sel,h_2,h_3,h_4]
   refine Hid.brV (fun h_5 => ?_) (fun h_5 => ?_)
   ·replace H := HS.cnd_t h_5 H
    try simp -implicitDefEqProofs (maxSteps := 999999) [-selQ_sel,h_2,h_3,h_4,h_5]
    have hr := (HS.some H).symm; subst hr
    exact Hid.mk ⟨impl_pointsOk_l0_S a0 (IntKind.i64.wrap (x3 + 1)),Wk.ofk [] hk (by rfl) (by simp -implicitDefEqProofs [impl_pointsOk_l0_S,h_2,h_3,h_4,h_5]) (by simp -implicitDefEqProofs [impl_pointsOk_l0_S,h_2,h_3,h_4,h_5]),hR⟩
   ·replace H := HS.cnd_f h_5 H
    try simp -implicitDefEqProofs (maxSteps := 999999) [-selQ_sel,h_2,h_3,h_4,h_5]
    have hr := (HS.some H).symm; subst hr
    exact Hid.mk ⟨(impl_pointsOk_l0_X a0 (.inr ())).2,Wk.ofk [] hk (by rfl) (by simp -implicitDefEqProofs [impl_pointsOk_l0_X,h_2,h_3,h_4,h_5]) (by simp -implicitDefEqProofs [impl_pointsOk_l0_X,h_2,h_3,h_4,h_5]),hR⟩
 ·rcases q with ⟨⟩ | ⟨⟩
  ·dsimp only at H
   try simp -implicitDefEqProofs (maxSteps := 999999) [-selQ_sel,impl_pointsOk_l0_X]
   have hr := (HS.some H).symm; subst hr
   refine Hid.mk ⟨_,Wk.refl _,?_⟩
   try simp -implicitDefEqProofs (maxSteps := 999999) [-selQ_sel]
  ·dsimp only at H
   try simp -implicitDefEqProofs (maxSteps := 999999) [-selQ_sel,impl_pointsOk_l0_X]
   have hr := (HS.some H).symm; subst hr
   refine Hid.mk ⟨_,Wk.refl _,?_⟩
   try simp -implicitDefEqProofs (maxSteps := 999999) [-selQ_sel]
theorem spec_l01Value_ok0 (hm : Tryd.prog.follows .mixedOrders = true) : Sound Tryd.prog 62 spec_l01Value_x := by
 refine xOf_sound fun q r h => ?_
 revert h; revert r; revert q; intro a0 r h
 refine fn_ok E0 hm Tryd.func62 rfl (by decide +kernel) (by rfl) fun Γ hn hk => ?_
 dsimp only [spec_l01Value_e,spec_l01Value_v]
 replace hn : Γ.n = 22 := hn
 replace hk : Γ.k = 0 := hk
 have H : HS (spec_l01Value a0) r := h
 clear h; unfold spec_l01Value at H
 try simp -implicitDefEqProofs at H
 refine Tr.of_vc (cl := tabC []) (E := E0) [] tab_nil hm (by rw [hn]; decide +kernel) ?_
 try simp -implicitDefEqProofs (maxSteps := 999999) [-selQ_sel]
 refine Hid.selQ (fun h_1 => ?_) (fun h_1 => ?_)
 ·replace H := HS.cnd_t h_1 H
  try simp -implicitDefEqProofs (maxSteps := 999999) [-selQ_sel,h_1]
  refine Hid.brV (fun h_2 => ?_) (fun h_2 => ?_)
  ·replace H := HS.cnd_t h_2 H
   try simp -implicitDefEqProofs (maxSteps := 999999) [-selQ_sel,h_1,h_2]
   have hr := (HS.some H).symm; subst hr
   refine Hid.mk ⟨_,Wk.refl _,?_⟩
   try simp -implicitDefEqProofs (maxSteps := 999999) [-selQ_sel,h_1,h_2]
  ·replace H := HS.cnd_f h_2 H
   try simp -implicitDefEqProofs (maxSteps := 999999) [-selQ_sel,h_1,h_2]
   refine Hid.selQ (fun h_3 => ?_) (fun h_3 => ?_)
   ·replace H := HS.cnd_t h_3 H
    try simp -implicitDefEqProofs (maxSteps := 999999) [-selQ_sel,h_1,h_2,h_3]
    refine Hid.brV (fun h_4 => ?_) (fun h_4 => ?_)
    ·replace H := HS.cnd_t h_4 H
     try simp -implicitDefEqProofs (maxSteps := 999999) [-selQ_sel,h_1,h_2,h_3,h_4]
     have hr := (HS.some H).symm; subst hr
     refine Hid.mk ⟨_,Wk.refl _,?_⟩
     try simp -implicitDefEqProofs (maxSteps := 999999) [-selQ_sel,h_1,h_2,h_3,h_4]
    ·replace H := HS.cnd_f h_4 H
     try simp -implicitDefEqProofs (maxSteps := 999999) [-selQ_sel,h_1,h_2,h_3,h_4]
     have hr := (HS.some H).symm; subst hr
     refine Hid.mk ⟨_,Wk.refl _,?_⟩
     try simp -implicitDefEqProofs (maxSteps := 999999) [-selQ_sel,h_1,h_2,h_3,h_4]
   ·replace H := HS.cnd_f h_3 H
    try simp -implicitDefEqProofs (maxSteps := 999999) [-selQ_sel,h_1,h_2,h_3]
    have hr := (HS.some H).symm; subst hr
    refine Hid.mk ⟨_,Wk.refl _,?_⟩
    try simp -implicitDefEqProofs (maxSteps := 999999) [-selQ_sel,h_1,h_2,h_3]
 ·replace H := HS.cnd_f h_1 H
  try simp -implicitDefEqProofs (maxSteps := 999999) [-selQ_sel,h_1]
  refine Hid.selQ (fun h_5 => ?_) (fun h_5 => ?_)
  ·replace H := HS.cnd_t h_5 H
   try simp -implicitDefEqProofs (maxSteps := 999999) [-selQ_sel,h_1,h_5]
   refine Hid.brV (fun h_6 => ?_) (fun h_6 => ?_)
   ·replace H := HS.cnd_t h_6 H
    try simp -implicitDefEqProofs (maxSteps := 999999) [-selQ_sel,h_1,h_5,h_6]
    have hr := (HS.some H).symm; subst hr
    refine Hid.mk ⟨_,Wk.refl _,?_⟩
    try simp -implicitDefEqProofs (maxSteps := 999999) [-selQ_sel,h_1,h_5,h_6]
   ·replace H := HS.cnd_f h_6 H
    try simp -implicitDefEqProofs (maxSteps := 999999) [-selQ_sel,h_1,h_5,h_6]
    have hr := (HS.some H).symm; subst hr
    refine Hid.mk ⟨_,Wk.refl _,?_⟩
    try simp -implicitDefEqProofs (maxSteps := 999999) [-selQ_sel,h_1,h_5,h_6]
  ·replace H := HS.cnd_f h_5 H
   try simp -implicitDefEqProofs (maxSteps := 999999) [-selQ_sel,h_1,h_5]
   have hr := (HS.some H).symm; subst hr
   refine Hid.mk ⟨_,Wk.refl _,?_⟩
   try simp -implicitDefEqProofs (maxSteps := 999999) [-selQ_sel,h_1,h_5]
def xtSplitR : Go.Shelf.Ren := ⟨fun n => if n = 138 then 51 else if n = 143 then 52 else if n = 146 then 26 else if n = 195 then 64 else if n = 197 then 65 else if n = 217 then 74 else if n = 218 then 66 else if n = 219 then 67 else if n = 221 then 37 else if n = 224 then 76 else if n = 225 then 75 else if n = 260 then 73 else if n = 266 then 81 else if n = 267 then 77 else if n = 268 then 50 else if n = 314 then 82 else 0,fun n => if n = 0 then 0 else if n = 3 then 3 else if n = 4 then 4 else if n = 5 then 5 else if n = 9 then 9 else if n = 21 then 21 else if n = 31 then 28 else if n = 46 then 121 else if n = 51 then 126 else if n = 105 then 115 else if n = 119 then 122 else if n = 138 then 124 else if n = 139 then 125 else if n = 146 then 127 else 0,fun n => if n = 1 then 0 else if n = 3 then 1 else if n = 4 then 2 else if n = 17 then 3 else if n = 18 then 4 else if n = 19 then 5 else 0⟩
theorem xtSplitL : Go.Proofs.Lays.n146 Tryd.prog xtSplitR where
 mixed := by kernel_rfl
 f138 := by kernel_rfl
 f143 := by kernel_rfl
 f146 := by kernel_rfl
 f195 := by kernel_rfl
 f197 := by kernel_rfl
 f217 := by kernel_rfl
 f218 := by kernel_rfl
 f219 := by kernel_rfl
 f221 := by kernel_rfl
 f224 := by kernel_rfl
 f225 := by kernel_rfl
 f260 := by kernel_rfl
 f266 := by kernel_rfl
 f267 := by kernel_rfl
 f268 := by kernel_rfl
 f314 := by kernel_rfl
 t0 := by kernel_rfl
 a0 := fun _ => rfl
 z0 := fun _ => rfl
 v0 := fun _ => rfl
 t3 := by kernel_rfl
 a3 := fun _ => rfl
 z3 := fun _ => rfl
 v3 := fun _ => rfl
 t4 := by kernel_rfl
 a4 := fun _ => rfl
 z4 := fun _ => rfl
 v4 := fun _ => rfl
 t5 := by kernel_rfl
 a5 := fun _ => rfl
 z5 := fun _ => rfl
 v5 := fun _ => rfl
 t9 := by kernel_rfl
 a9 := fun _ => rfl
 z9 := fun _ => rfl
 v9 := fun _ => rfl
 t21 := by kernel_rfl
 a21 := fun _ => rfl
 z21 := fun _ => rfl
 v21 := fun _ => rfl
 t31 := by kernel_rfl
 a31 := fun _ => rfl
 z31 := fun _ => rfl
 v31 := fun _ => rfl
 t46 := by kernel_rfl
 a46 := fun _ => rfl
 z46 := fun _ => rfl
 v46 := fun _ => rfl
 t51 := by kernel_rfl
 a51 := fun _ => rfl
 z51 := fun _ => rfl
 v51 := fun _ => rfl
 t105 := by kernel_rfl
 a105 := fun _ => rfl
 z105 := fun _ => rfl
 v105 := fun _ => rfl
 t119 := by kernel_rfl
 a119 := fun _ => rfl
 z119 := fun _ => rfl
 t138 := by kernel_rfl
 a138 := fun _ => rfl
 z138 := fun _ => rfl
 v138 := fun _ => rfl
 t139 := by kernel_rfl
 a139 := fun _ => rfl
 z139 := fun _ => rfl
 v139 := fun _ => rfl
 t146 := by kernel_rfl
 a146 := fun _ => rfl
 z146 := fun _ => rfl
 v146 := fun _ => rfl
 g1 := by kernel_rfl
 g3 := by kernel_rfl
 g4 := by kernel_rfl
theorem strings_Split_ok0 (hm : Tryd.prog.follows .mixedOrders = true) : Sound Tryd.prog 26 strings_Split_x := by
 refine xOf_sound fun q r h => ?_
 obtain ⟨a0,a1⟩ := q
 have H : HS (strings_Split a0 a1) r := h
 clear h; unfold strings_Split at H
 obtain ⟨h1,H⟩ := HS.chkP H
 have hr := (HS.some H).symm; subst hr
 exact ⟨⟨Tryd.f26,_,Tryd.func26,rfl,by decide +kernel⟩,ck_split (fun s sep m w k1 k2 k3 => Go.Proofs.Any.strings_Split xtSplitL (by kernel_rfl) s sep m w k1 k2 k3) h1.1 h1.2⟩
theorem spec_l24Plain_ok0 (hm : Tryd.prog.follows .mixedOrders = true) (k_spec_Unhex : Sound Tryd.prog 46 spec_Unhex_x) : Sound Tryd.prog 33 spec_l24Plain_x := by
 refine xOf_sound fun q r h => ?_
 revert h; revert r; revert q; intro a0 r h
 refine fn_ok E0 hm Tryd.func33 rfl (by decide +kernel) (by rfl) fun Γ hn hk => ?_
 dsimp only [spec_l24Plain_e,spec_l24Plain_v]
 replace hn : Γ.n = 33 := hn
 replace hk : Γ.k = 0 := hk
 have H : HS (spec_l24Plain a0) r := h
 clear h; unfold spec_l24Plain at H
 try simp -implicitDefEqProofs at H
 refine Tr.of_vc (cl := tabC [(46,spec_Unhex_x)]) (E := E0) [] (tab_cons k_spec_Unhex tab_nil) hm (by rw [hn]; decide +kernel) ?_
 try simp -implicitDefEqProofs +decide (maxSteps := 999999) [-selQ_sel,hokQ_of]
 obtain ⟨⟨w2,w3⟩,h_1,H⟩ := HS.bnd H
 try dsimp only at H
 try simp -implicitDefEqProofs +decide (maxSteps := 999999) [-selQ_sel,hokQ_of,h_1]
 refine Hid.selQ (fun h_2 => ?_) (fun h_2 => ?_)
 ·replace H := HS.cnd_t h_2 H
  try simp -implicitDefEqProofs +decide (maxSteps := 999999) [-selQ_sel,hokQ_of,h_1,h_2]
  refine Hid.brV (fun h_3 => ?_) (fun h_3 => ?_)
  ·replace H := HS.cnd_t h_3 H
   try simp -implicitDefEqProofs +decide (maxSteps := 999999) [-selQ_sel,hokQ_of,h_1,h_2,h_3]
   obtain ⟨b4,h_4,H⟩ := HS.bnd H
   try simp -implicitDefEqProofs +decide (maxSteps := 999999) [-selQ_sel,hokQ_of,h_1,h_2,h_3,h_4]
   obtain ⟨b5,h_5,H⟩ := HS.bnd H
   try simp -implicitDefEqProofs +decide (maxSteps := 999999) [-selQ_sel,hokQ_of,h_1,h_2,h_3,h_4,h_5]
   obtain ⟨b6,h_6,H⟩ := HS.bnd H
   try simp -implicitDefEqProofs +decide (maxSteps := 999999) [-selQ_sel,hokQ_of,h_1,h_2,h_3,h_4,h_5,h_6]
   obtain ⟨b7,h_7,H⟩ := HS.bnd H
   try simp -implicitDefEqProofs +decide (maxSteps := 999999) [-selQ_sel,hokQ_of,h_1,h_2,h_3,h_4,h_5,h_6,h_7]
   have hr := (HS.some H).symm; subst hr
   refine Hid.mk ⟨_,Wk.refl _,?_⟩
   try simp -implicitDefEqProofs +decide (maxSteps := 999999) [-selQ_sel,hokQ_of,h_1,h_2,h_3,h_4,h_5,h_6,h_7]
  ·replace H := HS.cnd_f h_3 H
   try simp -implicitDefEqProofs +decide (maxSteps := 999999) [-selQ_sel,hokQ_of,h_1,h_2,h_3]
   have hr := (HS.some H).symm; subst hr
   refine Hid.mk ⟨_,Wk.refl _,?_⟩
   try simp -implicitDefEqProofs +decide (maxSteps := 999999) [-selQ_sel,hokQ_of,h_1,h_2,h_3]
 ·replace H := HS.cnd_f h_2 H
  try simp -implicitDefEqProofs +decide (maxSteps := 999999) [-selQ_sel,hokQ_of,h_1,h_2]
  have hr := (HS.some H).symm; subst hr
  refine Hid.mk ⟨_,Wk.refl _,?_⟩
  try simp -implicitDefEqProofs +decide (maxSteps := 999999) [-selQ_sel,hokQ_of,h_1,h_2]
theorem spec_SurfaceNew_ok0 (hm : Tryd.prog.follows .mixedOrders = true) (k_spec_l01In : Sound Tryd.prog 36 spec_l01In_x) : Sound Tryd.prog 24 spec_SurfaceNew_x := by
 refine xOf_sound fun q r h => ?_
 obtain ⟨a0,a1⟩ := q
 refine fn_ok E0 hm Tryd.func24 rfl (by decide +kernel) (by rfl) fun Γ hn hk => ?_
 dsimp only [spec_SurfaceNew_e,spec_SurfaceNew_v]
 replace hn : Γ.n = 22 := hn
 replace hk : Γ.k = 0 := hk
 have H : HS (spec_SurfaceNew a0 a1) r := h
 clear h; unfold spec_SurfaceNew at H
 try simp -implicitDefEqProofs at H
 refine Tr.of_vc (cl := tabC [(36,spec_l01In_x)]) (E := E0) [] (tab_cons k_spec_l01In tab_nil) hm (by rw [hn]; decide +kernel) ?_
 try simp -implicitDefEqProofs (maxSteps := 999999) [-selQ_sel]
 obtain ⟨v1,h_1,H⟩ := HS.bnd H
 try simp -implicitDefEqProofs (maxSteps := 999999) [-selQ_sel,h_1]
 refine Hid.selQ (fun h_2 => ?_) (fun h_2 => ?_)
 ·replace H := HS.cnd_t h_2 H
  try simp -implicitDefEqProofs (maxSteps := 999999) [-selQ_sel,h_1,h_2]
  obtain ⟨v2,h_3,H⟩ := HS.bnd H
  try simp -implicitDefEqProofs (maxSteps := 999999) [-selQ_sel,h_1,h_2,h_3]
  refine Hid.brV (fun h_4 => ?_) (fun h_4 => ?_)
  ·replace H := HS.cnd_t h_4 H
   try simp -implicitDefEqProofs (maxSteps := 999999) [-selQ_sel,h_1,h_2,h_3,h_4]
   obtain ⟨h_5,H⟩ := HS.chkP H
   try simp -implicitDefEqProofs (maxSteps := 999999) [-selQ_sel,h_1,h_2,h_3,h_4,h_5]
   obtain ⟨l3,h_6,H⟩ := HS.nam H
   have m_7 := congrArg (List.map eColor) h_6
   have q_8 := congrArg List.length h_6
   simp -implicitDefEqProofs at m_7 q_8
   try simp only [q_8] at m_7
   try simp only [q_8] at h_5
   try simp -implicitDefEqProofs (maxSteps := 999999) [-selQ_sel,h_1,h_2,h_3,h_4,h_5,m_7,q_8]
   have hr := (HS.some H).symm; subst hr
   refine Hid.mk ⟨_,Wk.refl _,?_⟩
   try simp -implicitDefEqProofs (maxSteps := 999999) [-selQ_sel,h_1,h_2,h_3,h_4,h_5,m_7,q_8]
  ·replace H := HS.cnd_f h_4 H
   try simp -implicitDefEqProofs (maxSteps := 999999) [-selQ_sel,h_1,h_2,h_3,h_4]
   have hr := (HS.some H).symm; subst hr
   refine Hid.mk ⟨_,Wk.refl _,?_⟩
   try simp -implicitDefEqProofs (maxSteps := 999999) [-selQ_sel,h_1,h_2,h_3,h_4]
 ·replace H := HS.cnd_f h_2 H
  try simp -implicitDefEqProofs (maxSteps := 999999) [-selQ_sel,h_1,h_2]
  have hr := (HS.some H).symm; subst hr
  refine Hid.mk ⟨_,Wk.refl _,?_⟩
  try simp -implicitDefEqProofs (maxSteps := 999999) [-selQ_sel,h_1,h_2]
theorem impl_lineReader_number_ok0 (hm : Tryd.prog.follows .mixedOrders = true) (k_impl_lineReader_next : Sound Tryd.prog 39 impl_lineReader_next_x) (k_impl_ReadDecimal : Sound Tryd.prog 58 impl_ReadDecimal_x) : Sound Tryd.prog 41 impl_lineReader_number_x := by
 refine xOf_sound fun q r h => ?_
 revert h; revert r; revert q; intro a0 r h
 refine fn_ok E0 hm Tryd.func41 rfl (by decide +kernel) (by rfl) fun Γ hn hk => ?_
 dsimp only [impl_lineReader_number_e,impl_lineReader_number_v]
 replace hn : Γ.n = 23 := hn
 replace hk : Γ.k = 1 := hk
 have H : HS (impl_lineReader_number a0) r := h
 clear h; unfold impl_lineReader_number at H
 try simp -implicitDefEqProofs at H
 refine Tr.of_vc (cl := tabC [(39,impl_lineReader_next_x),(58,impl_ReadDecimal_x)]) (E := E0) [] (tab_cons k_impl_lineReader_next (tab_cons k_impl_ReadDecimal tab_nil)) hm (by rw [hn]; decide +kernel) ?_
 try simp -implicitDefEqProofs (maxSteps := 999999) [-selQ_sel]
 obtain ⟨⟨w2,w3⟩,h_1,H⟩ := HS.bnd H
 try dsimp only at H
 try simp -implicitDefEqProofs (maxSteps := 999999) [-selQ_sel,h_1]
 obtain ⟨⟨w5,w6⟩,h_2,H⟩ := HS.bnd H
 try dsimp only at H
 try simp -implicitDefEqProofs (maxSteps := 999999) [-selQ_sel,h_1,h_2]
 refine Hid.selQ (fun h_3 => ?_) (fun h_3 => ?_)
 ·replace H := HS.cnd_t h_3 H
  try simp -implicitDefEqProofs (maxSteps := 999999) [-selQ_sel,h_1,h_2,h_3]
  have hr := (HS.some H).symm; subst hr
  refine Hid.mk ⟨_,Wk.refl _,?_⟩
  try simp -implicitDefEqProofs (maxSteps := 999999) [-selQ_sel,h_1,h_2,h_3]
 ·replace H := HS.cnd_f h_3 H
  try simp -implicitDefEqProofs (maxSteps := 999999) [-selQ_sel,h_1,h_2,h_3]
  have hr := (HS.some H).symm; subst hr
  refine Hid.mk ⟨_,Wk.refl _,?_⟩
  try simp -implicitDefEqProofs (maxSteps := 999999) [-selQ_sel,h_1,h_2,h_3]
theorem laws_eqPoint_ok0 (hm : Tryd.prog.follows .mixedOrders = true) : Sound Tryd.prog 61 laws_eqPoint_x := by
 refine xOf_sound fun q r h => ?_
 obtain ⟨a0,a1⟩ := q
 refine fn_ok E0 hm Tryd.func61 rfl (by decide +kernel) (by rfl) fun Γ hn hk => ?_
 dsimp only [laws_eqPoint_e,laws_eqPoint_v]
 replace hn : Γ.n = 15 := hn
 replace hk : Γ.k = 0 := hk
 have H : HS (laws_eqPoint a0 a1) r := h
 clear h; unfold laws_eqPoint at H
 try simp -implicitDefEqProofs at H
 refine Tr.of_vc (cl := tabC []) (E := E0) [] tab_nil hm (by rw [hn]; decide +kernel) ?_
 try simp -implicitDefEqProofs (maxSteps := 999999) [-selQ_sel]
 refine Hid.brV (fun h_1 => ?_) (fun h_1 => ?_)
 ·replace H := HS.cnd_t h_1 H
  try simp -implicitDefEqProofs (maxSteps := 999999) [-selQ_sel,h_1]
  refine Hid.brV (fun h_2 => ?_) (fun h_2 => ?_)
  ·replace H := HS.cnd_t h_2 H
   try simp -implicitDefEqProofs (maxSteps := 999999) [-selQ_sel,h_1,h_2]
   have hr := (HS.some H).symm; subst hr
   refine Hid.mk ⟨_,Wk.refl _,?_⟩
   try simp -implicitDefEqProofs (maxSteps := 999999) [-selQ_sel,h_1,h_2]
  ·replace H := HS.cnd_f h_2 H
   try simp -implicitDefEqProofs (maxSteps := 999999) [-selQ_sel,h_1,h_2]
   have hr := (HS.some H).symm; subst hr
   refine Hid.mk ⟨_,Wk.refl _,?_⟩
   try simp -implicitDefEqProofs (maxSteps := 999999) [-selQ_sel,h_1,h_2]
 ·replace H := HS.cnd_f h_1 H
  try simp -implicitDefEqProofs (maxSteps := 999999) [-selQ_sel,h_1]
  have hr := (HS.some H).symm; subst hr
  refine Hid.mk ⟨_,Wk.refl _,?_⟩
  try simp -implicitDefEqProofs (maxSteps := 999999) [-selQ_sel,h_1]
theorem impl_PointOk_ok0 (hm : Tryd.prog.follows .mixedOrders = true) (k_impl_isFar : Sound Tryd.prog 83 impl_isFar_x) : Sound Tryd.prog 78 impl_PointOk_x := by
 refine xOf_sound fun q r h => ?_
 revert h; revert r; revert q; intro a0 r h
 refine fn_ok E0 hm Tryd.func78 rfl (by decide +kernel) (by rfl) fun Γ hn hk => ?_
 dsimp only [impl_PointOk_e,impl_PointOk_v]
 replace hn : Γ.n = 11 := hn
 replace hk : Γ.k = 0 := hk
 have H : HS (impl_PointOk a0) r := h
 clear h; unfold impl_PointOk at H
 try simp -implicitDefEqProofs at H
 refine Tr.of_vc (cl := tabC [(83,impl_isFar_x)]) (E := E0) [] (tab_cons k_impl_isFar tab_nil) hm (by rw [hn]; decide +kernel) ?_
 try simp -implicitDefEqProofs (maxSteps := 999999) [-selQ_sel]
 obtain ⟨v1,h_1,H⟩ := HS.bnd H
 try simp -implicitDefEqProofs (maxSteps := 999999) [-selQ_sel,h_1]
 refine Hid.selQ (fun h_2 => ?_) (fun h_2 => ?_)
 ·replace H := HS.cnd_t h_2 H
  try simp -implicitDefEqProofs (maxSteps := 999999) [-selQ_sel,h_1,h_2]
  obtain ⟨v2,h_3,H⟩ := HS.bnd H
  try simp -implicitDefEqProofs (maxSteps := 999999) [-selQ_sel,h_1,h_2,h_3]
  have hr := (HS.some H).symm; subst hr
  refine Hid.mk ⟨_,Wk.refl _,?_⟩
  try simp -implicitDefEqProofs (maxSteps := 999999) [-selQ_sel,h_1,h_2,h_3]
 ·replace H := HS.cnd_f h_2 H
  try simp -implicitDefEqProofs (maxSteps := 999999) [-selQ_sel,h_1,h_2]
  have hr := (HS.some H).symm; subst hr
  refine Hid.mk ⟨_,Wk.refl _,?_⟩
  try simp -implicitDefEqProofs (maxSteps := 999999) [-selQ_sel,h_1,h_2]
theorem spec_l01Figure_ok0 (hm : Tryd.prog.follows .mixedOrders = true) : Sound Tryd.prog 63 spec_l01Figure_x := by
 refine xOf_sound fun q r h => ?_
 revert h; revert r; revert q; intro a0 r h
 refine fn_ok E0 hm Tryd.func63 rfl (by decide +kernel) (by rfl) fun Γ hn hk => ?_
 dsimp only [spec_l01Figure_e,spec_l01Figure_v]
 replace hn : Γ.n = 12 := hn
 replace hk : Γ.k = 0 := hk
 have H : HS (spec_l01Figure a0) r := h
 clear h; unfold spec_l01Figure at H
 try simp -implicitDefEqProofs at H
 refine Tr.of_vc (cl := tabC []) (E := E0) [] tab_nil hm (by rw [hn]; decide +kernel) ?_
 try simp -implicitDefEqProofs (maxSteps := 999999) [-selQ_sel]
 refine Hid.brV (fun h_1 => ?_) (fun h_1 => ?_)
 ·replace H := HS.cnd_t h_1 H
  try simp -implicitDefEqProofs (maxSteps := 999999) [-selQ_sel,h_1]
  have hr := (HS.some H).symm; subst hr
  refine Hid.mk ⟨_,Wk.refl _,?_⟩
  try simp -implicitDefEqProofs (maxSteps := 999999) [-selQ_sel,h_1]
 ·replace H := HS.cnd_f h_1 H
  try simp -implicitDefEqProofs (maxSteps := 999999) [-selQ_sel,h_1]
  have hr := (HS.some H).symm; subst hr
  refine Hid.mk ⟨_,Wk.refl _,?_⟩
  try simp -implicitDefEqProofs (maxSteps := 999999) [-selQ_sel,h_1]
theorem impl_inRange_ok0 (hm : Tryd.prog.follows .mixedOrders = true) : Sound Tryd.prog 29 impl_inRange_x := by
 refine xOf_sound fun q r h => ?_
 obtain ⟨a0,a1,a2⟩ := q
 refine fn_ok E0 hm Tryd.func29 rfl (by decide +kernel) (by rfl) fun Γ hn hk => ?_
 dsimp only [impl_inRange_e,impl_inRange_v]
 replace hn : Γ.n = 15 := hn
 replace hk : Γ.k = 0 := hk
 have H : HS (impl_inRange a0 a1 a2) r := h
 clear h; unfold impl_inRange at H
 try simp -implicitDefEqProofs at H
 refine Tr.of_vc (cl := tabC []) (E := E0) [] tab_nil hm (by rw [hn]; decide +kernel) ?_
 try simp -implicitDefEqProofs (maxSteps := 999999) [-selQ_sel]
 refine Hid.selQ (fun h_1 => ?_) (fun h_1 => ?_)
 ·replace H := HS.cnd_t h_1 H
  try simp -implicitDefEqProofs (maxSteps := 999999) [-selQ_sel,h_1]
  have hr := (HS.some H).symm; subst hr
  refine Hid.mk ⟨_,Wk.refl _,?_⟩
  try simp -implicitDefEqProofs (maxSteps := 999999) [-selQ_sel,h_1]
 ·replace H := HS.cnd_f h_1 H
  try simp -implicitDefEqProofs (maxSteps := 999999) [-selQ_sel,h_1]
  have hr := (HS.some H).symm; subst hr
  refine Hid.mk ⟨_,Wk.refl _,?_⟩
  try simp -implicitDefEqProofs (maxSteps := 999999) [-selQ_sel,h_1]
theorem impl_Decimal_ok0 (hm : Tryd.prog.follows .mixedOrders = true) (k_strconv_Itoa : Sound Tryd.prog 80 strconv_Itoa_x) : Sound Tryd.prog 72 impl_Decimal_x := by
 refine xOf_sound fun q r h => ?_
 revert h; revert r; revert q; intro a0 r h
 refine fn_ok E0 hm Tryd.func72 rfl (by decide +kernel) (by rfl) fun Γ hn hk => ?_
 dsimp only [impl_Decimal_e,impl_Decimal_v]
 replace hn : Γ.n = 5 := hn
 replace hk : Γ.k = 0 := hk
 have H : HS (impl_Decimal a0) r := h
 clear h; unfold impl_Decimal at H
 try simp -implicitDefEqProofs at H
 refine Tr.of_vc (cl := tabC [(80,strconv_Itoa_x)]) (E := E0) [] (tab_cons k_strconv_Itoa tab_nil) hm (by rw [hn]; decide +kernel) ?_
 try simp -implicitDefEqProofs (maxSteps := 999999) [-selQ_sel]
 obtain ⟨v1,h_1,H⟩ := HS.bnd H
 try simp -implicitDefEqProofs (maxSteps := 999999) [-selQ_sel,h_1]
 have hr := (HS.some H).symm; subst hr
 refine Hid.mk ⟨_,Wk.refl _,?_⟩
 try simp -implicitDefEqProofs (maxSteps := 999999) [-selQ_sel,h_1]
theorem impl_isSide_ok0 (hm : Tryd.prog.follows .mixedOrders = true) (k_impl_inRange : Sound Tryd.prog 29 impl_inRange_x) : Sound Tryd.prog 16 impl_isSide_x := by
 refine xOf_sound fun q r h => ?_
 revert h; revert r; revert q; intro a0 r h
 refine fn_ok E0 hm Tryd.func16 rfl (by decide +kernel) (by rfl) fun Γ hn hk => ?_
 dsimp only [impl_isSide_e,impl_isSide_v]
 replace hn : Γ.n = 5 := hn
 replace hk : Γ.k = 0 := hk
 have H : HS (impl_isSide a0) r := h
 clear h; unfold impl_isSide at H
 try simp -implicitDefEqProofs at H
 refine Tr.of_vc (cl := tabC [(29,impl_inRange_x)]) (E := E0) [] (tab_cons k_impl_inRange tab_nil) hm (by rw [hn]; decide +kernel) ?_
 try simp -implicitDefEqProofs (maxSteps := 999999) [-selQ_sel]
 obtain ⟨v1,h_1,H⟩ := HS.bnd H
 try simp -implicitDefEqProofs (maxSteps := 999999) [-selQ_sel,h_1]
 have hr := (HS.some H).symm; subst hr
 refine Hid.mk ⟨_,Wk.refl _,?_⟩
 try simp -implicitDefEqProofs (maxSteps := 999999) [-selQ_sel,h_1]
theorem impl_Still_ok0 (hm : Tryd.prog.follows .mixedOrders = true) : Sound Tryd.prog 54 impl_Still_x := by
 refine xOf_sound fun q r h => ?_
 refine fn_ok E0 hm Tryd.func54 rfl (by decide +kernel) (by rfl) fun Γ hn hk => ?_
 dsimp only [impl_Still_e,impl_Still_v]
 replace hn : Γ.n = 2 := hn
 replace hk : Γ.k = 0 := hk
 have H : HS (impl_Still) r := h
 clear h; unfold impl_Still at H
 try simp -implicitDefEqProofs at H
 refine Tr.of_vc (cl := tabC []) (E := E0) [] tab_nil hm (by rw [hn]; decide +kernel) ?_
 try simp -implicitDefEqProofs (maxSteps := 999999) [-selQ_sel]
 have hr := (HS.some H).symm; subst hr
 refine Hid.mk ⟨_,Wk.refl _,?_⟩
 try simp -implicitDefEqProofs (maxSteps := 999999) [-selQ_sel]
end Go.Proofs.YtapchldnmkfkoabDoor.Am
