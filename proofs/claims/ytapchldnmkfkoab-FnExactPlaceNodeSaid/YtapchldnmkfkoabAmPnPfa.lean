import Derived.Test.YtapchldnmkfkoabAmPnNa
set_option linter.unusedVariables false
set_option linter.unusedSimpArgs false
set_option linter.unusedSectionVars false
namespace Go.Proofs.Ytapchldnmkfkoab.Am
open Go Go.Proofs
set_option maxRecDepth 100000
set_option linter.unusedSimpArgs false
set_option linter.unusedVariables false
set_option maxHeartbeats 4000000
theorem spec_PlaceNode_ok0 (hm:Try.prog.follows .mixedOrders = true) (k_spec_l15Copy:Sound Try.prog 43 spec_l15Copy_x) (k_spec_SceneOk:Sound Try.prog 44 spec_SceneOk_x) (k_spec_NodeAt:Sound Try.prog 45 spec_NodeAt_x) (k_spec_l15CopyNode:Sound Try.prog 47 spec_l15CopyNode_x) (k_spec_l15Under:Sound Try.prog 46 spec_l15Under_x):Sound Try.prog 11 spec_PlaceNode_x:=by
 refine xOf_sound fun q r h=>?_
 obtain ⟨a0,a1,a2,a3⟩:=q
 refine fn_ok E0 hm Try.func11 rfl (by decide +kernel) (by rfl) fun Γ hn hk=>?_
 dsimp only [spec_PlaceNode_e,spec_PlaceNode_v]
 replace hn:Γ.n = 133:=hn
 replace hk:Γ.k = 0:=hk
 have H:HS (spec_PlaceNode a0 a1 a2 a3) r:=h
 clear h;unfold spec_PlaceNode at H
 try simp -implicitDefEqProofs at H
 refine Tr.of_vc (cl:=tabC [(43,spec_l15Copy_x),(44,spec_SceneOk_x),(45,spec_NodeAt_x),(47,spec_l15CopyNode_x),(46,spec_l15Under_x)]) (E:=E0) [] (tab_cons k_spec_l15Copy (tab_cons k_spec_SceneOk (tab_cons k_spec_NodeAt (tab_cons k_spec_l15CopyNode (tab_cons k_spec_l15Under tab_nil))))) hm (by rw [hn];decide +kernel) ?_
 try simp -implicitDefEqProofs +decide (maxSteps:=999999) [-selQ_sel,hokQ_of]
 obtain ⟨v1,A1,H⟩:=HS.bnd H
 try simp -implicitDefEqProofs +decide (maxSteps:=999999) [-selQ_sel,hokQ_of,A1]
 obtain ⟨v2,A2,H⟩:=HS.bnd H
 try simp -implicitDefEqProofs +decide (maxSteps:=999999) [-selQ_sel,hokQ_of,A1,A2]
 refine Hid.brV (fun A3=>?_) (fun A3=>?_)
 ·replace H:=HS.cnd_t A3 H
  try simp -implicitDefEqProofs +decide (maxSteps:=999999) [-selQ_sel,hokQ_of,A1,A2,A3]
  obtain ⟨v3,A4,H⟩:=HS.bnd H
  try simp -implicitDefEqProofs +decide (maxSteps:=999999) [-selQ_sel,hokQ_of,A1,A2,A3,A4]
  obtain ⟨v4,A5,H⟩:=HS.bnd H
  try simp -implicitDefEqProofs +decide (maxSteps:=999999) [-selQ_sel,hokQ_of,A1,A2,A3,A4,A5]
  refine Hid.selQ (fun A6=>?_) (fun A6=>?_)
  ·replace H:=HS.cnd_t A6 H
   try simp -implicitDefEqProofs +decide (maxSteps:=999999) [-selQ_sel,hokQ_of,A1,A2,A3,A4,A5,A6]
   refine Hid.selQ (fun A7=>?_) (fun A7=>?_)
   ·replace H:=HS.cnd_t A7 H
    try simp -implicitDefEqProofs +decide (maxSteps:=999999) [-selQ_sel,hokQ_of,A1,A2,A3,A4,A5,A6,A7]
    refine Hid.selQ (fun A8=>?_) (fun A8=>?_)
    ·replace H:=HS.cnd_t A8 H
     try simp -implicitDefEqProofs +decide (maxSteps:=999999) [-selQ_sel,hokQ_of,A1,A2,A3,A4,A5,A6,A7,A8]
     refine Hid.brV (fun A9=>?_) (fun A9=>?_)
     ·replace H:=HS.cnd_t A9 H
      try simp -implicitDefEqProofs +decide (maxSteps:=999999) [-selQ_sel,hokQ_of,A1,A2,A3,A4,A5,A6,A7,A8,A9]
      have hr:=(HS.some H).symm;subst hr
      refine Hid.mk ⟨_,Wk.refl _,?_⟩
      try simp -implicitDefEqProofs +decide (maxSteps:=999999) [-selQ_sel,hokQ_of,A1,A2,A3,A4,A5,A6,A7,A8,A9]
     ·replace H:=HS.cnd_f A9 H
      try simp -implicitDefEqProofs +decide (maxSteps:=999999) [-selQ_sel,hokQ_of,A1,A2,A3,A4,A5,A6,A7,A8,A9]
      obtain ⟨v5,A10,H⟩:=HS.bnd H
      try simp -implicitDefEqProofs +decide (maxSteps:=999999) [-selQ_sel,hokQ_of,A1,A2,A3,A4,A5,A6,A7,A8,A9,A10]
      obtain ⟨v6,A11,H⟩:=HS.bnd H
      try simp -implicitDefEqProofs +decide (maxSteps:=999999) [-selQ_sel,hokQ_of,A1,A2,A3,A4,A5,A6,A7,A8,A9,A10,A11]
      obtain ⟨q,A12,H⟩:=HS.bnd H
      refine Hid.mk (Tr.weak (s':=(spec_PlaceNode_l0_S a0 a2 a3 v1 v3 v6) (0,[(TNode.mk v6.id a2 v6.group v6.mat v6.path v6.even v6.width v6.dashes v6.paint v6.mode v6.fade v6.clip)])) (Wk.ofk [0,1,2,3,4,6] hk (by rfl) (by simp -implicitDefEqProofs [spec_PlaceNode_l0_S,A1,A2,A3,A4,A5,A6,A7,A8,A9,A10,A11]) (by simp -implicitDefEqProofs [spec_PlaceNode_l0_S,A1,A2,A3,A4,A5,A6,A7,A8,A9,A10,A11])) ?_)
      refine wp_loop_of (S:=(spec_PlaceNode_l0_S a0 a2 a3 v1 v3 v6)) (f:=(spec_PlaceNode_l0 a0 a2 a3 v1 v3 v6)) (xt:=(spec_PlaceNode_l0_X a0 a2 a3 v1 v3 v6)) ?_ ?_ A12 ?_
      ·intro q;simp [spec_PlaceNode_l0_X]
      ·clear H A12 q
       rintro ⟨x10,x11⟩ o R hf hR
       have H:HS (spec_PlaceNode_l0 a0 a2 a3 v1 v3 v6 (x10,x11)) o:=hf
       clear hf;unfold spec_PlaceNode_l0 at H
       try simp -implicitDefEqProofs at H
       refine Tr.of_vc (cl:=tabC [(43,spec_l15Copy_x),(44,spec_SceneOk_x),(45,spec_NodeAt_x),(47,spec_l15CopyNode_x),(46,spec_l15Under_x)]) (E:=E0) [] (tab_cons k_spec_l15Copy (tab_cons k_spec_SceneOk (tab_cons k_spec_NodeAt (tab_cons k_spec_l15CopyNode (tab_cons k_spec_l15Under tab_nil))))) hm (by rw [hn];decide +kernel) ?_
       try simp -implicitDefEqProofs +decide (maxSteps:=999999) [-selQ_sel,hokQ_of,spec_PlaceNode_l0_S]
       refine Hid.brV (fun A13=>?_) (fun A13=>?_)
       ·replace H:=HS.cnd_t A13 H
        try simp -implicitDefEqProofs +decide (maxSteps:=999999) [-selQ_sel,hokQ_of,A13]
        have hr:=(HS.some H).symm;subst hr
        exact Hid.mk ⟨(spec_PlaceNode_l0_X a0 a2 a3 v1 v3 v6 x11).2,Wk.ofk [1,2,4,5] hk (by rfl) (by simp -implicitDefEqProofs [spec_PlaceNode_l0_X,A13]) (by simp -implicitDefEqProofs [spec_PlaceNode_l0_X,A13]),hR⟩
       ·replace H:=HS.cnd_f A13 H
        try simp -implicitDefEqProofs +decide (maxSteps:=999999) [-selQ_sel,hokQ_of,A13]
        refine Hid.brV (fun A14=>?_) (fun A14=>?_)
        ·replace H:=HS.cnd_t A14 H
         try simp -implicitDefEqProofs +decide (maxSteps:=999999) [-selQ_sel,hokQ_of,A13,A14]
         obtain ⟨v12,A15,H⟩:=HS.bnd H
         try simp -implicitDefEqProofs +decide (maxSteps:=999999) [-selQ_sel,hokQ_of,A13,A14,A15]
         refine Hid.selQ (fun A16=>?_) (fun A16=>?_)
         ·replace H:=HS.cnd_t A16 H
          try simp -implicitDefEqProofs +decide (maxSteps:=999999) [-selQ_sel,hokQ_of,A13,A14,A15,A16]
          refine Hid.brV (fun A17=>?_) (fun A17=>?_)
          ·replace H:=HS.cnd_t A17 H
           try simp -implicitDefEqProofs +decide (maxSteps:=999999) [-selQ_sel,hokQ_of,A13,A14,A15,A16,A17]
           have hr:=(HS.some H).symm;subst hr
           exact Hid.mk ⟨spec_PlaceNode_l0_S a0 a2 a3 v1 v3 v6 ((IntKind.i64.wrap (x10 + 1)),x11),Wk.ofk [0,1,2,3,4,5] hk (by rfl) (by simp -implicitDefEqProofs [spec_PlaceNode_l0_S,A13,A14,A15,A16,A17]) (by simp -implicitDefEqProofs [spec_PlaceNode_l0_S,A13,A14,A15,A16,A17]),hR⟩
          ·replace H:=HS.cnd_f A17 H
           try simp -implicitDefEqProofs +decide (maxSteps:=999999) [-selQ_sel,hokQ_of,A13,A14,A15,A16,A17]
           obtain ⟨A18,H⟩:=HS.chkP H
           try simp -implicitDefEqProofs +decide (maxSteps:=999999) [-selQ_sel,hokQ_of,A13,A14,A15,A16,A17,A18]
           obtain ⟨l13,A19,H⟩:=HS.nam H
           have E20:=congrArg (List.map eNode) A19
           have D21:=congrArg List.length A19
           simp -implicitDefEqProofs at E20 D21
           try simp only [D21] at E20
           try simp only [D21] at A18
           try simp -implicitDefEqProofs +decide (maxSteps:=999999) [-selQ_sel,hokQ_of,A13,A14,A15,A16,A17,A18,E20,D21]
           have hr:=(HS.some H).symm;subst hr
           exact Hid.mk ⟨spec_PlaceNode_l0_S a0 a2 a3 v1 v3 v6 ((IntKind.i64.wrap (x10 + 1)),l13),Wk.ofk [0,1,2,3,4,5] hk (by rfl) (by simp -implicitDefEqProofs [spec_PlaceNode_l0_S,A13,A14,A15,A16,A17,A18,E20,D21]) (by simp -implicitDefEqProofs [spec_PlaceNode_l0_S,A13,A14,A15,A16,A17,A18,E20,D21]),hR⟩
         ·replace H:=HS.cnd_f A16 H
          try simp -implicitDefEqProofs +decide (maxSteps:=999999) [-selQ_sel,hokQ_of,A13,A14,A15,A16]
          have hr:=(HS.some H).symm;subst hr
          exact Hid.mk ⟨spec_PlaceNode_l0_S a0 a2 a3 v1 v3 v6 ((IntKind.i64.wrap (x10 + 1)),x11),Wk.ofk [0,1,2,3,4,5] hk (by rfl) (by simp -implicitDefEqProofs [spec_PlaceNode_l0_S,A13,A14,A15,A16]) (by simp -implicitDefEqProofs [spec_PlaceNode_l0_S,A13,A14,A15,A16]),hR⟩
        ·replace H:=HS.cnd_f A14 H
         try simp -implicitDefEqProofs +decide (maxSteps:=999999) [-selQ_sel,hokQ_of,A13,A14]
         obtain ⟨v14,A22,H⟩:=HS.bnd H
         try simp -implicitDefEqProofs +decide (maxSteps:=999999) [-selQ_sel,hokQ_of,A13,A14,A22]
         obtain ⟨v15,A23,H⟩:=HS.bnd H
         try simp -implicitDefEqProofs +decide (maxSteps:=999999) [-selQ_sel,hokQ_of,A13,A14,A22,A23]
         obtain ⟨A24,H⟩:=HS.chkP H
         try simp -implicitDefEqProofs +decide (maxSteps:=999999) [-selQ_sel,hokQ_of,A13,A14,A22,A23,A24]
         obtain ⟨l16,A25,H⟩:=HS.nam H
         have E26:=congrArg (List.map eNode) A25
         have D27:=congrArg List.length A25
         simp -implicitDefEqProofs at E26 D27
         try simp only [D27] at E26
         try simp only [D27] at A24
         try simp -implicitDefEqProofs +decide (maxSteps:=999999) [-selQ_sel,hokQ_of,A13,A14,A22,A23,A24,E26,D27]
         refine Hid.selQ (fun A28=>?_) (fun A28=>?_)
         ·replace H:=HS.cnd_t A28 H
          try simp -implicitDefEqProofs +decide (maxSteps:=999999) [-selQ_sel,hokQ_of,A13,A14,A22,A23,A24,E26,D27,A28]
          refine Hid.brV (fun A29=>?_) (fun A29=>?_)
          ·replace H:=HS.cnd_t A29 H
           try simp -implicitDefEqProofs +decide (maxSteps:=999999) [-selQ_sel,hokQ_of,A13,A14,A22,A23,A24,E26,D27,A28,A29]
           have hr:=(HS.some H).symm;subst hr
           exact Hid.mk ⟨spec_PlaceNode_l0_S a0 a2 a3 v1 v3 v6 ((IntKind.i64.wrap (x10 + 1)),l16),Wk.ofk [0,1,2,3,4,5] hk (by rfl) (by simp -implicitDefEqProofs [spec_PlaceNode_l0_S,A13,A14,A22,A23,A24,E26,D27,A28,A29]) (by simp -implicitDefEqProofs [spec_PlaceNode_l0_S,A13,A14,A22,A23,A24,E26,D27,A28,A29]),hR⟩
          ·replace H:=HS.cnd_f A29 H
           try simp -implicitDefEqProofs +decide (maxSteps:=999999) [-selQ_sel,hokQ_of,A13,A14,A22,A23,A24,E26,D27,A28,A29]
           obtain ⟨A30,H⟩:=HS.chkP H
           try simp -implicitDefEqProofs +decide (maxSteps:=999999) [-selQ_sel,hokQ_of,A13,A14,A22,A23,A24,E26,D27,A28,A29,A30]
           obtain ⟨l17,A31,H⟩:=HS.nam H
           have E32:=congrArg (List.map eNode) A31
           have D33:=congrArg List.length A31
           simp -implicitDefEqProofs at E32 D33
           try simp only [D33] at E32
           try simp only [D33] at A30
           try simp -implicitDefEqProofs +decide (maxSteps:=999999) [-selQ_sel,hokQ_of,A13,A14,A22,A23,A24,E26,D27,A28,A29,A30,E32,D33]
           have hr:=(HS.some H).symm;subst hr
           exact Hid.mk ⟨spec_PlaceNode_l0_S a0 a2 a3 v1 v3 v6 ((IntKind.i64.wrap (x10 + 1)),l17),Wk.ofk [0,1,2,3,4,5] hk (by rfl) (by simp -implicitDefEqProofs [spec_PlaceNode_l0_S,A13,A14,A22,A23,A24,E26,D27,A28,A29,A30,E32,D33]) (by simp -implicitDefEqProofs [spec_PlaceNode_l0_S,A13,A14,A22,A23,A24,E26,D27,A28,A29,A30,E32,D33]),hR⟩
         ·replace H:=HS.cnd_f A28 H
          try simp -implicitDefEqProofs +decide (maxSteps:=999999) [-selQ_sel,hokQ_of,A13,A14,A22,A23,A24,E26,D27,A28]
          have hr:=(HS.some H).symm;subst hr
          exact Hid.mk ⟨spec_PlaceNode_l0_S a0 a2 a3 v1 v3 v6 ((IntKind.i64.wrap (x10 + 1)),l16),Wk.ofk [0,1,2,3,4,5] hk (by rfl) (by simp -implicitDefEqProofs [spec_PlaceNode_l0_S,A13,A14,A22,A23,A24,E26,D27,A28]) (by simp -implicitDefEqProofs [spec_PlaceNode_l0_S,A13,A14,A22,A23,A24,E26,D27,A28]),hR⟩
      ·revert H A12;revert q;intro y18 A12 H
       try dsimp only at H
       try simp -implicitDefEqProofs +decide (maxSteps:=999999) [-selQ_sel,hokQ_of,A1,A2,A3,A4,A5,A6,A7,A8,A9,A10,A11,spec_PlaceNode_l0_X]
       obtain ⟨v19,A34,H⟩:=HS.bnd H
       have F35:=spec_SceneOk_k ((TScene.mk y18).nodes)
       simp -implicitDefEqProofs [-spec_SceneOk_k] at F35
       try simp -implicitDefEqProofs +decide (maxSteps:=999999) [-selQ_sel,hokQ_of,A1,A2,A3,A4,A5,A6,A7,A8,A9,A10,A11,A34,F35]
       refine Hid.brV (fun A36=>?_) (fun A36=>?_)
       ·replace H:=HS.cnd_t A36 H
        try simp -implicitDefEqProofs +decide (maxSteps:=999999) [-selQ_sel,hokQ_of,A1,A2,A3,A4,A5,A6,A7,A8,A9,A10,A11,A34,F35,A36]
        have hr:=(HS.some H).symm;subst hr
        refine Hid.mk ⟨_,Wk.refl _,?_⟩
        try simp -implicitDefEqProofs +decide (maxSteps:=999999) [-selQ_sel,hokQ_of,A1,A2,A3,A4,A5,A6,A7,A8,A9,A10,A11,A34,F35,A36]
       ·replace H:=HS.cnd_f A36 H
        try simp -implicitDefEqProofs +decide (maxSteps:=999999) [-selQ_sel,hokQ_of,A1,A2,A3,A4,A5,A6,A7,A8,A9,A10,A11,A34,F35,A36]
        have hr:=(HS.some H).symm;subst hr
        refine Hid.mk ⟨_,Wk.refl _,?_⟩
        try simp -implicitDefEqProofs +decide (maxSteps:=999999) [-selQ_sel,hokQ_of,A1,A2,A3,A4,A5,A6,A7,A8,A9,A10,A11,A34,F35,A36]
    ·replace H:=HS.cnd_f A8 H
     try simp -implicitDefEqProofs +decide (maxSteps:=999999) [-selQ_sel,hokQ_of,A1,A2,A3,A4,A5,A6,A7,A8]
     obtain ⟨v20,A37,H⟩:=HS.bnd H
     try simp -implicitDefEqProofs +decide (maxSteps:=999999) [-selQ_sel,hokQ_of,A1,A2,A3,A4,A5,A6,A7,A8,A37]
     refine Hid.selQ (fun A38=>?_) (fun A38=>?_)
     ·replace H:=HS.cnd_t A38 H
      try simp -implicitDefEqProofs +decide (maxSteps:=999999) [-selQ_sel,hokQ_of,A1,A2,A3,A4,A5,A6,A7,A8,A37,A38]
      refine Hid.brV (fun A39=>?_) (fun A39=>?_)
      ·replace H:=HS.cnd_t A39 H
       try simp -implicitDefEqProofs +decide (maxSteps:=999999) [-selQ_sel,hokQ_of,A1,A2,A3,A4,A5,A6,A7,A8,A37,A38,A39]
       have hr:=(HS.some H).symm;subst hr
       refine Hid.mk ⟨_,Wk.refl _,?_⟩
       try simp -implicitDefEqProofs +decide (maxSteps:=999999) [-selQ_sel,hokQ_of,A1,A2,A3,A4,A5,A6,A7,A8,A37,A38,A39]
      ·replace H:=HS.cnd_f A39 H
       try simp -implicitDefEqProofs +decide (maxSteps:=999999) [-selQ_sel,hokQ_of,A1,A2,A3,A4,A5,A6,A7,A8,A37,A38,A39]
       obtain ⟨v21,A40,H⟩:=HS.bnd H
       try simp -implicitDefEqProofs +decide (maxSteps:=999999) [-selQ_sel,hokQ_of,A1,A2,A3,A4,A5,A6,A7,A8,A37,A38,A39,A40]
       obtain ⟨v22,A41,H⟩:=HS.bnd H
       try simp -implicitDefEqProofs +decide (maxSteps:=999999) [-selQ_sel,hokQ_of,A1,A2,A3,A4,A5,A6,A7,A8,A37,A38,A39,A40,A41]
       obtain ⟨q,A42,H⟩:=HS.bnd H
       refine Hid.mk (Tr.weak (s':=(spec_PlaceNode_l1_S a0 a2 a3 v1 v3 v22) (0,[])) (Wk.ofk [0,1,2,3,4,5] hk (by rfl) (by simp -implicitDefEqProofs [spec_PlaceNode_l1_S,A1,A2,A3,A4,A5,A6,A7,A8,A37,A38,A39,A40,A41]) (by simp -implicitDefEqProofs [spec_PlaceNode_l1_S,A1,A2,A3,A4,A5,A6,A7,A8,A37,A38,A39,A40,A41])) ?_)
       refine wp_loop_of (S:=(spec_PlaceNode_l1_S a0 a2 a3 v1 v3 v22)) (f:=(spec_PlaceNode_l1 a0 a2 a3 v1 v3 v22)) (xt:=(spec_PlaceNode_l1_X a0 a2 a3 v1 v3 v22)) ?_ ?_ A42 ?_
       ·intro q;simp [spec_PlaceNode_l1_X]
       ·clear H A42 q
        rintro ⟨x26,x27⟩ o R hf hR
        have H:HS (spec_PlaceNode_l1 a0 a2 a3 v1 v3 v22 (x26,x27)) o:=hf
        clear hf;unfold spec_PlaceNode_l1 at H
        try simp -implicitDefEqProofs at H
        refine Tr.of_vc (cl:=tabC [(43,spec_l15Copy_x),(44,spec_SceneOk_x),(45,spec_NodeAt_x),(47,spec_l15CopyNode_x),(46,spec_l15Under_x)]) (E:=E0) [] (tab_cons k_spec_l15Copy (tab_cons k_spec_SceneOk (tab_cons k_spec_NodeAt (tab_cons k_spec_l15CopyNode (tab_cons k_spec_l15Under tab_nil))))) hm (by rw [hn];decide +kernel) ?_
        try simp -implicitDefEqProofs +decide (maxSteps:=999999) [-selQ_sel,hokQ_of,spec_PlaceNode_l1_S]
        refine Hid.brV (fun A43=>?_) (fun A43=>?_)
        ·replace H:=HS.cnd_t A43 H
         try simp -implicitDefEqProofs +decide (maxSteps:=999999) [-selQ_sel,hokQ_of,A43]
         have hr:=(HS.some H).symm;subst hr
         exact Hid.mk ⟨(spec_PlaceNode_l1_X a0 a2 a3 v1 v3 v22 x27).2,Wk.ofk [1,2,4,5] hk (by rfl) (by simp -implicitDefEqProofs [spec_PlaceNode_l1_X,A43]) (by simp -implicitDefEqProofs [spec_PlaceNode_l1_X,A43]),hR⟩
        ·replace H:=HS.cnd_f A43 H
         try simp -implicitDefEqProofs +decide (maxSteps:=999999) [-selQ_sel,hokQ_of,A43]
         refine Hid.brV (fun A44=>?_) (fun A44=>?_)
         ·replace H:=HS.cnd_t A44 H
          try simp -implicitDefEqProofs +decide (maxSteps:=999999) [-selQ_sel,hokQ_of,A43,A44]
          obtain ⟨v28,A45,H⟩:=HS.bnd H
          try simp -implicitDefEqProofs +decide (maxSteps:=999999) [-selQ_sel,hokQ_of,A43,A44,A45]
          refine Hid.selQ (fun A46=>?_) (fun A46=>?_)
          ·replace H:=HS.cnd_t A46 H
           try simp -implicitDefEqProofs +decide (maxSteps:=999999) [-selQ_sel,hokQ_of,A43,A44,A45,A46]
           refine Hid.brV (fun A47=>?_) (fun A47=>?_)
           ·replace H:=HS.cnd_t A47 H
            try simp -implicitDefEqProofs +decide (maxSteps:=999999) [-selQ_sel,hokQ_of,A43,A44,A45,A46,A47]
            have hr:=(HS.some H).symm;subst hr
            exact Hid.mk ⟨spec_PlaceNode_l1_S a0 a2 a3 v1 v3 v22 ((IntKind.i64.wrap (x26 + 1)),x27),Wk.ofk [0,1,2,3,4,5] hk (by rfl) (by simp -implicitDefEqProofs [spec_PlaceNode_l1_S,A43,A44,A45,A46,A47]) (by simp -implicitDefEqProofs [spec_PlaceNode_l1_S,A43,A44,A45,A46,A47]),hR⟩
           ·replace H:=HS.cnd_f A47 H
            try simp -implicitDefEqProofs +decide (maxSteps:=999999) [-selQ_sel,hokQ_of,A43,A44,A45,A46,A47]
            obtain ⟨A48,H⟩:=HS.chkP H
            try simp -implicitDefEqProofs +decide (maxSteps:=999999) [-selQ_sel,hokQ_of,A43,A44,A45,A46,A47,A48]
            obtain ⟨l29,A49,H⟩:=HS.nam H
            have E50:=congrArg (List.map eNode) A49
            have D51:=congrArg List.length A49
            simp -implicitDefEqProofs at E50 D51
            try simp only [D51] at E50
            try simp only [D51] at A48
            try simp -implicitDefEqProofs +decide (maxSteps:=999999) [-selQ_sel,hokQ_of,A43,A44,A45,A46,A47,A48,E50,D51]
            have hr:=(HS.some H).symm;subst hr
            exact Hid.mk ⟨spec_PlaceNode_l1_S a0 a2 a3 v1 v3 v22 ((IntKind.i64.wrap (x26 + 1)),l29),Wk.ofk [0,1,2,3,4,5] hk (by rfl) (by simp -implicitDefEqProofs [spec_PlaceNode_l1_S,A43,A44,A45,A46,A47,A48,E50,D51]) (by simp -implicitDefEqProofs [spec_PlaceNode_l1_S,A43,A44,A45,A46,A47,A48,E50,D51]),hR⟩
          ·replace H:=HS.cnd_f A46 H
           try simp -implicitDefEqProofs +decide (maxSteps:=999999) [-selQ_sel,hokQ_of,A43,A44,A45,A46]
           have hr:=(HS.some H).symm;subst hr
           exact Hid.mk ⟨spec_PlaceNode_l1_S a0 a2 a3 v1 v3 v22 ((IntKind.i64.wrap (x26 + 1)),x27),Wk.ofk [0,1,2,3,4,5] hk (by rfl) (by simp -implicitDefEqProofs [spec_PlaceNode_l1_S,A43,A44,A45,A46]) (by simp -implicitDefEqProofs [spec_PlaceNode_l1_S,A43,A44,A45,A46]),hR⟩
         ·replace H:=HS.cnd_f A44 H
          try simp -implicitDefEqProofs +decide (maxSteps:=999999) [-selQ_sel,hokQ_of,A43,A44]
          obtain ⟨v30,A52,H⟩:=HS.bnd H
          try simp -implicitDefEqProofs +decide (maxSteps:=999999) [-selQ_sel,hokQ_of,A43,A44,A52]
          obtain ⟨v31,A53,H⟩:=HS.bnd H
          try simp -implicitDefEqProofs +decide (maxSteps:=999999) [-selQ_sel,hokQ_of,A43,A44,A52,A53]
          obtain ⟨A54,H⟩:=HS.chkP H
          try simp -implicitDefEqProofs +decide (maxSteps:=999999) [-selQ_sel,hokQ_of,A43,A44,A52,A53,A54]
          obtain ⟨l32,A55,H⟩:=HS.nam H
          have E56:=congrArg (List.map eNode) A55
          have D57:=congrArg List.length A55
          simp -implicitDefEqProofs at E56 D57
          try simp only [D57] at E56
          try simp only [D57] at A54
          try simp -implicitDefEqProofs +decide (maxSteps:=999999) [-selQ_sel,hokQ_of,A43,A44,A52,A53,A54,E56,D57]
          refine Hid.selQ (fun A58=>?_) (fun A58=>?_)
          ·replace H:=HS.cnd_t A58 H
           try simp -implicitDefEqProofs +decide (maxSteps:=999999) [-selQ_sel,hokQ_of,A43,A44,A52,A53,A54,E56,D57,A58]
           refine Hid.brV (fun A59=>?_) (fun A59=>?_)
           ·replace H:=HS.cnd_t A59 H
            try simp -implicitDefEqProofs +decide (maxSteps:=999999) [-selQ_sel,hokQ_of,A43,A44,A52,A53,A54,E56,D57,A58,A59]
            have hr:=(HS.some H).symm;subst hr
            exact Hid.mk ⟨spec_PlaceNode_l1_S a0 a2 a3 v1 v3 v22 ((IntKind.i64.wrap (x26 + 1)),l32),Wk.ofk [0,1,2,3,4,5] hk (by rfl) (by simp -implicitDefEqProofs [spec_PlaceNode_l1_S,A43,A44,A52,A53,A54,E56,D57,A58,A59]) (by simp -implicitDefEqProofs [spec_PlaceNode_l1_S,A43,A44,A52,A53,A54,E56,D57,A58,A59]),hR⟩
           ·replace H:=HS.cnd_f A59 H
            try simp -implicitDefEqProofs +decide (maxSteps:=999999) [-selQ_sel,hokQ_of,A43,A44,A52,A53,A54,E56,D57,A58,A59]
            obtain ⟨A60,H⟩:=HS.chkP H
            try simp -implicitDefEqProofs +decide (maxSteps:=999999) [-selQ_sel,hokQ_of,A43,A44,A52,A53,A54,E56,D57,A58,A59,A60]
            obtain ⟨l33,A61,H⟩:=HS.nam H
            have E62:=congrArg (List.map eNode) A61
            have D63:=congrArg List.length A61
            simp -implicitDefEqProofs at E62 D63
            try simp only [D63] at E62
            try simp only [D63] at A60
            try simp -implicitDefEqProofs +decide (maxSteps:=999999) [-selQ_sel,hokQ_of,A43,A44,A52,A53,A54,E56,D57,A58,A59,A60,E62,D63]
            have hr:=(HS.some H).symm;subst hr
            exact Hid.mk ⟨spec_PlaceNode_l1_S a0 a2 a3 v1 v3 v22 ((IntKind.i64.wrap (x26 + 1)),l33),Wk.ofk [0,1,2,3,4,5] hk (by rfl) (by simp -implicitDefEqProofs [spec_PlaceNode_l1_S,A43,A44,A52,A53,A54,E56,D57,A58,A59,A60,E62,D63]) (by simp -implicitDefEqProofs [spec_PlaceNode_l1_S,A43,A44,A52,A53,A54,E56,D57,A58,A59,A60,E62,D63]),hR⟩
          ·replace H:=HS.cnd_f A58 H
           try simp -implicitDefEqProofs +decide (maxSteps:=999999) [-selQ_sel,hokQ_of,A43,A44,A52,A53,A54,E56,D57,A58]
           have hr:=(HS.some H).symm;subst hr
           exact Hid.mk ⟨spec_PlaceNode_l1_S a0 a2 a3 v1 v3 v22 ((IntKind.i64.wrap (x26 + 1)),l32),Wk.ofk [0,1,2,3,4,5] hk (by rfl) (by simp -implicitDefEqProofs [spec_PlaceNode_l1_S,A43,A44,A52,A53,A54,E56,D57,A58]) (by simp -implicitDefEqProofs [spec_PlaceNode_l1_S,A43,A44,A52,A53,A54,E56,D57,A58]),hR⟩
       ·revert H A42;revert q;intro y34 A42 H
        try dsimp only at H
        try simp -implicitDefEqProofs +decide (maxSteps:=999999) [-selQ_sel,hokQ_of,A1,A2,A3,A4,A5,A6,A7,A8,A37,A38,A39,A40,A41,spec_PlaceNode_l1_X]
        obtain ⟨v35,A64,H⟩:=HS.bnd H
        have F65:=spec_SceneOk_k ((TScene.mk y34).nodes)
        simp -implicitDefEqProofs [-spec_SceneOk_k] at F65
        try simp -implicitDefEqProofs +decide (maxSteps:=999999) [-selQ_sel,hokQ_of,A1,A2,A3,A4,A5,A6,A7,A8,A37,A38,A39,A40,A41,A64,F65]
        refine Hid.brV (fun A66=>?_) (fun A66=>?_)
        ·replace H:=HS.cnd_t A66 H
         try simp -implicitDefEqProofs +decide (maxSteps:=999999) [-selQ_sel,hokQ_of,A1,A2,A3,A4,A5,A6,A7,A8,A37,A38,A39,A40,A41,A64,F65,A66]
         have hr:=(HS.some H).symm;subst hr
         refine Hid.mk ⟨_,Wk.refl _,?_⟩
         try simp -implicitDefEqProofs +decide (maxSteps:=999999) [-selQ_sel,hokQ_of,A1,A2,A3,A4,A5,A6,A7,A8,A37,A38,A39,A40,A41,A64,F65,A66]
        ·replace H:=HS.cnd_f A66 H
         try simp -implicitDefEqProofs +decide (maxSteps:=999999) [-selQ_sel,hokQ_of,A1,A2,A3,A4,A5,A6,A7,A8,A37,A38,A39,A40,A41,A64,F65,A66]
         have hr:=(HS.some H).symm;subst hr
         refine Hid.mk ⟨_,Wk.refl _,?_⟩
         try simp -implicitDefEqProofs +decide (maxSteps:=999999) [-selQ_sel,hokQ_of,A1,A2,A3,A4,A5,A6,A7,A8,A37,A38,A39,A40,A41,A64,F65,A66]
     ·replace H:=HS.cnd_f A38 H
      try simp -implicitDefEqProofs +decide (maxSteps:=999999) [-selQ_sel,hokQ_of,A1,A2,A3,A4,A5,A6,A7,A8,A37,A38]
      have hr:=(HS.some H).symm;subst hr
      refine Hid.mk ⟨_,Wk.refl _,?_⟩
      try simp -implicitDefEqProofs +decide (maxSteps:=999999) [-selQ_sel,hokQ_of,A1,A2,A3,A4,A5,A6,A7,A8,A37,A38]
   ·replace H:=HS.cnd_f A7 H
    try simp -implicitDefEqProofs +decide (maxSteps:=999999) [-selQ_sel,hokQ_of,A1,A2,A3,A4,A5,A6,A7]
    refine Hid.selQ (fun A67=>?_) (fun A67=>?_)
    ·replace H:=HS.cnd_t A67 H
     try simp -implicitDefEqProofs +decide (maxSteps:=999999) [-selQ_sel,hokQ_of,A1,A2,A3,A4,A5,A6,A7,A67]
     obtain ⟨v36,A68,H⟩:=HS.bnd H
     try simp -implicitDefEqProofs +decide (maxSteps:=999999) [-selQ_sel,hokQ_of,A1,A2,A3,A4,A5,A6,A7,A67,A68]
     refine Hid.selQ (fun A69=>?_) (fun A69=>?_)
     ·replace H:=HS.cnd_t A69 H
      try simp -implicitDefEqProofs +decide (maxSteps:=999999) [-selQ_sel,hokQ_of,A1,A2,A3,A4,A5,A6,A7,A67,A68,A69]
      refine Hid.selQ (fun A70=>?_) (fun A70=>?_)
      ·replace H:=HS.cnd_t A70 H
       try simp -implicitDefEqProofs +decide (maxSteps:=999999) [-selQ_sel,hokQ_of,A1,A2,A3,A4,A5,A6,A7,A67,A68,A69,A70]
       refine Hid.brV (fun A71=>?_) (fun A71=>?_)
       ·replace H:=HS.cnd_t A71 H
        try simp -implicitDefEqProofs +decide (maxSteps:=999999) [-selQ_sel,hokQ_of,A1,A2,A3,A4,A5,A6,A7,A67,A68,A69,A70,A71]
        have hr:=(HS.some H).symm;subst hr
        refine Hid.mk ⟨_,Wk.refl _,?_⟩
        try simp -implicitDefEqProofs +decide (maxSteps:=999999) [-selQ_sel,hokQ_of,A1,A2,A3,A4,A5,A6,A7,A67,A68,A69,A70,A71]
       ·replace H:=HS.cnd_f A71 H
        try simp -implicitDefEqProofs +decide (maxSteps:=999999) [-selQ_sel,hokQ_of,A1,A2,A3,A4,A5,A6,A7,A67,A68,A69,A70,A71]
        obtain ⟨v37,A72,H⟩:=HS.bnd H
        try simp -implicitDefEqProofs +decide (maxSteps:=999999) [-selQ_sel,hokQ_of,A1,A2,A3,A4,A5,A6,A7,A67,A68,A69,A70,A71,A72]
        refine Hid.brV (fun A73=>?_) (fun A73=>?_)
        ·replace H:=HS.cnd_t A73 H
         try simp -implicitDefEqProofs +decide (maxSteps:=999999) [-selQ_sel,hokQ_of,A1,A2,A3,A4,A5,A6,A7,A67,A68,A69,A70,A71,A72,A73]
         have hr:=(HS.some H).symm;subst hr
         refine Hid.mk ⟨_,Wk.refl _,?_⟩
         try simp -implicitDefEqProofs +decide (maxSteps:=999999) [-selQ_sel,hokQ_of,A1,A2,A3,A4,A5,A6,A7,A67,A68,A69,A70,A71,A72,A73]
        ·replace H:=HS.cnd_f A73 H
         try simp -implicitDefEqProofs +decide (maxSteps:=999999) [-selQ_sel,hokQ_of,A1,A2,A3,A4,A5,A6,A7,A67,A68,A69,A70,A71,A72,A73]
         obtain ⟨v38,A74,H⟩:=HS.bnd H
         try simp -implicitDefEqProofs +decide (maxSteps:=999999) [-selQ_sel,hokQ_of,A1,A2,A3,A4,A5,A6,A7,A67,A68,A69,A70,A71,A72,A73,A74]
         obtain ⟨v39,A75,H⟩:=HS.bnd H
         try simp -implicitDefEqProofs +decide (maxSteps:=999999) [-selQ_sel,hokQ_of,A1,A2,A3,A4,A5,A6,A7,A67,A68,A69,A70,A71,A72,A73,A74,A75]
         obtain ⟨q,A76,H⟩:=HS.bnd H
         refine Hid.mk (Tr.weak (s':=(spec_PlaceNode_l2_S a0 a2 a3 v1 v3 v39) (0,[(TNode.mk v39.id a2 v39.group v39.mat v39.path v39.even v39.width v39.dashes v39.paint v39.mode v39.fade v39.clip)])) (Wk.ofk [0,1,2,3,4,6] hk (by rfl) (by simp -implicitDefEqProofs [spec_PlaceNode_l2_S,A1,A2,A3,A4,A5,A6,A7,A67,A68,A69,A70,A71,A72,A73,A74,A75]) (by simp -implicitDefEqProofs [spec_PlaceNode_l2_S,A1,A2,A3,A4,A5,A6,A7,A67,A68,A69,A70,A71,A72,A73,A74,A75])) ?_)
         refine wp_loop_of (S:=(spec_PlaceNode_l2_S a0 a2 a3 v1 v3 v39)) (f:=(spec_PlaceNode_l2 a0 a2 a3 v1 v3 v39)) (xt:=(spec_PlaceNode_l2_X a0 a2 a3 v1 v3 v39)) ?_ ?_ A76 ?_
         ·intro q;simp [spec_PlaceNode_l2_X]
         ·clear H A76 q
          rintro ⟨x43,x44⟩ o R hf hR
          have H:HS (spec_PlaceNode_l2 a0 a2 a3 v1 v3 v39 (x43,x44)) o:=hf
          clear hf;unfold spec_PlaceNode_l2 at H
          try simp -implicitDefEqProofs at H
          refine Tr.of_vc (cl:=tabC [(43,spec_l15Copy_x),(44,spec_SceneOk_x),(45,spec_NodeAt_x),(47,spec_l15CopyNode_x),(46,spec_l15Under_x)]) (E:=E0) [] (tab_cons k_spec_l15Copy (tab_cons k_spec_SceneOk (tab_cons k_spec_NodeAt (tab_cons k_spec_l15CopyNode (tab_cons k_spec_l15Under tab_nil))))) hm (by rw [hn];decide +kernel) ?_
          try simp -implicitDefEqProofs +decide (maxSteps:=999999) [-selQ_sel,hokQ_of,spec_PlaceNode_l2_S]
          refine Hid.brV (fun A77=>?_) (fun A77=>?_)
          ·replace H:=HS.cnd_t A77 H
           try simp -implicitDefEqProofs +decide (maxSteps:=999999) [-selQ_sel,hokQ_of,A77]
           have hr:=(HS.some H).symm;subst hr
           exact Hid.mk ⟨(spec_PlaceNode_l2_X a0 a2 a3 v1 v3 v39 x44).2,Wk.ofk [1,2,4,5] hk (by rfl) (by simp -implicitDefEqProofs [spec_PlaceNode_l2_X,A77]) (by simp -implicitDefEqProofs [spec_PlaceNode_l2_X,A77]),hR⟩
          ·replace H:=HS.cnd_f A77 H
           try simp -implicitDefEqProofs +decide (maxSteps:=999999) [-selQ_sel,hokQ_of,A77]
           refine Hid.brV (fun A78=>?_) (fun A78=>?_)
           ·replace H:=HS.cnd_t A78 H
            try simp -implicitDefEqProofs +decide (maxSteps:=999999) [-selQ_sel,hokQ_of,A77,A78]
            obtain ⟨v45,A79,H⟩:=HS.bnd H
            try simp -implicitDefEqProofs +decide (maxSteps:=999999) [-selQ_sel,hokQ_of,A77,A78,A79]
            refine Hid.selQ (fun A80=>?_) (fun A80=>?_)
            ·replace H:=HS.cnd_t A80 H
             try simp -implicitDefEqProofs +decide (maxSteps:=999999) [-selQ_sel,hokQ_of,A77,A78,A79,A80]
             refine Hid.brV (fun A81=>?_) (fun A81=>?_)
             ·replace H:=HS.cnd_t A81 H
              try simp -implicitDefEqProofs +decide (maxSteps:=999999) [-selQ_sel,hokQ_of,A77,A78,A79,A80,A81]
              have hr:=(HS.some H).symm;subst hr
              exact Hid.mk ⟨spec_PlaceNode_l2_S a0 a2 a3 v1 v3 v39 ((IntKind.i64.wrap (x43 + 1)),x44),Wk.ofk [0,1,2,3,4,5] hk (by rfl) (by simp -implicitDefEqProofs [spec_PlaceNode_l2_S,A77,A78,A79,A80,A81]) (by simp -implicitDefEqProofs [spec_PlaceNode_l2_S,A77,A78,A79,A80,A81]),hR⟩
             ·replace H:=HS.cnd_f A81 H
              try simp -implicitDefEqProofs +decide (maxSteps:=999999) [-selQ_sel,hokQ_of,A77,A78,A79,A80,A81]
              obtain ⟨A82,H⟩:=HS.chkP H
              try simp -implicitDefEqProofs +decide (maxSteps:=999999) [-selQ_sel,hokQ_of,A77,A78,A79,A80,A81,A82]
              obtain ⟨l46,A83,H⟩:=HS.nam H
              have E84:=congrArg (List.map eNode) A83
              have D85:=congrArg List.length A83
              simp -implicitDefEqProofs at E84 D85
              try simp only [D85] at E84
              try simp only [D85] at A82
              try simp -implicitDefEqProofs +decide (maxSteps:=999999) [-selQ_sel,hokQ_of,A77,A78,A79,A80,A81,A82,E84,D85]
              have hr:=(HS.some H).symm;subst hr
              exact Hid.mk ⟨spec_PlaceNode_l2_S a0 a2 a3 v1 v3 v39 ((IntKind.i64.wrap (x43 + 1)),l46),Wk.ofk [0,1,2,3,4,5] hk (by rfl) (by simp -implicitDefEqProofs [spec_PlaceNode_l2_S,A77,A78,A79,A80,A81,A82,E84,D85]) (by simp -implicitDefEqProofs [spec_PlaceNode_l2_S,A77,A78,A79,A80,A81,A82,E84,D85]),hR⟩
            ·replace H:=HS.cnd_f A80 H
             try simp -implicitDefEqProofs +decide (maxSteps:=999999) [-selQ_sel,hokQ_of,A77,A78,A79,A80]
             have hr:=(HS.some H).symm;subst hr
             exact Hid.mk ⟨spec_PlaceNode_l2_S a0 a2 a3 v1 v3 v39 ((IntKind.i64.wrap (x43 + 1)),x44),Wk.ofk [0,1,2,3,4,5] hk (by rfl) (by simp -implicitDefEqProofs [spec_PlaceNode_l2_S,A77,A78,A79,A80]) (by simp -implicitDefEqProofs [spec_PlaceNode_l2_S,A77,A78,A79,A80]),hR⟩
           ·replace H:=HS.cnd_f A78 H
            try simp -implicitDefEqProofs +decide (maxSteps:=999999) [-selQ_sel,hokQ_of,A77,A78]
            obtain ⟨v47,A86,H⟩:=HS.bnd H
            try simp -implicitDefEqProofs +decide (maxSteps:=999999) [-selQ_sel,hokQ_of,A77,A78,A86]
            obtain ⟨v48,A87,H⟩:=HS.bnd H
            try simp -implicitDefEqProofs +decide (maxSteps:=999999) [-selQ_sel,hokQ_of,A77,A78,A86,A87]
            obtain ⟨A88,H⟩:=HS.chkP H
            try simp -implicitDefEqProofs +decide (maxSteps:=999999) [-selQ_sel,hokQ_of,A77,A78,A86,A87,A88]
            obtain ⟨l49,A89,H⟩:=HS.nam H
            have E90:=congrArg (List.map eNode) A89
            have D91:=congrArg List.length A89
            simp -implicitDefEqProofs at E90 D91
            try simp only [D91] at E90
            try simp only [D91] at A88
            try simp -implicitDefEqProofs +decide (maxSteps:=999999) [-selQ_sel,hokQ_of,A77,A78,A86,A87,A88,E90,D91]
            refine Hid.selQ (fun A92=>?_) (fun A92=>?_)
            ·replace H:=HS.cnd_t A92 H
             try simp -implicitDefEqProofs +decide (maxSteps:=999999) [-selQ_sel,hokQ_of,A77,A78,A86,A87,A88,E90,D91,A92]
             refine Hid.brV (fun A93=>?_) (fun A93=>?_)
             ·replace H:=HS.cnd_t A93 H
              try simp -implicitDefEqProofs +decide (maxSteps:=999999) [-selQ_sel,hokQ_of,A77,A78,A86,A87,A88,E90,D91,A92,A93]
              have hr:=(HS.some H).symm;subst hr
              exact Hid.mk ⟨spec_PlaceNode_l2_S a0 a2 a3 v1 v3 v39 ((IntKind.i64.wrap (x43 + 1)),l49),Wk.ofk [0,1,2,3,4,5] hk (by rfl) (by simp -implicitDefEqProofs [spec_PlaceNode_l2_S,A77,A78,A86,A87,A88,E90,D91,A92,A93]) (by simp -implicitDefEqProofs [spec_PlaceNode_l2_S,A77,A78,A86,A87,A88,E90,D91,A92,A93]),hR⟩
             ·replace H:=HS.cnd_f A93 H
              try simp -implicitDefEqProofs +decide (maxSteps:=999999) [-selQ_sel,hokQ_of,A77,A78,A86,A87,A88,E90,D91,A92,A93]
              obtain ⟨A94,H⟩:=HS.chkP H
              try simp -implicitDefEqProofs +decide (maxSteps:=999999) [-selQ_sel,hokQ_of,A77,A78,A86,A87,A88,E90,D91,A92,A93,A94]
              obtain ⟨l50,A95,H⟩:=HS.nam H
              have E96:=congrArg (List.map eNode) A95
              have D97:=congrArg List.length A95
              simp -implicitDefEqProofs at E96 D97
              try simp only [D97] at E96
              try simp only [D97] at A94
              try simp -implicitDefEqProofs +decide (maxSteps:=999999) [-selQ_sel,hokQ_of,A77,A78,A86,A87,A88,E90,D91,A92,A93,A94,E96,D97]
              have hr:=(HS.some H).symm;subst hr
              exact Hid.mk ⟨spec_PlaceNode_l2_S a0 a2 a3 v1 v3 v39 ((IntKind.i64.wrap (x43 + 1)),l50),Wk.ofk [0,1,2,3,4,5] hk (by rfl) (by simp -implicitDefEqProofs [spec_PlaceNode_l2_S,A77,A78,A86,A87,A88,E90,D91,A92,A93,A94,E96,D97]) (by simp -implicitDefEqProofs [spec_PlaceNode_l2_S,A77,A78,A86,A87,A88,E90,D91,A92,A93,A94,E96,D97]),hR⟩
            ·replace H:=HS.cnd_f A92 H
             try simp -implicitDefEqProofs +decide (maxSteps:=999999) [-selQ_sel,hokQ_of,A77,A78,A86,A87,A88,E90,D91,A92]
             have hr:=(HS.some H).symm;subst hr
             exact Hid.mk ⟨spec_PlaceNode_l2_S a0 a2 a3 v1 v3 v39 ((IntKind.i64.wrap (x43 + 1)),l49),Wk.ofk [0,1,2,3,4,5] hk (by rfl) (by simp -implicitDefEqProofs [spec_PlaceNode_l2_S,A77,A78,A86,A87,A88,E90,D91,A92]) (by simp -implicitDefEqProofs [spec_PlaceNode_l2_S,A77,A78,A86,A87,A88,E90,D91,A92]),hR⟩
         ·revert H A76;revert q;intro y51 A76 H
          try dsimp only at H
          try simp -implicitDefEqProofs +decide (maxSteps:=999999) [-selQ_sel,hokQ_of,A1,A2,A3,A4,A5,A6,A7,A67,A68,A69,A70,A71,A72,A73,A74,A75,spec_PlaceNode_l2_X]
          obtain ⟨v52,A98,H⟩:=HS.bnd H
          have F99:=spec_SceneOk_k ((TScene.mk y51).nodes)
          simp -implicitDefEqProofs [-spec_SceneOk_k] at F99
          try simp -implicitDefEqProofs +decide (maxSteps:=999999) [-selQ_sel,hokQ_of,A1,A2,A3,A4,A5,A6,A7,A67,A68,A69,A70,A71,A72,A73,A74,A75,A98,F99]
          refine Hid.brV (fun A100=>?_) (fun A100=>?_)
          ·replace H:=HS.cnd_t A100 H
           try simp -implicitDefEqProofs +decide (maxSteps:=999999) [-selQ_sel,hokQ_of,A1,A2,A3,A4,A5,A6,A7,A67,A68,A69,A70,A71,A72,A73,A74,A75,A98,F99,A100]
           have hr:=(HS.some H).symm;subst hr
           refine Hid.mk ⟨_,Wk.refl _,?_⟩
           try simp -implicitDefEqProofs +decide (maxSteps:=999999) [-selQ_sel,hokQ_of,A1,A2,A3,A4,A5,A6,A7,A67,A68,A69,A70,A71,A72,A73,A74,A75,A98,F99,A100]
          ·replace H:=HS.cnd_f A100 H
           try simp -implicitDefEqProofs +decide (maxSteps:=999999) [-selQ_sel,hokQ_of,A1,A2,A3,A4,A5,A6,A7,A67,A68,A69,A70,A71,A72,A73,A74,A75,A98,F99,A100]
           have hr:=(HS.some H).symm;subst hr
           refine Hid.mk ⟨_,Wk.refl _,?_⟩
           try simp -implicitDefEqProofs +decide (maxSteps:=999999) [-selQ_sel,hokQ_of,A1,A2,A3,A4,A5,A6,A7,A67,A68,A69,A70,A71,A72,A73,A74,A75,A98,F99,A100]
      ·replace H:=HS.cnd_f A70 H
       try simp -implicitDefEqProofs +decide (maxSteps:=999999) [-selQ_sel,hokQ_of,A1,A2,A3,A4,A5,A6,A7,A67,A68,A69,A70]
       obtain ⟨v53,A101,H⟩:=HS.bnd H
       try simp -implicitDefEqProofs +decide (maxSteps:=999999) [-selQ_sel,hokQ_of,A1,A2,A3,A4,A5,A6,A7,A67,A68,A69,A70,A101]
       refine Hid.selQ (fun A102=>?_) (fun A102=>?_)
       ·replace H:=HS.cnd_t A102 H
        try simp -implicitDefEqProofs +decide (maxSteps:=999999) [-selQ_sel,hokQ_of,A1,A2,A3,A4,A5,A6,A7,A67,A68,A69,A70,A101,A102]
        refine Hid.brV (fun A103=>?_) (fun A103=>?_)
        ·replace H:=HS.cnd_t A103 H
         try simp -implicitDefEqProofs +decide (maxSteps:=999999) [-selQ_sel,hokQ_of,A1,A2,A3,A4,A5,A6,A7,A67,A68,A69,A70,A101,A102,A103]
         have hr:=(HS.some H).symm;subst hr
         refine Hid.mk ⟨_,Wk.refl _,?_⟩
         try simp -implicitDefEqProofs +decide (maxSteps:=999999) [-selQ_sel,hokQ_of,A1,A2,A3,A4,A5,A6,A7,A67,A68,A69,A70,A101,A102,A103]
        ·replace H:=HS.cnd_f A103 H
         try simp -implicitDefEqProofs +decide (maxSteps:=999999) [-selQ_sel,hokQ_of,A1,A2,A3,A4,A5,A6,A7,A67,A68,A69,A70,A101,A102,A103]
         obtain ⟨v54,A104,H⟩:=HS.bnd H
         try simp -implicitDefEqProofs +decide (maxSteps:=999999) [-selQ_sel,hokQ_of,A1,A2,A3,A4,A5,A6,A7,A67,A68,A69,A70,A101,A102,A103,A104]
         refine Hid.brV (fun A105=>?_) (fun A105=>?_)
         ·replace H:=HS.cnd_t A105 H
          try simp -implicitDefEqProofs +decide (maxSteps:=999999) [-selQ_sel,hokQ_of,A1,A2,A3,A4,A5,A6,A7,A67,A68,A69,A70,A101,A102,A103,A104,A105]
          have hr:=(HS.some H).symm;subst hr
          refine Hid.mk ⟨_,Wk.refl _,?_⟩
          try simp -implicitDefEqProofs +decide (maxSteps:=999999) [-selQ_sel,hokQ_of,A1,A2,A3,A4,A5,A6,A7,A67,A68,A69,A70,A101,A102,A103,A104,A105]
         ·replace H:=HS.cnd_f A105 H
          try simp -implicitDefEqProofs +decide (maxSteps:=999999) [-selQ_sel,hokQ_of,A1,A2,A3,A4,A5,A6,A7,A67,A68,A69,A70,A101,A102,A103,A104,A105]
          obtain ⟨v55,A106,H⟩:=HS.bnd H
          try simp -implicitDefEqProofs +decide (maxSteps:=999999) [-selQ_sel,hokQ_of,A1,A2,A3,A4,A5,A6,A7,A67,A68,A69,A70,A101,A102,A103,A104,A105,A106]
          obtain ⟨v56,A107,H⟩:=HS.bnd H
          try simp -implicitDefEqProofs +decide (maxSteps:=999999) [-selQ_sel,hokQ_of,A1,A2,A3,A4,A5,A6,A7,A67,A68,A69,A70,A101,A102,A103,A104,A105,A106,A107]
          obtain ⟨q,A108,H⟩:=HS.bnd H
          refine Hid.mk (Tr.weak (s':=(spec_PlaceNode_l3_S a0 a2 a3 v1 v3 v56) (0,[])) (Wk.ofk [0,1,2,3,4,5] hk (by rfl) (by simp -implicitDefEqProofs [spec_PlaceNode_l3_S,A1,A2,A3,A4,A5,A6,A7,A67,A68,A69,A70,A101,A102,A103,A104,A105,A106,A107]) (by simp -implicitDefEqProofs [spec_PlaceNode_l3_S,A1,A2,A3,A4,A5,A6,A7,A67,A68,A69,A70,A101,A102,A103,A104,A105,A106,A107])) ?_)
          refine wp_loop_of (S:=(spec_PlaceNode_l3_S a0 a2 a3 v1 v3 v56)) (f:=(spec_PlaceNode_l3 a0 a2 a3 v1 v3 v56)) (xt:=(spec_PlaceNode_l3_X a0 a2 a3 v1 v3 v56)) ?_ ?_ A108 ?_
          ·intro q;simp [spec_PlaceNode_l3_X]
          ·clear H A108 q
           rintro ⟨x60,x61⟩ o R hf hR
           have H:HS (spec_PlaceNode_l3 a0 a2 a3 v1 v3 v56 (x60,x61)) o:=hf
           clear hf;unfold spec_PlaceNode_l3 at H
           try simp -implicitDefEqProofs at H
           refine Tr.of_vc (cl:=tabC [(43,spec_l15Copy_x),(44,spec_SceneOk_x),(45,spec_NodeAt_x),(47,spec_l15CopyNode_x),(46,spec_l15Under_x)]) (E:=E0) [] (tab_cons k_spec_l15Copy (tab_cons k_spec_SceneOk (tab_cons k_spec_NodeAt (tab_cons k_spec_l15CopyNode (tab_cons k_spec_l15Under tab_nil))))) hm (by rw [hn];decide +kernel) ?_
           try simp -implicitDefEqProofs +decide (maxSteps:=999999) [-selQ_sel,hokQ_of,spec_PlaceNode_l3_S]
           refine Hid.brV (fun A109=>?_) (fun A109=>?_)
           ·replace H:=HS.cnd_t A109 H
            try simp -implicitDefEqProofs +decide (maxSteps:=999999) [-selQ_sel,hokQ_of,A109]
            have hr:=(HS.some H).symm;subst hr
            exact Hid.mk ⟨(spec_PlaceNode_l3_X a0 a2 a3 v1 v3 v56 x61).2,Wk.ofk [1,2,4,5] hk (by rfl) (by simp -implicitDefEqProofs [spec_PlaceNode_l3_X,A109]) (by simp -implicitDefEqProofs [spec_PlaceNode_l3_X,A109]),hR⟩
           ·replace H:=HS.cnd_f A109 H
            try simp -implicitDefEqProofs +decide (maxSteps:=999999) [-selQ_sel,hokQ_of,A109]
            refine Hid.brV (fun A110=>?_) (fun A110=>?_)
            ·replace H:=HS.cnd_t A110 H
             try simp -implicitDefEqProofs +decide (maxSteps:=999999) [-selQ_sel,hokQ_of,A109,A110]
             obtain ⟨v62,A111,H⟩:=HS.bnd H
             try simp -implicitDefEqProofs +decide (maxSteps:=999999) [-selQ_sel,hokQ_of,A109,A110,A111]
             refine Hid.selQ (fun A112=>?_) (fun A112=>?_)
             ·replace H:=HS.cnd_t A112 H
              try simp -implicitDefEqProofs +decide (maxSteps:=999999) [-selQ_sel,hokQ_of,A109,A110,A111,A112]
              refine Hid.brV (fun A113=>?_) (fun A113=>?_)
              ·replace H:=HS.cnd_t A113 H
               try simp -implicitDefEqProofs +decide (maxSteps:=999999) [-selQ_sel,hokQ_of,A109,A110,A111,A112,A113]
               have hr:=(HS.some H).symm;subst hr
               exact Hid.mk ⟨spec_PlaceNode_l3_S a0 a2 a3 v1 v3 v56 ((IntKind.i64.wrap (x60 + 1)),x61),Wk.ofk [0,1,2,3,4,5] hk (by rfl) (by simp -implicitDefEqProofs [spec_PlaceNode_l3_S,A109,A110,A111,A112,A113]) (by simp -implicitDefEqProofs [spec_PlaceNode_l3_S,A109,A110,A111,A112,A113]),hR⟩
              ·replace H:=HS.cnd_f A113 H
               try simp -implicitDefEqProofs +decide (maxSteps:=999999) [-selQ_sel,hokQ_of,A109,A110,A111,A112,A113]
               obtain ⟨A114,H⟩:=HS.chkP H
               try simp -implicitDefEqProofs +decide (maxSteps:=999999) [-selQ_sel,hokQ_of,A109,A110,A111,A112,A113,A114]
               obtain ⟨l63,A115,H⟩:=HS.nam H
               have E116:=congrArg (List.map eNode) A115
               have D117:=congrArg List.length A115
               simp -implicitDefEqProofs at E116 D117
               try simp only [D117] at E116
               try simp only [D117] at A114
               try simp -implicitDefEqProofs +decide (maxSteps:=999999) [-selQ_sel,hokQ_of,A109,A110,A111,A112,A113,A114,E116,D117]
               have hr:=(HS.some H).symm;subst hr
               exact Hid.mk ⟨spec_PlaceNode_l3_S a0 a2 a3 v1 v3 v56 ((IntKind.i64.wrap (x60 + 1)),l63),Wk.ofk [0,1,2,3,4,5] hk (by rfl) (by simp -implicitDefEqProofs [spec_PlaceNode_l3_S,A109,A110,A111,A112,A113,A114,E116,D117]) (by simp -implicitDefEqProofs [spec_PlaceNode_l3_S,A109,A110,A111,A112,A113,A114,E116,D117]),hR⟩
             ·replace H:=HS.cnd_f A112 H
              try simp -implicitDefEqProofs +decide (maxSteps:=999999) [-selQ_sel,hokQ_of,A109,A110,A111,A112]
              have hr:=(HS.some H).symm;subst hr
              exact Hid.mk ⟨spec_PlaceNode_l3_S a0 a2 a3 v1 v3 v56 ((IntKind.i64.wrap (x60 + 1)),x61),Wk.ofk [0,1,2,3,4,5] hk (by rfl) (by simp -implicitDefEqProofs [spec_PlaceNode_l3_S,A109,A110,A111,A112]) (by simp -implicitDefEqProofs [spec_PlaceNode_l3_S,A109,A110,A111,A112]),hR⟩
            ·replace H:=HS.cnd_f A110 H
             try simp -implicitDefEqProofs +decide (maxSteps:=999999) [-selQ_sel,hokQ_of,A109,A110]
             obtain ⟨v64,A118,H⟩:=HS.bnd H
             try simp -implicitDefEqProofs +decide (maxSteps:=999999) [-selQ_sel,hokQ_of,A109,A110,A118]
             obtain ⟨v65,A119,H⟩:=HS.bnd H
             try simp -implicitDefEqProofs +decide (maxSteps:=999999) [-selQ_sel,hokQ_of,A109,A110,A118,A119]
             obtain ⟨A120,H⟩:=HS.chkP H
             try simp -implicitDefEqProofs +decide (maxSteps:=999999) [-selQ_sel,hokQ_of,A109,A110,A118,A119,A120]
             obtain ⟨l66,A121,H⟩:=HS.nam H
             have E122:=congrArg (List.map eNode) A121
             have D123:=congrArg List.length A121
             simp -implicitDefEqProofs at E122 D123
             try simp only [D123] at E122
             try simp only [D123] at A120
             try simp -implicitDefEqProofs +decide (maxSteps:=999999) [-selQ_sel,hokQ_of,A109,A110,A118,A119,A120,E122,D123]
             refine Hid.selQ (fun A124=>?_) (fun A124=>?_)
             ·replace H:=HS.cnd_t A124 H
              try simp -implicitDefEqProofs +decide (maxSteps:=999999) [-selQ_sel,hokQ_of,A109,A110,A118,A119,A120,E122,D123,A124]
              refine Hid.brV (fun A125=>?_) (fun A125=>?_)
              ·replace H:=HS.cnd_t A125 H
               try simp -implicitDefEqProofs +decide (maxSteps:=999999) [-selQ_sel,hokQ_of,A109,A110,A118,A119,A120,E122,D123,A124,A125]
               have hr:=(HS.some H).symm;subst hr
               exact Hid.mk ⟨spec_PlaceNode_l3_S a0 a2 a3 v1 v3 v56 ((IntKind.i64.wrap (x60 + 1)),l66),Wk.ofk [0,1,2,3,4,5] hk (by rfl) (by simp -implicitDefEqProofs [spec_PlaceNode_l3_S,A109,A110,A118,A119,A120,E122,D123,A124,A125]) (by simp -implicitDefEqProofs [spec_PlaceNode_l3_S,A109,A110,A118,A119,A120,E122,D123,A124,A125]),hR⟩
              ·replace H:=HS.cnd_f A125 H
               try simp -implicitDefEqProofs +decide (maxSteps:=999999) [-selQ_sel,hokQ_of,A109,A110,A118,A119,A120,E122,D123,A124,A125]
               obtain ⟨A126,H⟩:=HS.chkP H
               try simp -implicitDefEqProofs +decide (maxSteps:=999999) [-selQ_sel,hokQ_of,A109,A110,A118,A119,A120,E122,D123,A124,A125,A126]
               obtain ⟨l67,A127,H⟩:=HS.nam H
               have E128:=congrArg (List.map eNode) A127
               have D129:=congrArg List.length A127
               simp -implicitDefEqProofs at E128 D129
               try simp only [D129] at E128
               try simp only [D129] at A126
               try simp -implicitDefEqProofs +decide (maxSteps:=999999) [-selQ_sel,hokQ_of,A109,A110,A118,A119,A120,E122,D123,A124,A125,A126,E128,D129]
               have hr:=(HS.some H).symm;subst hr
               exact Hid.mk ⟨spec_PlaceNode_l3_S a0 a2 a3 v1 v3 v56 ((IntKind.i64.wrap (x60 + 1)),l67),Wk.ofk [0,1,2,3,4,5] hk (by rfl) (by simp -implicitDefEqProofs [spec_PlaceNode_l3_S,A109,A110,A118,A119,A120,E122,D123,A124,A125,A126,E128,D129]) (by simp -implicitDefEqProofs [spec_PlaceNode_l3_S,A109,A110,A118,A119,A120,E122,D123,A124,A125,A126,E128,D129]),hR⟩
             ·replace H:=HS.cnd_f A124 H
              try simp -implicitDefEqProofs +decide (maxSteps:=999999) [-selQ_sel,hokQ_of,A109,A110,A118,A119,A120,E122,D123,A124]
              have hr:=(HS.some H).symm;subst hr
              exact Hid.mk ⟨spec_PlaceNode_l3_S a0 a2 a3 v1 v3 v56 ((IntKind.i64.wrap (x60 + 1)),l66),Wk.ofk [0,1,2,3,4,5] hk (by rfl) (by simp -implicitDefEqProofs [spec_PlaceNode_l3_S,A109,A110,A118,A119,A120,E122,D123,A124]) (by simp -implicitDefEqProofs [spec_PlaceNode_l3_S,A109,A110,A118,A119,A120,E122,D123,A124]),hR⟩
          ·revert H A108;revert q;intro y68 A108 H
           try dsimp only at H
           try simp -implicitDefEqProofs +decide (maxSteps:=999999) [-selQ_sel,hokQ_of,A1,A2,A3,A4,A5,A6,A7,A67,A68,A69,A70,A101,A102,A103,A104,A105,A106,A107,spec_PlaceNode_l3_X]
           obtain ⟨v69,A130,H⟩:=HS.bnd H
           have F131:=spec_SceneOk_k ((TScene.mk y68).nodes)
           simp -implicitDefEqProofs [-spec_SceneOk_k] at F131
           try simp -implicitDefEqProofs +decide (maxSteps:=999999) [-selQ_sel,hokQ_of,A1,A2,A3,A4,A5,A6,A7,A67,A68,A69,A70,A101,A102,A103,A104,A105,A106,A107,A130,F131]
           refine Hid.brV (fun A132=>?_) (fun A132=>?_)
           ·replace H:=HS.cnd_t A132 H
            try simp -implicitDefEqProofs +decide (maxSteps:=999999) [-selQ_sel,hokQ_of,A1,A2,A3,A4,A5,A6,A7,A67,A68,A69,A70,A101,A102,A103,A104,A105,A106,A107,A130,F131,A132]
            have hr:=(HS.some H).symm;subst hr
            refine Hid.mk ⟨_,Wk.refl _,?_⟩
            try simp -implicitDefEqProofs +decide (maxSteps:=999999) [-selQ_sel,hokQ_of,A1,A2,A3,A4,A5,A6,A7,A67,A68,A69,A70,A101,A102,A103,A104,A105,A106,A107,A130,F131,A132]
           ·replace H:=HS.cnd_f A132 H
            try simp -implicitDefEqProofs +decide (maxSteps:=999999) [-selQ_sel,hokQ_of,A1,A2,A3,A4,A5,A6,A7,A67,A68,A69,A70,A101,A102,A103,A104,A105,A106,A107,A130,F131,A132]
            have hr:=(HS.some H).symm;subst hr
            refine Hid.mk ⟨_,Wk.refl _,?_⟩
            try simp -implicitDefEqProofs +decide (maxSteps:=999999) [-selQ_sel,hokQ_of,A1,A2,A3,A4,A5,A6,A7,A67,A68,A69,A70,A101,A102,A103,A104,A105,A106,A107,A130,F131,A132]
       ·replace H:=HS.cnd_f A102 H
        try simp -implicitDefEqProofs +decide (maxSteps:=999999) [-selQ_sel,hokQ_of,A1,A2,A3,A4,A5,A6,A7,A67,A68,A69,A70,A101,A102]
        have hr:=(HS.some H).symm;subst hr
        refine Hid.mk ⟨_,Wk.refl _,?_⟩
        try simp -implicitDefEqProofs +decide (maxSteps:=999999) [-selQ_sel,hokQ_of,A1,A2,A3,A4,A5,A6,A7,A67,A68,A69,A70,A101,A102]
     ·replace H:=HS.cnd_f A69 H
      try simp -implicitDefEqProofs +decide (maxSteps:=999999) [-selQ_sel,hokQ_of,A1,A2,A3,A4,A5,A6,A7,A67,A68,A69]
      have hr:=(HS.some H).symm;subst hr
      refine Hid.mk ⟨_,Wk.refl _,?_⟩
      try simp -implicitDefEqProofs +decide (maxSteps:=999999) [-selQ_sel,hokQ_of,A1,A2,A3,A4,A5,A6,A7,A67,A68,A69]
    ·replace H:=HS.cnd_f A67 H
     try simp -implicitDefEqProofs +decide (maxSteps:=999999) [-selQ_sel,hokQ_of,A1,A2,A3,A4,A5,A6,A7,A67]
     have hr:=(HS.some H).symm;subst hr
     refine Hid.mk ⟨_,Wk.refl _,?_⟩
     try simp -implicitDefEqProofs +decide (maxSteps:=999999) [-selQ_sel,hokQ_of,A1,A2,A3,A4,A5,A6,A7,A67]
  ·replace H:=HS.cnd_f A6 H
   try simp -implicitDefEqProofs +decide (maxSteps:=999999) [-selQ_sel,hokQ_of,A1,A2,A3,A4,A5,A6]
   have hr:=(HS.some H).symm;subst hr
   refine Hid.mk ⟨_,Wk.refl _,?_⟩
   try simp -implicitDefEqProofs +decide (maxSteps:=999999) [-selQ_sel,hokQ_of,A1,A2,A3,A4,A5,A6]
 ·replace H:=HS.cnd_f A3 H
  try simp -implicitDefEqProofs +decide (maxSteps:=999999) [-selQ_sel,hokQ_of,A1,A2,A3]
  have hr:=(HS.some H).symm;subst hr
  refine Hid.mk ⟨_,Wk.refl _,?_⟩
  try simp -implicitDefEqProofs +decide (maxSteps:=999999) [-selQ_sel,hokQ_of,A1,A2,A3]
theorem laws_eqNode_ok0 (hm:Try.prog.follows .mixedOrders = true) (k_laws_eqMat:Sound Try.prog 66 laws_eqMat_x) (k_laws_eqPath:Sound Try.prog 67 laws_eqPath_x) (k_laws_eqIntS:Sound Try.prog 68 laws_eqIntS_x) (k_laws_eqPaint:Sound Try.prog 69 laws_eqPaint_x):Sound Try.prog 23 laws_eqNode_x:=by
 refine xOf_sound fun q r h=>?_
 obtain ⟨a0,a1⟩:=q
 refine fn_ok E0 hm Try.func23 rfl (by decide +kernel) (by rfl) fun Γ hn hk=>?_
 dsimp only [laws_eqNode_e,laws_eqNode_v]
 replace hn:Γ.n = 70:=hn
 replace hk:Γ.k = 0:=hk
 have H:HS (laws_eqNode a0 a1) r:=h
 clear h;unfold laws_eqNode at H
 try simp -implicitDefEqProofs at H
 refine Tr.of_vc (cl:=tabC [(66,laws_eqMat_x),(67,laws_eqPath_x),(68,laws_eqIntS_x),(69,laws_eqPaint_x)]) (E:=E0) [] (tab_cons k_laws_eqMat (tab_cons k_laws_eqPath (tab_cons k_laws_eqIntS (tab_cons k_laws_eqPaint tab_nil)))) hm (by rw [hn];decide +kernel) ?_
 try simp -implicitDefEqProofs (maxSteps:=999999) [-selQ_sel]
 refine Hid.brV (fun A1=>?_) (fun A1=>?_)
 ·replace H:=HS.cnd_t A1 H
  try simp -implicitDefEqProofs (maxSteps:=999999) [-selQ_sel,A1]
  refine Hid.brV (fun A2=>?_) (fun A2=>?_)
  ·replace H:=HS.cnd_t A2 H
   try simp -implicitDefEqProofs (maxSteps:=999999) [-selQ_sel,A1,A2]
   refine Hid.brV (fun A3=>?_) (fun A3=>?_)
   ·replace H:=HS.cnd_t A3 H
    try simp -implicitDefEqProofs (maxSteps:=999999) [-selQ_sel,A1,A2,A3]
    obtain ⟨v1,A4,H⟩:=HS.bnd H
    try simp -implicitDefEqProofs (maxSteps:=999999) [-selQ_sel,A1,A2,A3,A4]
    refine Hid.brV (fun A5=>?_) (fun A5=>?_)
    ·replace H:=HS.cnd_t A5 H
     try simp -implicitDefEqProofs (maxSteps:=999999) [-selQ_sel,A1,A2,A3,A4,A5]
     obtain ⟨v2,A6,H⟩:=HS.bnd H
     try simp -implicitDefEqProofs (maxSteps:=999999) [-selQ_sel,A1,A2,A3,A4,A5,A6]
     refine Hid.brV (fun A7=>?_) (fun A7=>?_)
     ·replace H:=HS.cnd_t A7 H
      try simp -implicitDefEqProofs (maxSteps:=999999) [-selQ_sel,A1,A2,A3,A4,A5,A6,A7]
      refine Hid.brV (fun A8=>?_) (fun A8=>?_)
      ·replace H:=HS.cnd_t A8 H
       try simp -implicitDefEqProofs (maxSteps:=999999) [-selQ_sel,A1,A2,A3,A4,A5,A6,A7,A8]
       refine Hid.brV (fun A9=>?_) (fun A9=>?_)
       ·replace H:=HS.cnd_t A9 H
        try simp -implicitDefEqProofs (maxSteps:=999999) [-selQ_sel,A1,A2,A3,A4,A5,A6,A7,A8,A9]
        obtain ⟨v3,A10,H⟩:=HS.bnd H
        try simp -implicitDefEqProofs (maxSteps:=999999) [-selQ_sel,A1,A2,A3,A4,A5,A6,A7,A8,A9,A10]
        refine Hid.brV (fun A11=>?_) (fun A11=>?_)
        ·replace H:=HS.cnd_t A11 H
         try simp -implicitDefEqProofs (maxSteps:=999999) [-selQ_sel,A1,A2,A3,A4,A5,A6,A7,A8,A9,A10,A11]
         obtain ⟨v4,A12,H⟩:=HS.bnd H
         try simp -implicitDefEqProofs (maxSteps:=999999) [-selQ_sel,A1,A2,A3,A4,A5,A6,A7,A8,A9,A10,A11,A12]
         refine Hid.brV (fun A13=>?_) (fun A13=>?_)
         ·replace H:=HS.cnd_t A13 H
          try simp -implicitDefEqProofs (maxSteps:=999999) [-selQ_sel,A1,A2,A3,A4,A5,A6,A7,A8,A9,A10,A11,A12,A13]
          refine Hid.brV (fun A14=>?_) (fun A14=>?_)
          ·replace H:=HS.cnd_t A14 H
           try simp -implicitDefEqProofs (maxSteps:=999999) [-selQ_sel,A1,A2,A3,A4,A5,A6,A7,A8,A9,A10,A11,A12,A13,A14]
           refine Hid.brV (fun A15=>?_) (fun A15=>?_)
           ·replace H:=HS.cnd_t A15 H
            try simp -implicitDefEqProofs (maxSteps:=999999) [-selQ_sel,A1,A2,A3,A4,A5,A6,A7,A8,A9,A10,A11,A12,A13,A14,A15]
            obtain ⟨v5,A16,H⟩:=HS.bnd H
            try simp -implicitDefEqProofs (maxSteps:=999999) [-selQ_sel,A1,A2,A3,A4,A5,A6,A7,A8,A9,A10,A11,A12,A13,A14,A15,A16]
            refine Hid.brV (fun A17=>?_) (fun A17=>?_)
            ·replace H:=HS.cnd_t A17 H
             try simp -implicitDefEqProofs (maxSteps:=999999) [-selQ_sel,A1,A2,A3,A4,A5,A6,A7,A8,A9,A10,A11,A12,A13,A14,A15,A16,A17]
             have hr:=(HS.some H).symm;subst hr
             refine Hid.mk ⟨_,Wk.refl _,?_⟩
             try simp -implicitDefEqProofs (maxSteps:=999999) [-selQ_sel,A1,A2,A3,A4,A5,A6,A7,A8,A9,A10,A11,A12,A13,A14,A15,A16,A17]
            ·replace H:=HS.cnd_f A17 H
             try simp -implicitDefEqProofs (maxSteps:=999999) [-selQ_sel,A1,A2,A3,A4,A5,A6,A7,A8,A9,A10,A11,A12,A13,A14,A15,A16,A17]
             have hr:=(HS.some H).symm;subst hr
             refine Hid.mk ⟨_,Wk.refl _,?_⟩
             try simp -implicitDefEqProofs (maxSteps:=999999) [-selQ_sel,A1,A2,A3,A4,A5,A6,A7,A8,A9,A10,A11,A12,A13,A14,A15,A16,A17]
           ·replace H:=HS.cnd_f A15 H
            try simp -implicitDefEqProofs (maxSteps:=999999) [-selQ_sel,A1,A2,A3,A4,A5,A6,A7,A8,A9,A10,A11,A12,A13,A14,A15]
            have hr:=(HS.some H).symm;subst hr
            refine Hid.mk ⟨_,Wk.refl _,?_⟩
            try simp -implicitDefEqProofs (maxSteps:=999999) [-selQ_sel,A1,A2,A3,A4,A5,A6,A7,A8,A9,A10,A11,A12,A13,A14,A15]
          ·replace H:=HS.cnd_f A14 H
           try simp -implicitDefEqProofs (maxSteps:=999999) [-selQ_sel,A1,A2,A3,A4,A5,A6,A7,A8,A9,A10,A11,A12,A13,A14]
           have hr:=(HS.some H).symm;subst hr
           refine Hid.mk ⟨_,Wk.refl _,?_⟩
           try simp -implicitDefEqProofs (maxSteps:=999999) [-selQ_sel,A1,A2,A3,A4,A5,A6,A7,A8,A9,A10,A11,A12,A13,A14]
         ·replace H:=HS.cnd_f A13 H
          try simp -implicitDefEqProofs (maxSteps:=999999) [-selQ_sel,A1,A2,A3,A4,A5,A6,A7,A8,A9,A10,A11,A12,A13]
          have hr:=(HS.some H).symm;subst hr
          refine Hid.mk ⟨_,Wk.refl _,?_⟩
          try simp -implicitDefEqProofs (maxSteps:=999999) [-selQ_sel,A1,A2,A3,A4,A5,A6,A7,A8,A9,A10,A11,A12,A13]
        ·replace H:=HS.cnd_f A11 H
         try simp -implicitDefEqProofs (maxSteps:=999999) [-selQ_sel,A1,A2,A3,A4,A5,A6,A7,A8,A9,A10,A11]
         have hr:=(HS.some H).symm;subst hr
         refine Hid.mk ⟨_,Wk.refl _,?_⟩
         try simp -implicitDefEqProofs (maxSteps:=999999) [-selQ_sel,A1,A2,A3,A4,A5,A6,A7,A8,A9,A10,A11]
       ·replace H:=HS.cnd_f A9 H
        try simp -implicitDefEqProofs (maxSteps:=999999) [-selQ_sel,A1,A2,A3,A4,A5,A6,A7,A8,A9]
        have hr:=(HS.some H).symm;subst hr
        refine Hid.mk ⟨_,Wk.refl _,?_⟩
        try simp -implicitDefEqProofs (maxSteps:=999999) [-selQ_sel,A1,A2,A3,A4,A5,A6,A7,A8,A9]
      ·replace H:=HS.cnd_f A8 H
       try simp -implicitDefEqProofs (maxSteps:=999999) [-selQ_sel,A1,A2,A3,A4,A5,A6,A7,A8]
       have hr:=(HS.some H).symm;subst hr
       refine Hid.mk ⟨_,Wk.refl _,?_⟩
       try simp -implicitDefEqProofs (maxSteps:=999999) [-selQ_sel,A1,A2,A3,A4,A5,A6,A7,A8]
     ·replace H:=HS.cnd_f A7 H
      try simp -implicitDefEqProofs (maxSteps:=999999) [-selQ_sel,A1,A2,A3,A4,A5,A6,A7]
      have hr:=(HS.some H).symm;subst hr
      refine Hid.mk ⟨_,Wk.refl _,?_⟩
      try simp -implicitDefEqProofs (maxSteps:=999999) [-selQ_sel,A1,A2,A3,A4,A5,A6,A7]
    ·replace H:=HS.cnd_f A5 H
     try simp -implicitDefEqProofs (maxSteps:=999999) [-selQ_sel,A1,A2,A3,A4,A5]
     have hr:=(HS.some H).symm;subst hr
     refine Hid.mk ⟨_,Wk.refl _,?_⟩
     try simp -implicitDefEqProofs (maxSteps:=999999) [-selQ_sel,A1,A2,A3,A4,A5]
   ·replace H:=HS.cnd_f A3 H
    try simp -implicitDefEqProofs (maxSteps:=999999) [-selQ_sel,A1,A2,A3]
    have hr:=(HS.some H).symm;subst hr
    refine Hid.mk ⟨_,Wk.refl _,?_⟩
    try simp -implicitDefEqProofs (maxSteps:=999999) [-selQ_sel,A1,A2,A3]
  ·replace H:=HS.cnd_f A2 H
   try simp -implicitDefEqProofs (maxSteps:=999999) [-selQ_sel,A1,A2]
   have hr:=(HS.some H).symm;subst hr
   refine Hid.mk ⟨_,Wk.refl _,?_⟩
   try simp -implicitDefEqProofs (maxSteps:=999999) [-selQ_sel,A1,A2]
 ·replace H:=HS.cnd_f A1 H
  try simp -implicitDefEqProofs (maxSteps:=999999) [-selQ_sel,A1]
  have hr:=(HS.some H).symm;subst hr
  refine Hid.mk ⟨_,Wk.refl _,?_⟩
  try simp -implicitDefEqProofs (maxSteps:=999999) [-selQ_sel,A1]
theorem laws_FnExactPlaceNode_ok0 (hm:Try.prog.follows .mixedOrders = true) (k_laws_szScene:Sound Try.prog 16 laws_szScene_x) (k_laws_toScene:Sound Try.prog 19 laws_toScene_x) (k_spec_PlaceNode:Sound Try.prog 11 spec_PlaceNode_x) (k_impl_PlaceNode:Sound Try.prog 10 impl_PlaceNode_x) (k_laws_eqScene:Sound Try.prog 22 laws_eqScene_x) (k_laws_markScene:Sound Try.prog 24 laws_markScene_x) (k_laws_heldScene:Sound Try.prog 26 laws_heldScene_x):Sound Try.prog 7 laws_FnExactPlaceNode_x:=by
 refine xOf_sound fun q r h=>?_
 obtain ⟨a0,a1,a2,a3⟩:=q
 refine fn_ok E0 hm Try.func7 rfl (by decide +kernel) (by rfl) fun Γ hn hk=>?_
 dsimp only [laws_FnExactPlaceNode_e,laws_FnExactPlaceNode_v]
 replace hn:Γ.n = 111:=hn
 replace hk:Γ.k = 0:=hk
 have H:HS (laws_FnExactPlaceNode a0 a1 a2 a3) r:=h
 clear h;unfold laws_FnExactPlaceNode at H
 try simp -implicitDefEqProofs at H
 refine Tr.of_vc (cl:=tabC [(16,laws_szScene_x),(19,laws_toScene_x),(11,spec_PlaceNode_x),(10,impl_PlaceNode_x),(22,laws_eqScene_x),(24,laws_markScene_x),(26,laws_heldScene_x)]) (E:=E0) [] (tab_cons k_laws_szScene (tab_cons k_laws_toScene (tab_cons k_spec_PlaceNode (tab_cons k_impl_PlaceNode (tab_cons k_laws_eqScene (tab_cons k_laws_markScene (tab_cons k_laws_heldScene tab_nil))))))) hm (by rw [hn];decide +kernel) ?_
 try simp -implicitDefEqProofs +decide (maxSteps:=999999) [-selQ_sel,hokQ_of]
 obtain ⟨v1,A1,H⟩:=HS.bnd H
 try simp -implicitDefEqProofs +decide (maxSteps:=999999) [-selQ_sel,hokQ_of,A1]
 refine Hid.brV (fun A2=>?_) (fun A2=>?_)
 ·replace H:=HS.cnd_t A2 H
  try simp -implicitDefEqProofs +decide (maxSteps:=999999) [-selQ_sel,hokQ_of,A1,A2]
  obtain ⟨v2,A3,H⟩:=HS.bnd H
  try simp -implicitDefEqProofs +decide (maxSteps:=999999) [-selQ_sel,hokQ_of,A1,A2,A3]
  obtain ⟨⟨w4,w5⟩,A4,H⟩:=HS.bnd H
  dsimp only at H
  have F5:=spec_PlaceNode_k ((TScene.mk v2).nodes) a1 a2 a3
  simp -implicitDefEqProofs [-spec_PlaceNode_k] at F5
  try simp -implicitDefEqProofs +decide (maxSteps:=999999) [-selQ_sel,hokQ_of,A1,A2,A3,A4,F5]
  obtain ⟨⟨w7,w8⟩,A6,H⟩:=HS.bnd H
  dsimp only at H
  have F7:=impl_PlaceNode_k ((TScene.mk v2).nodes) a1 a2 a3
  simp -implicitDefEqProofs [-impl_PlaceNode_k] at F7
  try simp -implicitDefEqProofs +decide (maxSteps:=999999) [-selQ_sel,hokQ_of,A1,A2,A3,A4,F5,A6,F7]
  obtain ⟨v9,A8,H⟩:=HS.bnd H
  have F9:=laws_eqScene_k ((TScene.mk w8).nodes) w4.nodes
  simp -implicitDefEqProofs [-laws_eqScene_k] at F9
  try simp -implicitDefEqProofs +decide (maxSteps:=999999) [-selQ_sel,hokQ_of,A1,A2,A3,A4,F5,A6,F7,A8,F9]
  refine Hid.selQ (fun A10=>?_) (fun A10=>?_)
  ·replace H:=HS.cnd_t A10 H
   try simp -implicitDefEqProofs +decide (maxSteps:=999999) [-selQ_sel,hokQ_of,A1,A2,A3,A4,F5,A6,F7,A8,F9,A10]
   refine Hid.brV (fun A11=>?_) (fun A11=>?_)
   ·replace H:=HS.cnd_t A11 H
    try simp -implicitDefEqProofs +decide (maxSteps:=999999) [-selQ_sel,hokQ_of,A1,A2,A3,A4,F5,A6,F7,A8,F9,A10,A11]
    obtain ⟨v10,A12,H⟩:=HS.bnd H
    have F13:=laws_eqScene_k ((TScene.mk v2).nodes) ((TScene.mk v2).nodes)
    simp -implicitDefEqProofs [-laws_eqScene_k] at F13
    try simp -implicitDefEqProofs +decide (maxSteps:=999999) [-selQ_sel,hokQ_of,A1,A2,A3,A4,F5,A6,F7,A8,F9,A10,A11,A12,F13]
    refine Hid.brV (fun A14=>?_) (fun A14=>?_)
    ·replace H:=HS.cnd_t A14 H
     try simp -implicitDefEqProofs +decide (maxSteps:=999999) [-selQ_sel,hokQ_of,A1,A2,A3,A4,F5,A6,F7,A8,F9,A10,A11,A12,F13,A14]
     obtain ⟨⟨w12,w13⟩,A15,H⟩:=HS.bnd H
     dsimp only at H
     have B16:=laws_markScene_n A15
     try simp -implicitDefEqProofs +decide (maxSteps:=999999) [-selQ_sel,hokQ_of,A1,A2,A3,A4,F5,A6,F7,A8,F9,A10,A11,A12,F13,A14,A15,B16]
     refine Hid.selQ (fun A17=>?_) (fun A17=>?_)
     ·replace H:=HS.cnd_t A17 H
      try simp -implicitDefEqProofs +decide (maxSteps:=999999) [-selQ_sel,hokQ_of,A1,A2,A3,A4,F5,A6,F7,A8,F9,A10,A11,A12,F13,A14,A15,B16,A17]
      obtain ⟨⟨w15,w16⟩,A18,H⟩:=HS.bnd H
      dsimp only at H
      have B19:=laws_markScene_n A18
      try simp -implicitDefEqProofs +decide (maxSteps:=999999) [-selQ_sel,hokQ_of,A1,A2,A3,A4,F5,A6,F7,A8,F9,A10,A11,A12,F13,A14,A15,B16,A17,A18,B19]
      obtain ⟨v17,A20,H⟩:=HS.bnd H
      have F21:=laws_heldScene_k ((TScene.mk w16).nodes) 1
      simp -implicitDefEqProofs [-laws_heldScene_k] at F21
      try simp -implicitDefEqProofs +decide (maxSteps:=999999) [-selQ_sel,hokQ_of,A1,A2,A3,A4,F5,A6,F7,A8,F9,A10,A11,A12,F13,A14,A15,B16,A17,A18,B19,A20,F21]
      refine Hid.brV (fun A22=>?_) (fun A22=>?_)
      ·replace H:=HS.cnd_t A22 H
       try simp -implicitDefEqProofs +decide (maxSteps:=999999) [-selQ_sel,hokQ_of,A1,A2,A3,A4,F5,A6,F7,A8,F9,A10,A11,A12,F13,A14,A15,B16,A17,A18,B19,A20,F21,A22]
       refine Hid.brV (fun A23=>?_) (fun A23=>?_)
       ·replace H:=HS.cnd_t A23 H
        try simp -implicitDefEqProofs +decide (maxSteps:=999999) [-selQ_sel,hokQ_of,A1,A2,A3,A4,F5,A6,F7,A8,F9,A10,A11,A12,F13,A14,A15,B16,A17,A18,B19,A20,F21,A22,A23]
        have hr:=(HS.some H).symm;subst hr
        refine Hid.mk ⟨_,Wk.refl _,?_⟩
        try simp -implicitDefEqProofs +decide (maxSteps:=999999) [-selQ_sel,hokQ_of,A1,A2,A3,A4,F5,A6,F7,A8,F9,A10,A11,A12,F13,A14,A15,B16,A17,A18,B19,A20,F21,A22,A23]
       ·replace H:=HS.cnd_f A23 H
        try simp -implicitDefEqProofs +decide (maxSteps:=999999) [-selQ_sel,hokQ_of,A1,A2,A3,A4,F5,A6,F7,A8,F9,A10,A11,A12,F13,A14,A15,B16,A17,A18,B19,A20,F21,A22,A23]
        have hr:=(HS.some H).symm;subst hr
        refine Hid.mk ⟨_,Wk.refl _,?_⟩
        try simp -implicitDefEqProofs +decide (maxSteps:=999999) [-selQ_sel,hokQ_of,A1,A2,A3,A4,F5,A6,F7,A8,F9,A10,A11,A12,F13,A14,A15,B16,A17,A18,B19,A20,F21,A22,A23]
      ·replace H:=HS.cnd_f A22 H
       try simp -implicitDefEqProofs +decide (maxSteps:=999999) [-selQ_sel,hokQ_of,A1,A2,A3,A4,F5,A6,F7,A8,F9,A10,A11,A12,F13,A14,A15,B16,A17,A18,B19,A20,F21,A22]
       have hr:=(HS.some H).symm;subst hr
       refine Hid.mk ⟨_,Wk.refl _,?_⟩
       try simp -implicitDefEqProofs +decide (maxSteps:=999999) [-selQ_sel,hokQ_of,A1,A2,A3,A4,F5,A6,F7,A8,F9,A10,A11,A12,F13,A14,A15,B16,A17,A18,B19,A20,F21,A22]
     ·replace H:=HS.cnd_f A17 H
      try simp -implicitDefEqProofs +decide (maxSteps:=999999) [-selQ_sel,hokQ_of,A1,A2,A3,A4,F5,A6,F7,A8,F9,A10,A11,A12,F13,A14,A15,B16,A17]
      have hr:=(HS.some H).symm;subst hr
      refine Hid.mk ⟨_,Wk.refl _,?_⟩
      try simp -implicitDefEqProofs +decide (maxSteps:=999999) [-selQ_sel,hokQ_of,A1,A2,A3,A4,F5,A6,F7,A8,F9,A10,A11,A12,F13,A14,A15,B16,A17]
    ·replace H:=HS.cnd_f A14 H
     try simp -implicitDefEqProofs +decide (maxSteps:=999999) [-selQ_sel,hokQ_of,A1,A2,A3,A4,F5,A6,F7,A8,F9,A10,A11,A12,F13,A14]
     have hr:=(HS.some H).symm;subst hr
     refine Hid.mk ⟨_,Wk.refl _,?_⟩
     try simp -implicitDefEqProofs +decide (maxSteps:=999999) [-selQ_sel,hokQ_of,A1,A2,A3,A4,F5,A6,F7,A8,F9,A10,A11,A12,F13,A14]
   ·replace H:=HS.cnd_f A11 H
    try simp -implicitDefEqProofs +decide (maxSteps:=999999) [-selQ_sel,hokQ_of,A1,A2,A3,A4,F5,A6,F7,A8,F9,A10,A11]
    have hr:=(HS.some H).symm;subst hr
    refine Hid.mk ⟨_,Wk.refl _,?_⟩
    try simp -implicitDefEqProofs +decide (maxSteps:=999999) [-selQ_sel,hokQ_of,A1,A2,A3,A4,F5,A6,F7,A8,F9,A10,A11]
  ·replace H:=HS.cnd_f A10 H
   try simp -implicitDefEqProofs +decide (maxSteps:=999999) [-selQ_sel,hokQ_of,A1,A2,A3,A4,F5,A6,F7,A8,F9,A10]
   have hr:=(HS.some H).symm;subst hr
   refine Hid.mk ⟨_,Wk.refl _,?_⟩
   try simp -implicitDefEqProofs +decide (maxSteps:=999999) [-selQ_sel,hokQ_of,A1,A2,A3,A4,F5,A6,F7,A8,F9,A10]
 ·replace H:=HS.cnd_f A2 H
  try simp -implicitDefEqProofs +decide (maxSteps:=999999) [-selQ_sel,hokQ_of,A1,A2]
  have hr:=(HS.some H).symm;subst hr
  refine Hid.mk ⟨_,Wk.refl _,?_⟩
  try simp -implicitDefEqProofs +decide (maxSteps:=999999) [-selQ_sel,hokQ_of,A1,A2]
def li_Node (p:TNode×(Nat→Value)):TNodeR:=(TNodeR.mk p.1.id p.1.parent p.1.group p.1.mat (TPathR.mk (some (p.2 9)) (some (p.2 10))) p.1.even p.1.width (some (p.2 13)) p.1.paint p.1.mode p.1.fade (TPathR.mk (some (p.2 29)) (some (p.2 30))))
theorem li_Node1:∀ x:TNode,(eNode x).cells.length = 31∧(eNode x).cells.all AV.one = true:=fun x=>by simp
theorem li_Node2:∀ (b:Bool) (x:TNode) (h:Nat→Value),rwE b (eNode x) h 0 = eNodeR (li_Node (x,h)):=fun _ _ _=>rfl
theorem li_Node3:∀ (x:TNode) (h:Nat→Value),plainL (eNodeR (li_Node (x,h))).cells = true:=fun x h=>by simp [li_Node,plainL,plain,eO]
theorem li_Node4:∀ (ct:Value→List AV) (x:TNode) (h:Nat→Value),(∀ c r,(eNode x).cells[c]? = some (.fsl r)→ct (h c) = r)→unE ct (eNodeR (li_Node (x,h))) = eNode x:=fun ct x h H=>by
 have h9:=H 9 _ rfl
 have h10:=H 10 _ rfl
 have h13:=H 13 _ rfl
 have h29:=H 29 _ rfl
 have h30:=H 30 _ rfl
 simp [unE,unC,li_Node,eO,h9,h10,h13,h29,h30]
theorem li_Node5:∀ x:TNode,∀ c ∈ (eNode x).cells,∀ u,c ≠ .raw u:=fun x=>by simp
theorem slices_Insert_Node_n_ok0 (hm:Try.prog.follows .mixedOrders = true) (k_slices_Insert_NodeR:Sound Try.prog 40 slices_Insert_NodeR_x):Sound Try.prog 40 slices_Insert_Node_n_x:=by
 refine xOf_sound fun q r h=>?_
 obtain ⟨a0,a1,a2,a3,a4,a5,a6,a7,a8,a9,a10,a11,a12,a13,a14,a15⟩:=q
 have H:HS (slices_Insert_Node_n a0 a1 a2 a3 a4 a5 a6 a7 a8 a9 a10 a11 a12 a13 a14 a15) r:=h
 clear h;unfold slices_Insert_Node_n at H
 obtain ⟨h1,H⟩:=HS.chkP H
 have hr:=(HS.some H).symm;subst hr
 dsimp only [slices_Insert_Node_n_e,slices_Insert_Node_n_v]
 obtain ⟨h1,h2,h3⟩:=h1
 obtain ⟨ii,rfl⟩:∃ ii:Nat,a0 = ii:=⟨Int.toNat a0,by omega⟩
 let x:TNode:=(TNode.mk a7 a8 a9 (TMat.mk a10.a a10.b a10.c a10.d a10.e a10.f) (TPath.mk a2 a3) a11 a12 a4 (TPaint.mk a13.kind (TColor.mk a13.first.r a13.first.g a13.first.b a13.first.a) (TColor.mk a13.last.r a13.last.g a13.last.b a13.last.a) (TPoint.mk a13.from_.x a13.from_.y) (TPoint.mk a13.to.x a13.to.y)) a14 a15 (TPath.mk a5 a6))
 let op:AV:=AV.agg [AV.int .i64 a7,AV.int .i64 a8,AV.bool a9,AV.int .i64 a10.a,AV.int .i64 a10.b,AV.int .i64 a10.c,AV.int .i64 a10.d,AV.int .i64 a10.e,AV.int .i64 a10.f,AV.osl 2 0 (List.length a2) (List.length a2),AV.osl 3 0 (List.length a3) (List.length a3),AV.bool a11,AV.int .i64 a12,AV.osl 4 0 (List.length a4) (List.length a4),AV.int .i64 a13.kind,AV.int .i64 a13.first.r,AV.int .i64 a13.first.g,AV.int .i64 a13.first.b,AV.int .i64 a13.first.a,AV.int .i64 a13.last.r,AV.int .i64 a13.last.g,AV.int .i64 a13.last.b,AV.int .i64 a13.last.a,AV.int .i64 a13.from_.x,AV.int .i64 a13.from_.y,AV.int .i64 a13.to.x,AV.int .i64 a13.to.y,AV.int .i64 a14,AV.int .i64 a15,AV.osl 5 0 (List.length a5) (List.length a5),AV.osl 6 0 (List.length a6) (List.length a6)]
 refine lift_el2 (e:=eNode) (e':=fun p=>eNodeR (li_Node p)) (w:=31) li_Node1 li_Node2 li_Node3 li_Node4 li_Node5 (of_eq_true nid_eNode) (a:=0) (b:=1) (l:=a1) (zs:=[0,0,0,0,0,0,0,0,0,1,2,0,0,1,0,0,0,0,0,0,0,0,0,0,0,0,0,0,0,1,2]) (by decide) rfl (op:=op) (x:=x) rfl (fun _=>rfl) (by simp [op]) (by simp [op]) [(2,9,List.map (AV.int .i64) a2),(3,10,List.map ePoint a3),(4,13,List.map (AV.int .i64) a4),(5,29,List.map (AV.int .i64) a5),(6,30,List.map ePoint a6)] (fun j=>([0,0,9,10,13,29,30]:List Nat).getD j 0) (by simp) (by simp [op]) (by simp)
  (fun o er=>.arr 31 er false :: .arr 31 [o] false :: [Ob.gone (List.length a2),Ob.gone (List.length a3),Ob.gone (List.length a4),Ob.gone (List.length a5),Ob.gone (List.length a6)]) (fun o er i=>?_) (fun _ _=>rfl) (fun h ct hh c r hc=>?_) (fun _=>rfl) fun lz h hz=>?_
 ·match i with
  | 0=>rfl
  | 1=>rfl
  | 2=>simp [Ob.len]
  | 3=>simp [Ob.len]
  | 4=>simp [Ob.len]
  | 5=>simp [Ob.len]
  | 6=>simp [Ob.len]
  | n + 7=>simp
 ·rcases c with _ | _ | _ | _ | _ | _ | _ | _ | _ | _ | _ | _ | _ | _ | _ | _ | _ | _ | _ | _ | _ | _ | _ | _ | _ | _ | _ | _ | _ | _ | _ | c <;> simp [x] at hc
  ·rw [← hc];exact hh (2,9,_) (by simp)
  ·rw [← hc];exact hh (3,10,_) (by simp)
  ·rw [← hc];exact hh (4,13,_) (by simp)
  ·rw [← hc];exact hh (5,29,_) (by simp)
  ·rw [← hc];exact hh (6,30,_) (by simp)
 ·subst hz
  simp only [List.length_map] at h2 h3
  let y:TNode×(Nat→Value):=(x,h)
  obtain ⟨l',d1,d2,d3⟩:=Na.ins_NodeM (k:=lz.length) (i:=ii) (l:=lz.map li_Node) (v:=[li_Node y]) (by simp) (by omega) (by simp) (by simp) (by simp) (by simp only [List.length_map];omega)
  have hL:(lz.map li_Node).take ii ++ [li_Node y] ++ ((lz.map li_Node).take lz.length).drop ii = (lz.take ii ++ y :: lz.drop ii).map li_Node:=by
   rw [← List.map_take,← List.map_take,← List.map_drop,List.take_length,List.map_append,List.map_cons,List.append_assoc];rfl
  rw [hL] at d1 d2
  have k:=slices_Insert_NodeR_k lz.length (ii:Int) (lz.map li_Node) [li_Node y]
  rw [d1] at k
  obtain ⟨c1,c2⟩:=k_slices_Insert_NodeR _ _ _ _ k
  have hlen:(lz.take ii ++ y :: lz.drop ii).length = lz.length + 1:=by simp only [List.length_append,List.length_take,List.length_cons,List.length_drop];omega
  have hl2:l'.length = lz.length + 1:=by rw [d3];simp
  refine ⟨AV.osl 0 0 (lz.length + 1) l'.length,.arr 31 (l'.map eNodeR) false :: .arr 31 [eNodeR (li_Node y)] false :: [Ob.gone (List.length a2),Ob.gone (List.length a3),Ob.gone (List.length a4),Ob.gone (List.length a5),Ob.gone (List.length a6)],l'.map eNodeR,lz.length + 1,lz.take ii ++ y :: lz.drop ii,⟨c1,?_⟩,rfl,by rw [List.length_map];omega,?_,⟨lz ++ [y],?_,.refl _⟩,?_,rfl,?_,?_,fun i hi1 hi2=>?_⟩
  ·have c3:=c2.frame rfl (by simp [Ob.ids]) (by simp) (fun f hf=>by simp [hf 0 (by simp),hf 1 (by simp)]) (by simp) (fun f hf=>by simp [hf 0 (by simp),hf 1 (by simp)]) [Ob.gone (List.length a2),Ob.gone (List.length a3),Ob.gone (List.length a4),Ob.gone (List.length a5),Ob.gone (List.length a6)]
   simp only [List.length_map,List.map_map,Function.comp_def,hlen] at c3 ⊢
   exact c3
  ·rw [← List.map_take]
   simp only [List.length_map,hlen] at d2
   rw [d2,List.map_map];rfl
  ·have:=(List.perm_append_singleton y (lz.take ii ++ lz.drop ii)).symm
   rw [List.take_append_drop] at this
   refine List.Perm.trans ?_ this
   have h9:=List.perm_middle (a:=y) (l₁:=lz.take ii) (l₂:=lz.drop ii)
   rwa [List.take_append_drop] at h9
  ·simp [shC,y,x] <;> omega
  ·simp [y,x,List.map_take,List.map_drop]
  ·simp [hl2]
  ·match i with
   | 0=>exact (hi1 rfl).elim
   | 1=>exact .inr (.inr ⟨_,rfl,rfl⟩)
   | 2=>exact .inl rfl
   | 3=>exact .inl rfl
   | 4=>exact .inl rfl
   | 5=>exact .inl rfl
   | 6=>exact .inl rfl
   | 7=>exact (hi2 rfl).elim
   | n + 8=>exact .inl rfl
theorem spec_PaintOk_ok0 (hm:Try.prog.follows .mixedOrders = true) (k_spec_ColorOk:Sound Try.prog 126 spec_ColorOk_x) (k_spec_PointOk:Sound Try.prog 125 spec_PointOk_x):Sound Try.prog 103 spec_PaintOk_x:=by
 refine xOf_sound fun q r h=>?_
 revert h;revert r;revert q;intro a0 r h
 refine fn_ok E0 hm Try.func103 rfl (by decide +kernel) (by rfl) fun Γ hn hk=>?_
 dsimp only [spec_PaintOk_e,spec_PaintOk_v]
 replace hn:Γ.n = 55:=hn
 replace hk:Γ.k = 0:=hk
 have H:HS (spec_PaintOk a0) r:=h
 clear h;unfold spec_PaintOk at H
 try simp -implicitDefEqProofs at H
 refine Tr.of_vc (cl:=tabC [(126,spec_ColorOk_x),(125,spec_PointOk_x)]) (E:=E0) [] (tab_cons k_spec_ColorOk (tab_cons k_spec_PointOk tab_nil)) hm (by rw [hn];decide +kernel) ?_
 try simp -implicitDefEqProofs (maxSteps:=999999) [-selQ_sel]
 obtain ⟨v1,A1,H⟩:=HS.bnd H
 try simp -implicitDefEqProofs (maxSteps:=999999) [-selQ_sel,A1]
 refine Hid.brV (fun A2=>?_) (fun A2=>?_)
 ·replace H:=HS.cnd_t A2 H
  try simp -implicitDefEqProofs (maxSteps:=999999) [-selQ_sel,A1,A2]
  refine Hid.brV (fun A3=>?_) (fun A3=>?_)
  ·replace H:=HS.cnd_t A3 H
   try simp -implicitDefEqProofs (maxSteps:=999999) [-selQ_sel,A1,A2,A3]
   refine Hid.selQ (fun A4=>?_) (fun A4=>?_)
   ·replace H:=HS.cnd_t A4 H
    try simp -implicitDefEqProofs (maxSteps:=999999) [-selQ_sel,A1,A2,A3,A4]
    refine Hid.selQ (fun A5=>?_) (fun A5=>?_)
    ·replace H:=HS.cnd_t A5 H
     try simp -implicitDefEqProofs (maxSteps:=999999) [-selQ_sel,A1,A2,A3,A4,A5]
     have hr:=(HS.some H).symm;subst hr
     refine Hid.mk ⟨_,Wk.refl _,?_⟩
     try simp -implicitDefEqProofs (maxSteps:=999999) [-selQ_sel,A1,A2,A3,A4,A5]
    ·replace H:=HS.cnd_f A5 H
     try simp -implicitDefEqProofs (maxSteps:=999999) [-selQ_sel,A1,A2,A3,A4,A5]
     have hr:=(HS.some H).symm;subst hr
     refine Hid.mk ⟨_,Wk.refl _,?_⟩
     try simp -implicitDefEqProofs (maxSteps:=999999) [-selQ_sel,A1,A2,A3,A4,A5]
   ·replace H:=HS.cnd_f A4 H
    try simp -implicitDefEqProofs (maxSteps:=999999) [-selQ_sel,A1,A2,A3,A4]
    have hr:=(HS.some H).symm;subst hr
    refine Hid.mk ⟨_,Wk.refl _,?_⟩
    try simp -implicitDefEqProofs (maxSteps:=999999) [-selQ_sel,A1,A2,A3,A4]
  ·replace H:=HS.cnd_f A3 H
   try simp -implicitDefEqProofs (maxSteps:=999999) [-selQ_sel,A1,A2,A3]
   refine Hid.selQ (fun A6=>?_) (fun A6=>?_)
   ·replace H:=HS.cnd_t A6 H
    try simp -implicitDefEqProofs (maxSteps:=999999) [-selQ_sel,A1,A2,A3,A6]
    obtain ⟨v2,A7,H⟩:=HS.bnd H
    try simp -implicitDefEqProofs (maxSteps:=999999) [-selQ_sel,A1,A2,A3,A6,A7]
    refine Hid.selQ (fun A8=>?_) (fun A8=>?_)
    ·replace H:=HS.cnd_t A8 H
     try simp -implicitDefEqProofs (maxSteps:=999999) [-selQ_sel,A1,A2,A3,A6,A7,A8]
     obtain ⟨v3,A9,H⟩:=HS.bnd H
     try simp -implicitDefEqProofs (maxSteps:=999999) [-selQ_sel,A1,A2,A3,A6,A7,A8,A9]
     refine Hid.selQ (fun A10=>?_) (fun A10=>?_)
     ·replace H:=HS.cnd_t A10 H
      try simp -implicitDefEqProofs (maxSteps:=999999) [-selQ_sel,A1,A2,A3,A6,A7,A8,A9,A10]
      obtain ⟨v4,A11,H⟩:=HS.bnd H
      try simp -implicitDefEqProofs (maxSteps:=999999) [-selQ_sel,A1,A2,A3,A6,A7,A8,A9,A10,A11]
      refine Hid.selQ (fun A12=>?_) (fun A12=>?_)
      ·replace H:=HS.cnd_t A12 H
       try simp -implicitDefEqProofs (maxSteps:=999999) [-selQ_sel,A1,A2,A3,A6,A7,A8,A9,A10,A11,A12]
       have hr:=(HS.some H).symm;subst hr
       refine Hid.mk ⟨_,Wk.refl _,?_⟩
       try simp -implicitDefEqProofs (maxSteps:=999999) [-selQ_sel,A1,A2,A3,A6,A7,A8,A9,A10,A11,A12]
      ·replace H:=HS.cnd_f A12 H
       try simp -implicitDefEqProofs (maxSteps:=999999) [-selQ_sel,A1,A2,A3,A6,A7,A8,A9,A10,A11,A12]
       have hr:=(HS.some H).symm;subst hr
       refine Hid.mk ⟨_,Wk.refl _,?_⟩
       try simp -implicitDefEqProofs (maxSteps:=999999) [-selQ_sel,A1,A2,A3,A6,A7,A8,A9,A10,A11,A12]
     ·replace H:=HS.cnd_f A10 H
      try simp -implicitDefEqProofs (maxSteps:=999999) [-selQ_sel,A1,A2,A3,A6,A7,A8,A9,A10]
      have hr:=(HS.some H).symm;subst hr
      refine Hid.mk ⟨_,Wk.refl _,?_⟩
      try simp -implicitDefEqProofs (maxSteps:=999999) [-selQ_sel,A1,A2,A3,A6,A7,A8,A9,A10]
    ·replace H:=HS.cnd_f A8 H
     try simp -implicitDefEqProofs (maxSteps:=999999) [-selQ_sel,A1,A2,A3,A6,A7,A8]
     have hr:=(HS.some H).symm;subst hr
     refine Hid.mk ⟨_,Wk.refl _,?_⟩
     try simp -implicitDefEqProofs (maxSteps:=999999) [-selQ_sel,A1,A2,A3,A6,A7,A8]
   ·replace H:=HS.cnd_f A6 H
    try simp -implicitDefEqProofs (maxSteps:=999999) [-selQ_sel,A1,A2,A3,A6]
    have hr:=(HS.some H).symm;subst hr
    refine Hid.mk ⟨_,Wk.refl _,?_⟩
    try simp -implicitDefEqProofs (maxSteps:=999999) [-selQ_sel,A1,A2,A3,A6]
 ·replace H:=HS.cnd_f A2 H
  try simp -implicitDefEqProofs (maxSteps:=999999) [-selQ_sel,A1,A2]
  have hr:=(HS.some H).symm;subst hr
  refine Hid.mk ⟨_,Wk.refl _,?_⟩
  try simp -implicitDefEqProofs (maxSteps:=999999) [-selQ_sel,A1,A2]
theorem impl_UnderOf_ok0 (hm:Try.prog.follows .mixedOrders = true) (k_impl_NodeAt:Sound Try.prog 13 impl_NodeAt_x) (k_impl_Scene_comesTo:Sound Try.prog 84 impl_Scene_comesTo_x):Sound Try.prog 38 impl_UnderOf_x:=by
 refine xOf_sound fun q r h=>?_
 obtain ⟨a0,a1⟩:=q
 refine fn_ok E0 hm Try.func38 rfl (by decide +kernel) (by rfl) fun Γ hn hk=>?_
 dsimp only [impl_UnderOf_e,impl_UnderOf_v]
 replace hn:Γ.n = 30:=hn
 replace hk:Γ.k = 0:=hk
 have H:HS (impl_UnderOf a0 a1) r:=h
 clear h;unfold impl_UnderOf at H
 try simp -implicitDefEqProofs at H
 refine Tr.of_vc (cl:=tabC [(13,impl_NodeAt_x),(84,impl_Scene_comesTo_x)]) (E:=E0) [] (tab_cons k_impl_NodeAt (tab_cons k_impl_Scene_comesTo tab_nil)) hm (by rw [hn];decide +kernel) ?_
 try simp -implicitDefEqProofs (maxSteps:=999999) [-selQ_sel]
 obtain ⟨v1,A1,H⟩:=HS.bnd H
 try simp -implicitDefEqProofs (maxSteps:=999999) [-selQ_sel,A1]
 refine Hid.brV (fun A2=>?_) (fun A2=>?_)
 ·replace H:=HS.cnd_t A2 H
  try simp -implicitDefEqProofs (maxSteps:=999999) [-selQ_sel,A1,A2]
  obtain ⟨q,A3,H⟩:=HS.bnd H
  refine Hid.mk (Tr.weak (s':=(impl_UnderOf_l0_S a0 a1) ([],0)) (Wk.ofk [0,1] hk (by rfl) (by simp -implicitDefEqProofs [impl_UnderOf_l0_S,A1,A2]) (by simp -implicitDefEqProofs [impl_UnderOf_l0_S,A1,A2])) ?_)
  refine wp_loop_of (S:=(impl_UnderOf_l0_S a0 a1)) (f:=(impl_UnderOf_l0 a0 a1)) (xt:=(impl_UnderOf_l0_X a0 a1)) ?_ ?_ A3 ?_
  ·intro q;simp [impl_UnderOf_l0_X]
  ·clear H A3 q
   rintro ⟨x4,x5⟩ o R hf hR
   have H:HS (impl_UnderOf_l0 a0 a1 (x4,x5)) o:=hf
   clear hf;unfold impl_UnderOf_l0 at H
   try simp -implicitDefEqProofs at H
   refine Tr.of_vc (cl:=tabC [(13,impl_NodeAt_x),(84,impl_Scene_comesTo_x)]) (E:=E0) [] (tab_cons k_impl_NodeAt (tab_cons k_impl_Scene_comesTo tab_nil)) hm (by rw [hn];decide +kernel) ?_
   try simp -implicitDefEqProofs (maxSteps:=999999) [-selQ_sel,impl_UnderOf_l0_S]
   refine Hid.brV (fun A4=>?_) (fun A4=>?_)
   ·replace H:=HS.cnd_t A4 H
    try simp -implicitDefEqProofs (maxSteps:=999999) [-selQ_sel,A4]
    have hr:=(HS.some H).symm;subst hr
    exact Hid.mk ⟨(impl_UnderOf_l0_X a0 a1 x4).2,Wk.ofk [1] hk (by rfl) (by simp -implicitDefEqProofs [impl_UnderOf_l0_X,A4]) (by simp -implicitDefEqProofs [impl_UnderOf_l0_X,A4]),hR⟩
   ·replace H:=HS.cnd_f A4 H
    try simp -implicitDefEqProofs (maxSteps:=999999) [-selQ_sel,A4]
    obtain ⟨v6,A5,H⟩:=HS.bnd H
    try simp -implicitDefEqProofs (maxSteps:=999999) [-selQ_sel,A4,A5]
    obtain ⟨v7,A6,H⟩:=HS.bnd H
    try simp -implicitDefEqProofs (maxSteps:=999999) [-selQ_sel,A4,A5,A6]
    refine Hid.brV (fun A7=>?_) (fun A7=>?_)
    ·replace H:=HS.cnd_t A7 H
     try simp -implicitDefEqProofs (maxSteps:=999999) [-selQ_sel,A4,A5,A6,A7]
     obtain ⟨A8,H⟩:=HS.chkP H
     try simp -implicitDefEqProofs (maxSteps:=999999) [-selQ_sel,A4,A5,A6,A7,A8]
     obtain ⟨l8,A9,H⟩:=HS.nam H
     have E10:=congrArg (List.map (AV.int .i64)) A9
     have D11:=congrArg List.length A9
     simp -implicitDefEqProofs at E10 D11
     try simp only [D11] at E10
     try simp only [D11] at A8
     try simp -implicitDefEqProofs (maxSteps:=999999) [-selQ_sel,A4,A5,A6,A7,A8,E10,D11]
     have hr:=(HS.some H).symm;subst hr
     exact Hid.mk ⟨impl_UnderOf_l0_S a0 a1 (l8,(IntKind.i64.wrap (x5 + 1))),Wk.ofk [0,1] hk (by rfl) (by simp -implicitDefEqProofs [impl_UnderOf_l0_S,A4,A5,A6,A7,A8,E10,D11]) (by simp -implicitDefEqProofs [impl_UnderOf_l0_S,A4,A5,A6,A7,A8,E10,D11]),hR⟩
    ·replace H:=HS.cnd_f A7 H
     try simp -implicitDefEqProofs (maxSteps:=999999) [-selQ_sel,A4,A5,A6,A7]
     have hr:=(HS.some H).symm;subst hr
     exact Hid.mk ⟨impl_UnderOf_l0_S a0 a1 (x4,(IntKind.i64.wrap (x5 + 1))),Wk.ofk [0,1] hk (by rfl) (by simp -implicitDefEqProofs [impl_UnderOf_l0_S,A4,A5,A6,A7]) (by simp -implicitDefEqProofs [impl_UnderOf_l0_S,A4,A5,A6,A7]),hR⟩
  ·revert H A3;revert q;intro y9 A3 H
   try dsimp only at H
   try simp -implicitDefEqProofs (maxSteps:=999999) [-selQ_sel,A1,A2,impl_UnderOf_l0_X]
   have hr:=(HS.some H).symm;subst hr
   refine Hid.mk ⟨⟨[(4,AV.osl 0 0 (List.length y9) (List.length y9))],[(0,Ob.arr 1 (List.map (AV.int .i64) y9) false)],1⟩,Wk.ofk [0] hk (by rfl) (by simp -implicitDefEqProofs [A1,A2]) (by simp -implicitDefEqProofs [A1,A2]),?_⟩
   try simp -implicitDefEqProofs (maxSteps:=999999) [-selQ_sel,A1,A2]
 ·replace H:=HS.cnd_f A2 H
  try simp -implicitDefEqProofs (maxSteps:=999999) [-selQ_sel,A1,A2]
  have hr:=(HS.some H).symm;subst hr
  refine Hid.mk ⟨⟨[(4,AV.osl 0 0 0 0)],[(0,Ob.arr 1 (List.map (AV.int .i64) []) false)],1⟩,Wk.ofk [1] hk (by rfl) (by simp -implicitDefEqProofs [A1,A2]) (by simp -implicitDefEqProofs [A1,A2]),?_⟩
  try simp -implicitDefEqProofs (maxSteps:=999999) [-selQ_sel,A1,A2]
theorem impl_MatOk_ok0 (hm:Try.prog.follows .mixedOrders = true) (k_impl_inRange:Sound Try.prog 41 impl_inRange_x) (k_impl_isFar:Sound Try.prog 119 impl_isFar_x):Sound Try.prog 89 impl_MatOk_x:=by
 refine xOf_sound fun q r h=>?_
 revert h;revert r;revert q;intro a0 r h
 refine fn_ok E0 hm Try.func89 rfl (by decide +kernel) (by rfl) fun Γ hn hk=>?_
 dsimp only [impl_MatOk_e,impl_MatOk_v]
 replace hn:Γ.n = 29:=hn
 replace hk:Γ.k = 0:=hk
 have H:HS (impl_MatOk a0) r:=h
 clear h;unfold impl_MatOk at H
 try simp -implicitDefEqProofs at H
 refine Tr.of_vc (cl:=tabC [(41,impl_inRange_x),(119,impl_isFar_x)]) (E:=E0) [] (tab_cons k_impl_inRange (tab_cons k_impl_isFar tab_nil)) hm (by rw [hn];decide +kernel) ?_
 try simp -implicitDefEqProofs (maxSteps:=999999) [-selQ_sel]
 obtain ⟨q,A1,H⟩:=HS.bnd H
 refine Hid.mk (Tr.weak (s':=(impl_MatOk_l0_S a0) 0) (Wk.ofk [0] hk (by rfl) (by simp -implicitDefEqProofs [impl_MatOk_l0_S]) (by simp -implicitDefEqProofs [impl_MatOk_l0_S])) ?_)
 refine wp_loop_of (S:=(impl_MatOk_l0_S a0)) (f:=(impl_MatOk_l0 a0)) (xt:=(impl_MatOk_l0_X a0)) ?_ ?_ A1 ?_
 ·intro q;rcases q with ⟨⟩ | ⟨⟩ <;> simp [impl_MatOk_l0_X]
 ·clear H A1 q
  rintro x2 o R hf hR
  have H:HS (impl_MatOk_l0 a0 x2) o:=hf
  clear hf;unfold impl_MatOk_l0 at H
  try simp -implicitDefEqProofs at H
  refine Tr.of_vc (cl:=tabC [(41,impl_inRange_x),(119,impl_isFar_x)]) (E:=E0) [] (tab_cons k_impl_inRange (tab_cons k_impl_isFar tab_nil)) hm (by rw [hn];decide +kernel) ?_
  try simp -implicitDefEqProofs (maxSteps:=999999) [-selQ_sel,impl_MatOk_l0_S]
  refine Hid.brV (fun A2=>?_) (fun A2=>?_)
  ·replace H:=HS.cnd_t A2 H
   try simp -implicitDefEqProofs (maxSteps:=999999) [-selQ_sel,A2]
   have hr:=(HS.some H).symm;subst hr
   exact Hid.mk ⟨(impl_MatOk_l0_X a0 (.inl ())).2,Wk.ofk [0] hk (by rfl) (by simp -implicitDefEqProofs [impl_MatOk_l0_X,A2]) (by simp -implicitDefEqProofs [impl_MatOk_l0_X,A2]),hR⟩
  ·replace H:=HS.cnd_f A2 H
   try simp -implicitDefEqProofs (maxSteps:=999999) [-selQ_sel,A2]
   obtain ⟨v3,A3,H⟩:=HS.bnd H
   have B4:=idx_map (e:=(AV.int .i64)) A3
   simp only [List.map_cons,List.map_nil] at B4
   try simp -implicitDefEqProofs (maxSteps:=999999) [-selQ_sel,A2,A3,B4]
   obtain ⟨v4,A5,H⟩:=HS.bnd H
   try simp -implicitDefEqProofs (maxSteps:=999999) [-selQ_sel,A2,A3,B4,A5]
   refine Hid.brV (fun A6=>?_) (fun A6=>?_)
   ·replace H:=HS.cnd_t A6 H
    try simp -implicitDefEqProofs (maxSteps:=999999) [-selQ_sel,A2,A3,B4,A5,A6]
    have hr:=(HS.some H).symm;subst hr
    exact Hid.mk ⟨impl_MatOk_l0_S a0 (IntKind.i64.wrap (x2 + 1)),Wk.ofk [0] hk (by rfl) (by simp -implicitDefEqProofs [impl_MatOk_l0_S,A2,A3,B4,A5,A6]) (by simp -implicitDefEqProofs [impl_MatOk_l0_S,A2,A3,B4,A5,A6]),hR⟩
   ·replace H:=HS.cnd_f A6 H
    try simp -implicitDefEqProofs (maxSteps:=999999) [-selQ_sel,A2,A3,B4,A5,A6]
    have hr:=(HS.some H).symm;subst hr
    exact Hid.mk ⟨(impl_MatOk_l0_X a0 (.inr ())).2,Wk.ofk [] hk (by rfl) (by simp -implicitDefEqProofs [impl_MatOk_l0_X,A2,A3,B4,A5,A6]) (by simp -implicitDefEqProofs [impl_MatOk_l0_X,A2,A3,B4,A5,A6]),hR⟩
 ·rcases q with ⟨⟩ | ⟨⟩
  ·dsimp only at H
   try simp -implicitDefEqProofs (maxSteps:=999999) [-selQ_sel,impl_MatOk_l0_X]
   obtain ⟨v5,A7,H⟩:=HS.bnd H
   try simp -implicitDefEqProofs (maxSteps:=999999) [-selQ_sel,A7]
   refine Hid.selQ (fun A8=>?_) (fun A8=>?_)
   ·replace H:=HS.cnd_t A8 H
    try simp -implicitDefEqProofs (maxSteps:=999999) [-selQ_sel,A7,A8]
    obtain ⟨v6,A9,H⟩:=HS.bnd H
    try simp -implicitDefEqProofs (maxSteps:=999999) [-selQ_sel,A7,A8,A9]
    have hr:=(HS.some H).symm;subst hr
    refine Hid.mk ⟨_,Wk.refl _,?_⟩
    try simp -implicitDefEqProofs (maxSteps:=999999) [-selQ_sel,A7,A8,A9]
   ·replace H:=HS.cnd_f A8 H
    try simp -implicitDefEqProofs (maxSteps:=999999) [-selQ_sel,A7,A8]
    have hr:=(HS.some H).symm;subst hr
    refine Hid.mk ⟨_,Wk.refl _,?_⟩
    try simp -implicitDefEqProofs (maxSteps:=999999) [-selQ_sel,A7,A8]
  ·dsimp only at H
   try simp -implicitDefEqProofs (maxSteps:=999999) [-selQ_sel,impl_MatOk_l0_X]
   have hr:=(HS.some H).symm;subst hr
   refine Hid.mk ⟨_,Wk.refl _,?_⟩
   try simp -implicitDefEqProofs (maxSteps:=999999) [-selQ_sel]
theorem spec_DepthOf_ok0 (hm:Try.prog.follows .mixedOrders = true) (k_spec_NodeAt:Sound Try.prog 45 spec_NodeAt_x):Sound Try.prog 58 spec_DepthOf_x:=by
 refine xOf_sound fun q r h=>?_
 obtain ⟨a0,a1⟩:=q
 refine fn_ok E0 hm Try.func58 rfl (by decide +kernel) (by rfl) fun Γ hn hk=>?_
 dsimp only [spec_DepthOf_e,spec_DepthOf_v]
 replace hn:Γ.n = 28:=hn
 replace hk:Γ.k = 0:=hk
 have H:HS (spec_DepthOf a0 a1) r:=h
 clear h;unfold spec_DepthOf at H
 try simp -implicitDefEqProofs at H
 refine Tr.of_vc (cl:=tabC [(45,spec_NodeAt_x)]) (E:=E0) [] (tab_cons k_spec_NodeAt tab_nil) hm (by rw [hn];decide +kernel) ?_
 try simp -implicitDefEqProofs (maxSteps:=999999) [-selQ_sel]
 obtain ⟨q,A1,H⟩:=HS.bnd H
 refine Hid.mk (Tr.weak (s':=(spec_DepthOf_l0_S a0) (a1,0,0)) (Wk.ofk [0] hk (by rfl) (by simp -implicitDefEqProofs [spec_DepthOf_l0_S]) (by simp -implicitDefEqProofs [spec_DepthOf_l0_S])) ?_)
 refine wp_loop_of (S:=(spec_DepthOf_l0_S a0)) (f:=(spec_DepthOf_l0 a0)) (xt:=(spec_DepthOf_l0_X a0)) ?_ ?_ A1 ?_
 ·intro q;rcases q with y8 | ⟨⟩ <;> simp [spec_DepthOf_l0_X]
 ·clear H A1 q
  rintro ⟨x3,x4,x5⟩ o R hf hR
  have H:HS (spec_DepthOf_l0 a0 (x3,x4,x5)) o:=hf
  clear hf;unfold spec_DepthOf_l0 at H
  try simp -implicitDefEqProofs at H
  refine Tr.of_vc (cl:=tabC [(45,spec_NodeAt_x)]) (E:=E0) [] (tab_cons k_spec_NodeAt tab_nil) hm (by rw [hn];decide +kernel) ?_
  try simp -implicitDefEqProofs (maxSteps:=999999) [-selQ_sel,spec_DepthOf_l0_S]
  refine Hid.brV (fun A2=>?_) (fun A2=>?_)
  ·replace H:=HS.cnd_t A2 H
   try simp -implicitDefEqProofs (maxSteps:=999999) [-selQ_sel,A2]
   refine Hid.brV (fun A3=>?_) (fun A3=>?_)
   ·replace H:=HS.cnd_t A3 H
    try simp -implicitDefEqProofs (maxSteps:=999999) [-selQ_sel,A2,A3]
    have hr:=(HS.some H).symm;subst hr
    exact Hid.mk ⟨(spec_DepthOf_l0_X a0 (.inl x4)).2,Wk.ofk [] hk (by rfl) (by simp -implicitDefEqProofs [spec_DepthOf_l0_X,A2,A3]) (by simp -implicitDefEqProofs [spec_DepthOf_l0_X,A2,A3]),hR⟩
   ·replace H:=HS.cnd_f A3 H
    try simp -implicitDefEqProofs (maxSteps:=999999) [-selQ_sel,A2,A3]
    obtain ⟨v6,A4,H⟩:=HS.bnd H
    try simp -implicitDefEqProofs (maxSteps:=999999) [-selQ_sel,A2,A3,A4]
    refine Hid.brV (fun A5=>?_) (fun A5=>?_)
    ·replace H:=HS.cnd_t A5 H
     try simp -implicitDefEqProofs (maxSteps:=999999) [-selQ_sel,A2,A3,A4,A5]
     obtain ⟨v7,A6,H⟩:=HS.bnd H
     try simp -implicitDefEqProofs (maxSteps:=999999) [-selQ_sel,A2,A3,A4,A5,A6]
     have hr:=(HS.some H).symm;subst hr
     exact Hid.mk ⟨spec_DepthOf_l0_S a0 (v7.parent,(IntKind.i64.wrap (x4 + 1)),(IntKind.i64.wrap (x5 + 1))),Wk.ofk [0] hk (by rfl) (by simp -implicitDefEqProofs [spec_DepthOf_l0_S,A2,A3,A4,A5,A6]) (by simp -implicitDefEqProofs [spec_DepthOf_l0_S,A2,A3,A4,A5,A6]),hR⟩
    ·replace H:=HS.cnd_f A5 H
     try simp -implicitDefEqProofs (maxSteps:=999999) [-selQ_sel,A2,A3,A4,A5]
     have hr:=(HS.some H).symm;subst hr
     exact Hid.mk ⟨(spec_DepthOf_l0_X a0 (.inl 0)).2,Wk.ofk [] hk (by rfl) (by simp -implicitDefEqProofs [spec_DepthOf_l0_X,A2,A3,A4,A5]) (by simp -implicitDefEqProofs [spec_DepthOf_l0_X,A2,A3,A4,A5]),hR⟩
  ·replace H:=HS.cnd_f A2 H
   try simp -implicitDefEqProofs (maxSteps:=999999) [-selQ_sel,A2]
   have hr:=(HS.some H).symm;subst hr
   exact Hid.mk ⟨(spec_DepthOf_l0_X a0 (.inr ())).2,Wk.ofk [] hk (by rfl) (by simp -implicitDefEqProofs [spec_DepthOf_l0_X,A2]) (by simp -implicitDefEqProofs [spec_DepthOf_l0_X,A2]),hR⟩
 ·rcases q with y8 | ⟨⟩
  ·dsimp only at H
   try simp -implicitDefEqProofs (maxSteps:=999999) [-selQ_sel,spec_DepthOf_l0_X]
   have hr:=(HS.some H).symm;subst hr
   refine Hid.mk ⟨_,Wk.refl _,?_⟩
   try simp -implicitDefEqProofs (maxSteps:=999999) [-selQ_sel]
  ·dsimp only at H
   try simp -implicitDefEqProofs (maxSteps:=999999) [-selQ_sel,spec_DepthOf_l0_X]
   have hr:=(HS.some H).symm;subst hr
   refine Hid.mk ⟨_,Wk.refl _,?_⟩
   try simp -implicitDefEqProofs (maxSteps:=999999) [-selQ_sel]
theorem impl_Scene_comesTo_ok0 (hm:Try.prog.follows .mixedOrders = true) (k_impl_NodeAt:Sound Try.prog 13 impl_NodeAt_x):Sound Try.prog 84 impl_Scene_comesTo_x:=by
 refine xOf_sound fun q r h=>?_
 obtain ⟨a0,a1,a2⟩:=q
 refine fn_ok E0 hm Try.func84 rfl (by decide +kernel) (by rfl) fun Γ hn hk=>?_
 dsimp only [impl_Scene_comesTo_e,impl_Scene_comesTo_v]
 replace hn:Γ.n = 34:=hn
 replace hk:Γ.k = 0:=hk
 have H:HS (impl_Scene_comesTo a0 a1 a2) r:=h
 clear h;unfold impl_Scene_comesTo at H
 try simp -implicitDefEqProofs at H
 refine Tr.of_vc (cl:=tabC [(13,impl_NodeAt_x)]) (E:=E0) [] (tab_cons k_impl_NodeAt tab_nil) hm (by rw [hn];decide +kernel) ?_
 try simp -implicitDefEqProofs (maxSteps:=999999) [-selQ_sel]
 obtain ⟨q,A1,H⟩:=HS.bnd H
 refine Hid.mk (Tr.weak (s':=(impl_Scene_comesTo_l0_S a0 a2) (a1,0)) (Wk.ofk [] hk (by rfl) (by simp -implicitDefEqProofs [impl_Scene_comesTo_l0_S]) (by simp -implicitDefEqProofs [impl_Scene_comesTo_l0_S])) ?_)
 refine wp_loop_of (S:=(impl_Scene_comesTo_l0_S a0 a2)) (f:=(impl_Scene_comesTo_l0 a0 a2)) (xt:=(impl_Scene_comesTo_l0_X a0 a2)) ?_ ?_ A1 ?_
 ·intro q;simp [impl_Scene_comesTo_l0_X]
 ·clear H A1 q
  rintro ⟨x3,x4⟩ o R hf hR
  have H:HS (impl_Scene_comesTo_l0 a0 a2 (x3,x4)) o:=hf
  clear hf;unfold impl_Scene_comesTo_l0 at H
  try simp -implicitDefEqProofs at H
  refine Tr.of_vc (cl:=tabC [(13,impl_NodeAt_x)]) (E:=E0) [] (tab_cons k_impl_NodeAt tab_nil) hm (by rw [hn];decide +kernel) ?_
  try simp -implicitDefEqProofs (maxSteps:=999999) [-selQ_sel,impl_Scene_comesTo_l0_S]
  refine Hid.brV (fun A2=>?_) (fun A2=>?_)
  ·replace H:=HS.cnd_t A2 H
   try simp -implicitDefEqProofs (maxSteps:=999999) [-selQ_sel,A2]
   have hr:=(HS.some H).symm;subst hr
   exact Hid.mk ⟨(impl_Scene_comesTo_l0_X a0 a2 x3).2,Wk.ofk [] hk (by rfl) (by simp -implicitDefEqProofs [impl_Scene_comesTo_l0_X,A2]) (by simp -implicitDefEqProofs [impl_Scene_comesTo_l0_X,A2]),hR⟩
  ·replace H:=HS.cnd_f A2 H
   try simp -implicitDefEqProofs (maxSteps:=999999) [-selQ_sel,A2]
   obtain ⟨v5,A3,H⟩:=HS.bnd H
   try simp -implicitDefEqProofs (maxSteps:=999999) [-selQ_sel,A2,A3]
   refine Hid.selQ (fun A4=>?_) (fun A4=>?_)
   ·replace H:=HS.cnd_t A4 H
    try simp -implicitDefEqProofs (maxSteps:=999999) [-selQ_sel,A2,A3,A4]
    have hr:=(HS.some H).symm;subst hr
    exact Hid.mk ⟨(impl_Scene_comesTo_l0_X a0 a2 x3).2,Wk.ofk [] hk (by rfl) (by simp -implicitDefEqProofs [impl_Scene_comesTo_l0_X,A2,A3,A4]) (by simp -implicitDefEqProofs [impl_Scene_comesTo_l0_X,A2,A3,A4]),hR⟩
   ·replace H:=HS.cnd_f A4 H
    try simp -implicitDefEqProofs (maxSteps:=999999) [-selQ_sel,A2,A3,A4]
    refine Hid.brV (fun A5=>?_) (fun A5=>?_)
    ·replace H:=HS.cnd_t A5 H
     try simp -implicitDefEqProofs (maxSteps:=999999) [-selQ_sel,A2,A3,A4,A5]
     obtain ⟨v6,A6,H⟩:=HS.bnd H
     try simp -implicitDefEqProofs (maxSteps:=999999) [-selQ_sel,A2,A3,A4,A5,A6]
     have hr:=(HS.some H).symm;subst hr
     exact Hid.mk ⟨impl_Scene_comesTo_l0_S a0 a2 (v6.parent,(IntKind.i64.wrap (x4 + 1))),Wk.ofk [] hk (by rfl) (by simp -implicitDefEqProofs [impl_Scene_comesTo_l0_S,A2,A3,A4,A5,A6]) (by simp -implicitDefEqProofs [impl_Scene_comesTo_l0_S,A2,A3,A4,A5,A6]),hR⟩
    ·replace H:=HS.cnd_f A5 H
     try simp -implicitDefEqProofs (maxSteps:=999999) [-selQ_sel,A2,A3,A4,A5]
     have hr:=(HS.some H).symm;subst hr
     exact Hid.mk ⟨(impl_Scene_comesTo_l0_X a0 a2 x3).2,Wk.ofk [] hk (by rfl) (by simp -implicitDefEqProofs [impl_Scene_comesTo_l0_X,A2,A3,A4,A5]) (by simp -implicitDefEqProofs [impl_Scene_comesTo_l0_X,A2,A3,A4,A5]),hR⟩
 ·revert H A1;revert q;intro y7 A1 H
  try dsimp only at H
  try simp -implicitDefEqProofs (maxSteps:=999999) [-selQ_sel,impl_Scene_comesTo_l0_X]
  have hr:=(HS.some H).symm;subst hr
  refine Hid.mk ⟨_,Wk.refl _,?_⟩
  try simp -implicitDefEqProofs (maxSteps:=999999) [-selQ_sel]
theorem impl_DashOk_ok0 (hm:Try.prog.follows .mixedOrders = true) (k_impl_inRange:Sound Try.prog 41 impl_inRange_x):Sound Try.prog 91 impl_DashOk_x:=by
 refine xOf_sound fun q r h=>?_
 revert h;revert r;revert q;intro a0 r h
 refine fn_ok E0 hm Try.func91 rfl (by decide +kernel) (by rfl) fun Γ hn hk=>?_
 dsimp only [impl_DashOk_e,impl_DashOk_v]
 replace hn:Γ.n = 24:=hn
 replace hk:Γ.k = 0:=hk
 have H:HS (impl_DashOk a0) r:=h
 clear h;unfold impl_DashOk at H
 try simp -implicitDefEqProofs at H
 refine Tr.of_vc (cl:=tabC [(41,impl_inRange_x)]) (E:=E0) [] (tab_cons k_impl_inRange tab_nil) hm (by rw [hn];decide +kernel) ?_
 try simp -implicitDefEqProofs (maxSteps:=999999) [-selQ_sel]
 obtain ⟨q,A1,H⟩:=HS.bnd H
 refine Hid.mk (Tr.weak (s':=(impl_DashOk_l0_S a0) 0) (Wk.ofk [] hk (by rfl) (by simp -implicitDefEqProofs [impl_DashOk_l0_S]) (by simp -implicitDefEqProofs [impl_DashOk_l0_S])) ?_)
 refine wp_loop_of (S:=(impl_DashOk_l0_S a0)) (f:=(impl_DashOk_l0 a0)) (xt:=(impl_DashOk_l0_X a0)) ?_ ?_ A1 ?_
 ·intro q;rcases q with ⟨⟩ | ⟨⟩ <;> simp [impl_DashOk_l0_X]
 ·clear H A1 q
  rintro x3 o R hf hR
  have H:HS (impl_DashOk_l0 a0 x3) o:=hf
  clear hf;unfold impl_DashOk_l0 at H
  try simp -implicitDefEqProofs at H
  refine Tr.of_vc (cl:=tabC [(41,impl_inRange_x)]) (E:=E0) [] (tab_cons k_impl_inRange tab_nil) hm (by rw [hn];decide +kernel) ?_
  try simp -implicitDefEqProofs (maxSteps:=999999) [-selQ_sel,impl_DashOk_l0_S]
  refine Hid.brV (fun A2=>?_) (fun A2=>?_)
  ·replace H:=HS.cnd_t A2 H
   try simp -implicitDefEqProofs (maxSteps:=999999) [-selQ_sel,A2]
   have hr:=(HS.some H).symm;subst hr
   exact Hid.mk ⟨(impl_DashOk_l0_X a0 (.inl ())).2,Wk.ofk [] hk (by rfl) (by simp -implicitDefEqProofs [impl_DashOk_l0_X,A2]) (by simp -implicitDefEqProofs [impl_DashOk_l0_X,A2]),hR⟩
  ·replace H:=HS.cnd_f A2 H
   try simp -implicitDefEqProofs (maxSteps:=999999) [-selQ_sel,A2]
   obtain ⟨v4,A3,H⟩:=HS.bnd H
   try simp -implicitDefEqProofs (maxSteps:=999999) [-selQ_sel,A2,A3]
   obtain ⟨v5,A4,H⟩:=HS.bnd H
   try simp -implicitDefEqProofs (maxSteps:=999999) [-selQ_sel,A2,A3,A4]
   refine Hid.brV (fun A5=>?_) (fun A5=>?_)
   ·replace H:=HS.cnd_t A5 H
    try simp -implicitDefEqProofs (maxSteps:=999999) [-selQ_sel,A2,A3,A4,A5]
    have hr:=(HS.some H).symm;subst hr
    exact Hid.mk ⟨impl_DashOk_l0_S a0 (IntKind.i64.wrap (x3 + 1)),Wk.ofk [] hk (by rfl) (by simp -implicitDefEqProofs [impl_DashOk_l0_S,A2,A3,A4,A5]) (by simp -implicitDefEqProofs [impl_DashOk_l0_S,A2,A3,A4,A5]),hR⟩
   ·replace H:=HS.cnd_f A5 H
    try simp -implicitDefEqProofs (maxSteps:=999999) [-selQ_sel,A2,A3,A4,A5]
    have hr:=(HS.some H).symm;subst hr
    exact Hid.mk ⟨(impl_DashOk_l0_X a0 (.inr ())).2,Wk.ofk [] hk (by rfl) (by simp -implicitDefEqProofs [impl_DashOk_l0_X,A2,A3,A4,A5]) (by simp -implicitDefEqProofs [impl_DashOk_l0_X,A2,A3,A4,A5]),hR⟩
 ·rcases q with ⟨⟩ | ⟨⟩
  ·dsimp only at H
   try simp -implicitDefEqProofs (maxSteps:=999999) [-selQ_sel,impl_DashOk_l0_X]
   refine Hid.selQ (fun A6=>?_) (fun A6=>?_)
   ·replace H:=HS.cnd_t A6 H
    try simp -implicitDefEqProofs (maxSteps:=999999) [-selQ_sel,A6]
    have hr:=(HS.some H).symm;subst hr
    refine Hid.mk ⟨_,Wk.refl _,?_⟩
    try simp -implicitDefEqProofs (maxSteps:=999999) [-selQ_sel,A6]
   ·replace H:=HS.cnd_f A6 H
    try simp -implicitDefEqProofs (maxSteps:=999999) [-selQ_sel,A6]
    have hr:=(HS.some H).symm;subst hr
    refine Hid.mk ⟨_,Wk.refl _,?_⟩
    try simp -implicitDefEqProofs (maxSteps:=999999) [-selQ_sel,A6]
  ·dsimp only at H
   try simp -implicitDefEqProofs (maxSteps:=999999) [-selQ_sel,impl_DashOk_l0_X]
   have hr:=(HS.some H).symm;subst hr
   refine Hid.mk ⟨_,Wk.refl _,?_⟩
   try simp -implicitDefEqProofs (maxSteps:=999999) [-selQ_sel]
theorem laws_eqPaint_ok0 (hm:Try.prog.follows .mixedOrders = true) (k_laws_eqColor:Sound Try.prog 110 laws_eqColor_x) (k_laws_eqPoint:Sound Try.prog 111 laws_eqPoint_x):Sound Try.prog 69 laws_eqPaint_x:=by
 refine xOf_sound fun q r h=>?_
 obtain ⟨a0,a1⟩:=q
 refine fn_ok E0 hm Try.func69 rfl (by decide +kernel) (by rfl) fun Γ hn hk=>?_
 dsimp only [laws_eqPaint_e,laws_eqPaint_v]
 replace hn:Γ.n = 34:=hn
 replace hk:Γ.k = 0:=hk
 have H:HS (laws_eqPaint a0 a1) r:=h
 clear h;unfold laws_eqPaint at H
 try simp -implicitDefEqProofs at H
 refine Tr.of_vc (cl:=tabC [(110,laws_eqColor_x),(111,laws_eqPoint_x)]) (E:=E0) [] (tab_cons k_laws_eqColor (tab_cons k_laws_eqPoint tab_nil)) hm (by rw [hn];decide +kernel) ?_
 try simp -implicitDefEqProofs (maxSteps:=999999) [-selQ_sel]
 refine Hid.brV (fun A1=>?_) (fun A1=>?_)
 ·replace H:=HS.cnd_t A1 H
  try simp -implicitDefEqProofs (maxSteps:=999999) [-selQ_sel,A1]
  obtain ⟨v1,A2,H⟩:=HS.bnd H
  try simp -implicitDefEqProofs (maxSteps:=999999) [-selQ_sel,A1,A2]
  refine Hid.brV (fun A3=>?_) (fun A3=>?_)
  ·replace H:=HS.cnd_t A3 H
   try simp -implicitDefEqProofs (maxSteps:=999999) [-selQ_sel,A1,A2,A3]
   obtain ⟨v2,A4,H⟩:=HS.bnd H
   try simp -implicitDefEqProofs (maxSteps:=999999) [-selQ_sel,A1,A2,A3,A4]
   refine Hid.brV (fun A5=>?_) (fun A5=>?_)
   ·replace H:=HS.cnd_t A5 H
    try simp -implicitDefEqProofs (maxSteps:=999999) [-selQ_sel,A1,A2,A3,A4,A5]
    obtain ⟨v3,A6,H⟩:=HS.bnd H
    try simp -implicitDefEqProofs (maxSteps:=999999) [-selQ_sel,A1,A2,A3,A4,A5,A6]
    refine Hid.brV (fun A7=>?_) (fun A7=>?_)
    ·replace H:=HS.cnd_t A7 H
     try simp -implicitDefEqProofs (maxSteps:=999999) [-selQ_sel,A1,A2,A3,A4,A5,A6,A7]
     obtain ⟨v4,A8,H⟩:=HS.bnd H
     try simp -implicitDefEqProofs (maxSteps:=999999) [-selQ_sel,A1,A2,A3,A4,A5,A6,A7,A8]
     refine Hid.brV (fun A9=>?_) (fun A9=>?_)
     ·replace H:=HS.cnd_t A9 H
      try simp -implicitDefEqProofs (maxSteps:=999999) [-selQ_sel,A1,A2,A3,A4,A5,A6,A7,A8,A9]
      have hr:=(HS.some H).symm;subst hr
      refine Hid.mk ⟨_,Wk.refl _,?_⟩
      try simp -implicitDefEqProofs (maxSteps:=999999) [-selQ_sel,A1,A2,A3,A4,A5,A6,A7,A8,A9]
     ·replace H:=HS.cnd_f A9 H
      try simp -implicitDefEqProofs (maxSteps:=999999) [-selQ_sel,A1,A2,A3,A4,A5,A6,A7,A8,A9]
      have hr:=(HS.some H).symm;subst hr
      refine Hid.mk ⟨_,Wk.refl _,?_⟩
      try simp -implicitDefEqProofs (maxSteps:=999999) [-selQ_sel,A1,A2,A3,A4,A5,A6,A7,A8,A9]
    ·replace H:=HS.cnd_f A7 H
     try simp -implicitDefEqProofs (maxSteps:=999999) [-selQ_sel,A1,A2,A3,A4,A5,A6,A7]
     have hr:=(HS.some H).symm;subst hr
     refine Hid.mk ⟨_,Wk.refl _,?_⟩
     try simp -implicitDefEqProofs (maxSteps:=999999) [-selQ_sel,A1,A2,A3,A4,A5,A6,A7]
   ·replace H:=HS.cnd_f A5 H
    try simp -implicitDefEqProofs (maxSteps:=999999) [-selQ_sel,A1,A2,A3,A4,A5]
    have hr:=(HS.some H).symm;subst hr
    refine Hid.mk ⟨_,Wk.refl _,?_⟩
    try simp -implicitDefEqProofs (maxSteps:=999999) [-selQ_sel,A1,A2,A3,A4,A5]
  ·replace H:=HS.cnd_f A3 H
   try simp -implicitDefEqProofs (maxSteps:=999999) [-selQ_sel,A1,A2,A3]
   have hr:=(HS.some H).symm;subst hr
   refine Hid.mk ⟨_,Wk.refl _,?_⟩
   try simp -implicitDefEqProofs (maxSteps:=999999) [-selQ_sel,A1,A2,A3]
 ·replace H:=HS.cnd_f A1 H
  try simp -implicitDefEqProofs (maxSteps:=999999) [-selQ_sel,A1]
  have hr:=(HS.some H).symm;subst hr
  refine Hid.mk ⟨_,Wk.refl _,?_⟩
  try simp -implicitDefEqProofs (maxSteps:=999999) [-selQ_sel,A1]
theorem laws_eqMat_ok0 (hm:Try.prog.follows .mixedOrders = true):Sound Try.prog 66 laws_eqMat_x:=by
 refine xOf_sound fun q r h=>?_
 obtain ⟨a0,a1⟩:=q
 refine fn_ok E0 hm Try.func66 rfl (by decide +kernel) (by rfl) fun Γ hn hk=>?_
 dsimp only [laws_eqMat_e,laws_eqMat_v]
 replace hn:Γ.n = 35:=hn
 replace hk:Γ.k = 0:=hk
 have H:HS (laws_eqMat a0 a1) r:=h
 clear h;unfold laws_eqMat at H
 try simp -implicitDefEqProofs at H
 refine Tr.of_vc (cl:=tabC []) (E:=E0) [] tab_nil hm (by rw [hn];decide +kernel) ?_
 try simp -implicitDefEqProofs (maxSteps:=999999) [-selQ_sel]
 refine Hid.brV (fun A1=>?_) (fun A1=>?_)
 ·replace H:=HS.cnd_t A1 H
  try simp -implicitDefEqProofs (maxSteps:=999999) [-selQ_sel,A1]
  refine Hid.brV (fun A2=>?_) (fun A2=>?_)
  ·replace H:=HS.cnd_t A2 H
   try simp -implicitDefEqProofs (maxSteps:=999999) [-selQ_sel,A1,A2]
   refine Hid.brV (fun A3=>?_) (fun A3=>?_)
   ·replace H:=HS.cnd_t A3 H
    try simp -implicitDefEqProofs (maxSteps:=999999) [-selQ_sel,A1,A2,A3]
    refine Hid.brV (fun A4=>?_) (fun A4=>?_)
    ·replace H:=HS.cnd_t A4 H
     try simp -implicitDefEqProofs (maxSteps:=999999) [-selQ_sel,A1,A2,A3,A4]
     refine Hid.brV (fun A5=>?_) (fun A5=>?_)
     ·replace H:=HS.cnd_t A5 H
      try simp -implicitDefEqProofs (maxSteps:=999999) [-selQ_sel,A1,A2,A3,A4,A5]
      refine Hid.brV (fun A6=>?_) (fun A6=>?_)
      ·replace H:=HS.cnd_t A6 H
       try simp -implicitDefEqProofs (maxSteps:=999999) [-selQ_sel,A1,A2,A3,A4,A5,A6]
       have hr:=(HS.some H).symm;subst hr
       refine Hid.mk ⟨_,Wk.refl _,?_⟩
       try simp -implicitDefEqProofs (maxSteps:=999999) [-selQ_sel,A1,A2,A3,A4,A5,A6]
      ·replace H:=HS.cnd_f A6 H
       try simp -implicitDefEqProofs (maxSteps:=999999) [-selQ_sel,A1,A2,A3,A4,A5,A6]
       have hr:=(HS.some H).symm;subst hr
       refine Hid.mk ⟨_,Wk.refl _,?_⟩
       try simp -implicitDefEqProofs (maxSteps:=999999) [-selQ_sel,A1,A2,A3,A4,A5,A6]
     ·replace H:=HS.cnd_f A5 H
      try simp -implicitDefEqProofs (maxSteps:=999999) [-selQ_sel,A1,A2,A3,A4,A5]
      have hr:=(HS.some H).symm;subst hr
      refine Hid.mk ⟨_,Wk.refl _,?_⟩
      try simp -implicitDefEqProofs (maxSteps:=999999) [-selQ_sel,A1,A2,A3,A4,A5]
    ·replace H:=HS.cnd_f A4 H
     try simp -implicitDefEqProofs (maxSteps:=999999) [-selQ_sel,A1,A2,A3,A4]
     have hr:=(HS.some H).symm;subst hr
     refine Hid.mk ⟨_,Wk.refl _,?_⟩
     try simp -implicitDefEqProofs (maxSteps:=999999) [-selQ_sel,A1,A2,A3,A4]
   ·replace H:=HS.cnd_f A3 H
    try simp -implicitDefEqProofs (maxSteps:=999999) [-selQ_sel,A1,A2,A3]
    have hr:=(HS.some H).symm;subst hr
    refine Hid.mk ⟨_,Wk.refl _,?_⟩
    try simp -implicitDefEqProofs (maxSteps:=999999) [-selQ_sel,A1,A2,A3]
  ·replace H:=HS.cnd_f A2 H
   try simp -implicitDefEqProofs (maxSteps:=999999) [-selQ_sel,A1,A2]
   have hr:=(HS.some H).symm;subst hr
   refine Hid.mk ⟨_,Wk.refl _,?_⟩
   try simp -implicitDefEqProofs (maxSteps:=999999) [-selQ_sel,A1,A2]
 ·replace H:=HS.cnd_f A1 H
  try simp -implicitDefEqProofs (maxSteps:=999999) [-selQ_sel,A1]
  have hr:=(HS.some H).symm;subst hr
  refine Hid.mk ⟨_,Wk.refl _,?_⟩
  try simp -implicitDefEqProofs (maxSteps:=999999) [-selQ_sel,A1]
theorem slices_Index_int_ok0 (hm:Try.prog.follows .mixedOrders = true):Sound Try.prog 83 slices_Index_int_x:=by
 refine xOf_sound fun q r h=>?_
 obtain ⟨a0,a1⟩:=q
 refine fn_ok E0 hm Try.func83 rfl (by decide +kernel) (by rfl) fun Γ hn hk=>?_
 dsimp only [slices_Index_int_e,slices_Index_int_v]
 replace hn:Γ.n = 19:=hn
 replace hk:Γ.k = 0:=hk
 have H:HS (slices_Index_int a0 a1) r:=h
 clear h;unfold slices_Index_int at H
 try simp -implicitDefEqProofs at H
 refine Tr.of_vc (cl:=tabC []) (E:=E0) [] tab_nil hm (by rw [hn];decide +kernel) ?_
 try simp -implicitDefEqProofs (maxSteps:=999999) [-selQ_sel]
 obtain ⟨q,A1,H⟩:=HS.bnd H
 refine Hid.mk (Tr.weak (s':=(slices_Index_int_l0_S a0 a1) 0) (Wk.ofk [] hk (by rfl) (by simp -implicitDefEqProofs [slices_Index_int_l0_S]) (by simp -implicitDefEqProofs [slices_Index_int_l0_S])) ?_)
 refine wp_loop_of (S:=(slices_Index_int_l0_S a0 a1)) (f:=(slices_Index_int_l0 a0 a1)) (xt:=(slices_Index_int_l0_X a0 a1)) ?_ ?_ A1 ?_
 ·intro q;rcases q with ⟨⟩ | y4 <;> simp [slices_Index_int_l0_X]
 ·clear H A1 q
  rintro x2 o R hf hR
  have H:HS (slices_Index_int_l0 a0 a1 x2) o:=hf
  clear hf;unfold slices_Index_int_l0 at H
  try simp -implicitDefEqProofs at H
  refine Tr.of_vc (cl:=tabC []) (E:=E0) [] tab_nil hm (by rw [hn];decide +kernel) ?_
  try simp -implicitDefEqProofs (maxSteps:=999999) [-selQ_sel,slices_Index_int_l0_S]
  refine Hid.brV (fun A2=>?_) (fun A2=>?_)
  ·replace H:=HS.cnd_t A2 H
   try simp -implicitDefEqProofs (maxSteps:=999999) [-selQ_sel,A2]
   have hr:=(HS.some H).symm;subst hr
   exact Hid.mk ⟨(slices_Index_int_l0_X a0 a1 (.inl ())).2,Wk.ofk [] hk (by rfl) (by simp -implicitDefEqProofs [slices_Index_int_l0_X,A2]) (by simp -implicitDefEqProofs [slices_Index_int_l0_X,A2]),hR⟩
  ·replace H:=HS.cnd_f A2 H
   try simp -implicitDefEqProofs (maxSteps:=999999) [-selQ_sel,A2]
   obtain ⟨v3,A3,H⟩:=HS.bnd H
   try simp -implicitDefEqProofs (maxSteps:=999999) [-selQ_sel,A2,A3]
   refine Hid.brV (fun A4=>?_) (fun A4=>?_)
   ·replace H:=HS.cnd_t A4 H
    try simp -implicitDefEqProofs (maxSteps:=999999) [-selQ_sel,A2,A3,A4]
    have hr:=(HS.some H).symm;subst hr
    exact Hid.mk ⟨(slices_Index_int_l0_X a0 a1 (.inr x2)).2,Wk.ofk [] hk (by rfl) (by simp -implicitDefEqProofs [slices_Index_int_l0_X,A2,A3,A4]) (by simp -implicitDefEqProofs [slices_Index_int_l0_X,A2,A3,A4]),hR⟩
   ·replace H:=HS.cnd_f A4 H
    try simp -implicitDefEqProofs (maxSteps:=999999) [-selQ_sel,A2,A3,A4]
    have hr:=(HS.some H).symm;subst hr
    exact Hid.mk ⟨slices_Index_int_l0_S a0 a1 (IntKind.i64.wrap (x2 + 1)),Wk.ofk [] hk (by rfl) (by simp -implicitDefEqProofs [slices_Index_int_l0_S,A2,A3,A4]) (by simp -implicitDefEqProofs [slices_Index_int_l0_S,A2,A3,A4]),hR⟩
 ·rcases q with ⟨⟩ | y4
  ·dsimp only at H
   try simp -implicitDefEqProofs (maxSteps:=999999) [-selQ_sel,slices_Index_int_l0_X]
   have hr:=(HS.some H).symm;subst hr
   refine Hid.mk ⟨_,Wk.refl _,?_⟩
   try simp -implicitDefEqProofs (maxSteps:=999999) [-selQ_sel]
  ·dsimp only at H
   try simp -implicitDefEqProofs (maxSteps:=999999) [-selQ_sel,slices_Index_int_l0_X]
   have hr:=(HS.some H).symm;subst hr
   refine Hid.mk ⟨_,Wk.refl _,?_⟩
   try simp -implicitDefEqProofs (maxSteps:=999999) [-selQ_sel]
theorem spec_NodeAt_ok0 (hm:Try.prog.follows .mixedOrders = true):Sound Try.prog 45 spec_NodeAt_x:=by
 refine xOf_sound fun q r h=>?_
 obtain ⟨a0,a1⟩:=q
 refine fn_ok E0 hm Try.func45 rfl (by decide +kernel) (by rfl) fun Γ hn hk=>?_
 dsimp only [spec_NodeAt_e,spec_NodeAt_v]
 replace hn:Γ.n = 22:=hn
 replace hk:Γ.k = 0:=hk
 have H:HS (spec_NodeAt a0 a1) r:=h
 clear h;unfold spec_NodeAt at H
 try simp -implicitDefEqProofs at H
 refine Tr.of_vc (cl:=tabC []) (E:=E0) [] tab_nil hm (by rw [hn];decide +kernel) ?_
 try simp -implicitDefEqProofs (maxSteps:=999999) [-selQ_sel]
 obtain ⟨q,A1,H⟩:=HS.bnd H
 refine Hid.mk (Tr.weak (s':=(spec_NodeAt_l0_S a0 a1) 0) (Wk.ofk [0] hk (by rfl) (by simp -implicitDefEqProofs [spec_NodeAt_l0_S]) (by simp -implicitDefEqProofs [spec_NodeAt_l0_S])) ?_)
 refine wp_loop_of (S:=(spec_NodeAt_l0_S a0 a1)) (f:=(spec_NodeAt_l0 a0 a1)) (xt:=(spec_NodeAt_l0_X a0 a1)) ?_ ?_ A1 ?_
 ·intro q;rcases q with ⟨⟩ | y4 <;> simp [spec_NodeAt_l0_X]
 ·clear H A1 q
  rintro x2 o R hf hR
  have H:HS (spec_NodeAt_l0 a0 a1 x2) o:=hf
  clear hf;unfold spec_NodeAt_l0 at H
  try simp -implicitDefEqProofs at H
  refine Tr.of_vc (cl:=tabC []) (E:=E0) [] tab_nil hm (by rw [hn];decide +kernel) ?_
  try simp -implicitDefEqProofs (maxSteps:=999999) [-selQ_sel,spec_NodeAt_l0_S]
  refine Hid.brV (fun A2=>?_) (fun A2=>?_)
  ·replace H:=HS.cnd_t A2 H
   try simp -implicitDefEqProofs (maxSteps:=999999) [-selQ_sel,A2]
   have hr:=(HS.some H).symm;subst hr
   exact Hid.mk ⟨(spec_NodeAt_l0_X a0 a1 (.inl ())).2,Wk.ofk [] hk (by rfl) (by simp -implicitDefEqProofs [spec_NodeAt_l0_X,A2]) (by simp -implicitDefEqProofs [spec_NodeAt_l0_X,A2]),hR⟩
  ·replace H:=HS.cnd_f A2 H
   try simp -implicitDefEqProofs (maxSteps:=999999) [-selQ_sel,A2]
   obtain ⟨v3,A3,H⟩:=HS.bnd H
   try simp -implicitDefEqProofs (maxSteps:=999999) [-selQ_sel,A2,A3]
   refine Hid.brV (fun A4=>?_) (fun A4=>?_)
   ·replace H:=HS.cnd_t A4 H
    try simp -implicitDefEqProofs (maxSteps:=999999) [-selQ_sel,A2,A3,A4]
    have hr:=(HS.some H).symm;subst hr
    exact Hid.mk ⟨(spec_NodeAt_l0_X a0 a1 (.inr x2)).2,Wk.ofk [] hk (by rfl) (by simp -implicitDefEqProofs [spec_NodeAt_l0_X,A2,A3,A4]) (by simp -implicitDefEqProofs [spec_NodeAt_l0_X,A2,A3,A4]),hR⟩
   ·replace H:=HS.cnd_f A4 H
    try simp -implicitDefEqProofs (maxSteps:=999999) [-selQ_sel,A2,A3,A4]
    have hr:=(HS.some H).symm;subst hr
    exact Hid.mk ⟨spec_NodeAt_l0_S a0 a1 (IntKind.i64.wrap (x2 + 1)),Wk.ofk [0] hk (by rfl) (by simp -implicitDefEqProofs [spec_NodeAt_l0_S,A2,A3,A4]) (by simp -implicitDefEqProofs [spec_NodeAt_l0_S,A2,A3,A4]),hR⟩
 ·rcases q with ⟨⟩ | y4
  ·dsimp only at H
   try simp -implicitDefEqProofs (maxSteps:=999999) [-selQ_sel,spec_NodeAt_l0_X]
   have hr:=(HS.some H).symm;subst hr
   refine Hid.mk ⟨_,Wk.refl _,?_⟩
   try simp -implicitDefEqProofs (maxSteps:=999999) [-selQ_sel]
  ·dsimp only at H
   try simp -implicitDefEqProofs (maxSteps:=999999) [-selQ_sel,spec_NodeAt_l0_X]
   have hr:=(HS.some H).symm;subst hr
   refine Hid.mk ⟨_,Wk.refl _,?_⟩
   try simp -implicitDefEqProofs (maxSteps:=999999) [-selQ_sel]
theorem laws_markIntS_ok0 (hm:Try.prog.follows .mixedOrders = true):Sound Try.prog 72 laws_markIntS_x:=by
 refine xOf_sound fun q r h=>?_
 obtain ⟨a0,a1⟩:=q
 refine fn_ok E0 hm Try.func72 rfl (by decide +kernel) (by rfl) fun Γ hn hk=>?_
 dsimp only [laws_markIntS_e,laws_markIntS_v]
 replace hn:Γ.n = 19:=hn
 replace hk:Γ.k = 1:=hk
 have H:HS (laws_markIntS a0 a1) r:=h
 clear h;unfold laws_markIntS at H
 try simp -implicitDefEqProofs at H
 refine Tr.of_vc (cl:=tabC []) (E:=E0) [] tab_nil hm (by rw [hn];decide +kernel) ?_
 try simp -implicitDefEqProofs (maxSteps:=999999) [-selQ_sel]
 obtain ⟨q,A1,H⟩:=HS.bnd H
 refine Hid.mk (Tr.weak (s':=laws_markIntS_l0_S (a0,0,a1)) (Wk.ofk [0] hk (by rfl) (by simp -implicitDefEqProofs [laws_markIntS_l0_S]) (by simp -implicitDefEqProofs [laws_markIntS_l0_S])) ?_)
 refine wp_loop_of (S:=laws_markIntS_l0_S) (f:=laws_markIntS_l0) (xt:=laws_markIntS_l0_X) ?_ ?_ A1 ?_
 ·intro q;rcases q with ⟨y8,y9⟩ <;> simp [laws_markIntS_l0_X]
 ·clear H A1 q
  rintro ⟨x3,x4,x5⟩ o R hf hR
  have H:HS (laws_markIntS_l0 (x3,x4,x5)) o:=hf
  clear hf;unfold laws_markIntS_l0 at H
  try simp -implicitDefEqProofs at H
  refine Tr.of_vc (cl:=tabC []) (E:=E0) [] tab_nil hm (by rw [hn];decide +kernel) ?_
  try simp -implicitDefEqProofs (maxSteps:=999999) [-selQ_sel,laws_markIntS_l0_S]
  refine Hid.brV (fun A2=>?_) (fun A2=>?_)
  ·replace H:=HS.cnd_t A2 H
   try simp -implicitDefEqProofs (maxSteps:=999999) [-selQ_sel,A2]
   have hr:=(HS.some H).symm;subst hr
   exact Hid.mk ⟨(laws_markIntS_l0_X (x5,x3)).2,Wk.ofk [0] hk (by rfl) (by simp -implicitDefEqProofs [laws_markIntS_l0_X,A2]) (by simp -implicitDefEqProofs [laws_markIntS_l0_X,A2]),hR⟩
  ·replace H:=HS.cnd_f A2 H
   try simp -implicitDefEqProofs (maxSteps:=999999) [-selQ_sel,A2]
   obtain ⟨v6,A3,H⟩:=HS.bnd H
   have B4:=idx_get A3
   try simp -implicitDefEqProofs (maxSteps:=999999) [-selQ_sel,A2,A3,B4]
   obtain ⟨l7,A5,H⟩:=HS.nam H
   have E6:=congrArg (List.map (AV.int .i64)) A5
   have D7:=congrArg List.length A5
   simp -implicitDefEqProofs at E6 D7
   try simp only [D7] at E6
   try simp only [D7] at B4
   try simp -implicitDefEqProofs (maxSteps:=999999) [-selQ_sel,A2,A3,B4,E6,D7]
   have hr:=(HS.some H).symm;subst hr
   exact Hid.mk ⟨laws_markIntS_l0_S ((IntKind.i64.wrap (x3 + 1)),(IntKind.i64.wrap (x4 + 1)),l7),Wk.ofk [0] hk (by rfl) (by simp -implicitDefEqProofs [laws_markIntS_l0_S,A2,A3,B4,E6,D7]) (by simp -implicitDefEqProofs [laws_markIntS_l0_S,A2,A3,B4,E6,D7]),hR⟩
 ·obtain ⟨y8,y9⟩:=q
  try dsimp only at H
  try simp -implicitDefEqProofs (maxSteps:=999999) [-selQ_sel,laws_markIntS_l0_X]
  have hr:=(HS.some H).symm;subst hr
  refine Hid.mk ⟨_,Wk.refl _,?_⟩
  try simp -implicitDefEqProofs (maxSteps:=999999) [-selQ_sel]
theorem impl_copyNode_ok0 (hm:Try.prog.follows .mixedOrders = true) (k_impl_copyPath:Sound Try.prog 107 impl_copyPath_x) (k_slices_Clone_int:Sound Try.prog 108 slices_Clone_int_x):Sound Try.prog 64 impl_copyNode_x:=by
 refine xOf_sound fun q r h=>?_
 revert h;revert r;revert q;intro a0 r h
 refine fn_ok E0 hm Try.func64 rfl (by decide +kernel) (by rfl) fun Γ hn hk=>?_
 dsimp only [impl_copyNode_e,impl_copyNode_v]
 replace hn:Γ.n = 16:=hn
 replace hk:Γ.k = 0:=hk
 have H:HS (impl_copyNode a0) r:=h
 clear h;unfold impl_copyNode at H
 try simp -implicitDefEqProofs at H
 refine Tr.of_vc (cl:=tabC [(107,impl_copyPath_x),(108,slices_Clone_int_x)]) (E:=E0) [] (tab_cons k_impl_copyPath (tab_cons k_slices_Clone_int tab_nil)) hm (by rw [hn];decide +kernel) ?_
 try simp -implicitDefEqProofs +decide (maxSteps:=999999) [-selQ_sel,hokQ_of]
 obtain ⟨⟨w2,w3⟩,A1,H⟩:=HS.bnd H
 dsimp only at H
 try simp -implicitDefEqProofs +decide (maxSteps:=999999) [-selQ_sel,hokQ_of,A1]
 obtain ⟨⟨w5,w6⟩,A2,H⟩:=HS.bnd H
 dsimp only at H
 try simp -implicitDefEqProofs +decide (maxSteps:=999999) [-selQ_sel,hokQ_of,A1,A2]
 obtain ⟨v7,A3,H⟩:=HS.bnd H
 try simp -implicitDefEqProofs +decide (maxSteps:=999999) [-selQ_sel,hokQ_of,A1,A2,A3]
 have hr:=(HS.some H).symm;subst hr
 refine Hid.mk ⟨⟨[(2,AV.optr 0 0 31)],[(0,Ob.box [AV.int .i64 a0.id,AV.int .i64 a0.parent,AV.bool a0.group,AV.int .i64 a0.mat.a,AV.int .i64 a0.mat.b,AV.int .i64 a0.mat.c,AV.int .i64 a0.mat.d,AV.int .i64 a0.mat.e,AV.int .i64 a0.mat.f,AV.osl 1 0 (List.length w2) (List.length w2),AV.osl 2 0 (List.length w3) (List.length w3),AV.bool a0.even,AV.int .i64 a0.width,AV.osl 3 0 (List.length v7) (List.length v7),AV.int .i64 a0.paint.kind,AV.int .i64 a0.paint.first.r,AV.int .i64 a0.paint.first.g,AV.int .i64 a0.paint.first.b,AV.int .i64 a0.paint.first.a,AV.int .i64 a0.paint.last.r,AV.int .i64 a0.paint.last.g,AV.int .i64 a0.paint.last.b,AV.int .i64 a0.paint.last.a,AV.int .i64 a0.paint.from_.x,AV.int .i64 a0.paint.from_.y,AV.int .i64 a0.paint.to.x,AV.int .i64 a0.paint.to.y,AV.int .i64 a0.mode,AV.int .i64 a0.fade,AV.osl 4 0 (List.length w5) (List.length w5),AV.osl 5 0 (List.length w6) (List.length w6)]),(1,Ob.arr 1 (List.map (AV.int .i64) w2) false),(2,Ob.arr 2 (List.map ePoint w3) false),(3,Ob.arr 1 (List.map (AV.int .i64) v7) false),(4,Ob.arr 1 (List.map (AV.int .i64) w5) false),(5,Ob.arr 2 (List.map ePoint w6) false)],6⟩,Wk.ofk [1,2,3,6,4,5] hk (by rfl) (by simp -implicitDefEqProofs [A1,A2,A3]) (by simp -implicitDefEqProofs [A1,A2,A3]),?_⟩
 try simp -implicitDefEqProofs +decide (maxSteps:=999999) [-selQ_sel,hokQ_of,A1,A2,A3]
theorem laws_eqPath_ok0 (hm:Try.prog.follows .mixedOrders = true) (k_laws_eqIntS:Sound Try.prog 68 laws_eqIntS_x) (k_laws_eqPointS:Sound Try.prog 109 laws_eqPointS_x):Sound Try.prog 67 laws_eqPath_x:=by
 refine xOf_sound fun q r h=>?_
 obtain ⟨a0,a1⟩:=q
 refine fn_ok E0 hm Try.func67 rfl (by decide +kernel) (by rfl) fun Γ hn hk=>?_
 dsimp only [laws_eqPath_e,laws_eqPath_v]
 replace hn:Γ.n = 17:=hn
 replace hk:Γ.k = 0:=hk
 have H:HS (laws_eqPath a0 a1) r:=h
 clear h;unfold laws_eqPath at H
 try simp -implicitDefEqProofs at H
 refine Tr.of_vc (cl:=tabC [(68,laws_eqIntS_x),(109,laws_eqPointS_x)]) (E:=E0) [] (tab_cons k_laws_eqIntS (tab_cons k_laws_eqPointS tab_nil)) hm (by rw [hn];decide +kernel) ?_
 try simp -implicitDefEqProofs (maxSteps:=999999) [-selQ_sel]
 obtain ⟨v1,A1,H⟩:=HS.bnd H
 try simp -implicitDefEqProofs (maxSteps:=999999) [-selQ_sel,A1]
 refine Hid.brV (fun A2=>?_) (fun A2=>?_)
 ·replace H:=HS.cnd_t A2 H
  try simp -implicitDefEqProofs (maxSteps:=999999) [-selQ_sel,A1,A2]
  obtain ⟨v2,A3,H⟩:=HS.bnd H
  try simp -implicitDefEqProofs (maxSteps:=999999) [-selQ_sel,A1,A2,A3]
  refine Hid.brV (fun A4=>?_) (fun A4=>?_)
  ·replace H:=HS.cnd_t A4 H
   try simp -implicitDefEqProofs (maxSteps:=999999) [-selQ_sel,A1,A2,A3,A4]
   have hr:=(HS.some H).symm;subst hr
   refine Hid.mk ⟨_,Wk.refl _,?_⟩
   try simp -implicitDefEqProofs (maxSteps:=999999) [-selQ_sel,A1,A2,A3,A4]
  ·replace H:=HS.cnd_f A4 H
   try simp -implicitDefEqProofs (maxSteps:=999999) [-selQ_sel,A1,A2,A3,A4]
   have hr:=(HS.some H).symm;subst hr
   refine Hid.mk ⟨_,Wk.refl _,?_⟩
   try simp -implicitDefEqProofs (maxSteps:=999999) [-selQ_sel,A1,A2,A3,A4]
 ·replace H:=HS.cnd_f A2 H
  try simp -implicitDefEqProofs (maxSteps:=999999) [-selQ_sel,A1,A2]
  have hr:=(HS.some H).symm;subst hr
  refine Hid.mk ⟨_,Wk.refl _,?_⟩
  try simp -implicitDefEqProofs (maxSteps:=999999) [-selQ_sel,A1,A2]
theorem impl_Scene_isParent_ok0 (hm:Try.prog.follows .mixedOrders = true) (k_impl_NodeAt:Sound Try.prog 13 impl_NodeAt_x):Sound Try.prog 51 impl_Scene_isParent_x:=by
 refine xOf_sound fun q r h=>?_
 obtain ⟨a0,a1⟩:=q
 refine fn_ok E0 hm Try.func51 rfl (by decide +kernel) (by rfl) fun Γ hn hk=>?_
 dsimp only [impl_Scene_isParent_e,impl_Scene_isParent_v]
 replace hn:Γ.n = 27:=hn
 replace hk:Γ.k = 0:=hk
 have H:HS (impl_Scene_isParent a0 a1) r:=h
 clear h;unfold impl_Scene_isParent at H
 try simp -implicitDefEqProofs at H
 refine Tr.of_vc (cl:=tabC [(13,impl_NodeAt_x)]) (E:=E0) [] (tab_cons k_impl_NodeAt tab_nil) hm (by rw [hn];decide +kernel) ?_
 try simp -implicitDefEqProofs (maxSteps:=999999) [-selQ_sel]
 obtain ⟨v1,A1,H⟩:=HS.bnd H
 try simp -implicitDefEqProofs (maxSteps:=999999) [-selQ_sel,A1]
 refine Hid.selQ (fun A2=>?_) (fun A2=>?_)
 ·replace H:=HS.cnd_t A2 H
  try simp -implicitDefEqProofs (maxSteps:=999999) [-selQ_sel,A1,A2]
  have hr:=(HS.some H).symm;subst hr
  refine Hid.mk ⟨_,Wk.refl _,?_⟩
  try simp -implicitDefEqProofs (maxSteps:=999999) [-selQ_sel,A1,A2]
 ·replace H:=HS.cnd_f A2 H
  try simp -implicitDefEqProofs (maxSteps:=999999) [-selQ_sel,A1,A2]
  refine Hid.selQ (fun A3=>?_) (fun A3=>?_)
  ·replace H:=HS.cnd_t A3 H
   try simp -implicitDefEqProofs (maxSteps:=999999) [-selQ_sel,A1,A2,A3]
   obtain ⟨v2,A4,H⟩:=HS.bnd H
   try simp -implicitDefEqProofs (maxSteps:=999999) [-selQ_sel,A1,A2,A3,A4]
   have hr:=(HS.some H).symm;subst hr
   refine Hid.mk ⟨_,Wk.refl _,?_⟩
   try simp -implicitDefEqProofs (maxSteps:=999999) [-selQ_sel,A1,A2,A3,A4]
  ·replace H:=HS.cnd_f A3 H
   try simp -implicitDefEqProofs (maxSteps:=999999) [-selQ_sel,A1,A2,A3]
   have hr:=(HS.some H).symm;subst hr
   refine Hid.mk ⟨_,Wk.refl _,?_⟩
   try simp -implicitDefEqProofs (maxSteps:=999999) [-selQ_sel,A1,A2,A3]
theorem spec_l15CopyPath_ok0 (hm:Try.prog.follows .mixedOrders = true):Sound Try.prog 88 spec_l15CopyPath_x:=by
 refine xOf_sound fun q r h=>?_
 revert h;revert r;revert q;intro a0 r h
 refine fn_ok E0 hm Try.func88 rfl (by decide +kernel) (by rfl) fun Γ hn hk=>?_
 dsimp only [spec_l15CopyPath_e,spec_l15CopyPath_v]
 replace hn:Γ.n = 12:=hn
 replace hk:Γ.k = 0:=hk
 have H:HS (spec_l15CopyPath a0) r:=h
 clear h;unfold spec_l15CopyPath at H
 try simp -implicitDefEqProofs at H
 refine Tr.of_vc (cl:=tabC []) (E:=E0) [] tab_nil hm (by rw [hn];decide +kernel) ?_
 try simp -implicitDefEqProofs +decide (maxSteps:=999999) [-selQ_sel,hokQ_of]
 obtain ⟨A1,H⟩:=HS.chkP H
 try simp -implicitDefEqProofs +decide (maxSteps:=999999) [-selQ_sel,hokQ_of,A1]
 obtain ⟨l1,A2,H⟩:=HS.nam H
 have E3:=congrArg (List.map (AV.int .i64)) A2
 have D4:=congrArg List.length A2
 simp -implicitDefEqProofs at E3 D4
 try simp only [D4] at E3
 try simp only [D4] at A1
 try simp -implicitDefEqProofs +decide (maxSteps:=999999) [-selQ_sel,hokQ_of,A1,E3,D4]
 obtain ⟨A5,H⟩:=HS.chkP H
 try simp -implicitDefEqProofs +decide (maxSteps:=999999) [-selQ_sel,hokQ_of,A1,E3,D4,A5]
 obtain ⟨l2,A6,H⟩:=HS.nam H
 have E7:=congrArg (List.map ePoint) A6
 have D8:=congrArg List.length A6
 simp -implicitDefEqProofs at E7 D8
 try simp only [D8] at E7
 try simp only [D8] at A5
 try simp -implicitDefEqProofs +decide (maxSteps:=999999) [-selQ_sel,hokQ_of,A1,E3,D4,A5,E7,D8]
 have hr:=(HS.some H).symm;subst hr
 refine Hid.mk ⟨_,Wk.refl _,?_⟩
 try simp -implicitDefEqProofs +decide (maxSteps:=999999) [-selQ_sel,hokQ_of,A1,E3,D4,A5,E7,D8]
theorem laws_eqPoint_ok0 (hm:Try.prog.follows .mixedOrders = true):Sound Try.prog 111 laws_eqPoint_x:=by
 refine xOf_sound fun q r h=>?_
 obtain ⟨a0,a1⟩:=q
 refine fn_ok E0 hm Try.func111 rfl (by decide +kernel) (by rfl) fun Γ hn hk=>?_
 dsimp only [laws_eqPoint_e,laws_eqPoint_v]
 replace hn:Γ.n = 15:=hn
 replace hk:Γ.k = 0:=hk
 have H:HS (laws_eqPoint a0 a1) r:=h
 clear h;unfold laws_eqPoint at H
 try simp -implicitDefEqProofs at H
 refine Tr.of_vc (cl:=tabC []) (E:=E0) [] tab_nil hm (by rw [hn];decide +kernel) ?_
 try simp -implicitDefEqProofs (maxSteps:=999999) [-selQ_sel]
 refine Hid.brV (fun A1=>?_) (fun A1=>?_)
 ·replace H:=HS.cnd_t A1 H
  try simp -implicitDefEqProofs (maxSteps:=999999) [-selQ_sel,A1]
  refine Hid.brV (fun A2=>?_) (fun A2=>?_)
  ·replace H:=HS.cnd_t A2 H
   try simp -implicitDefEqProofs (maxSteps:=999999) [-selQ_sel,A1,A2]
   have hr:=(HS.some H).symm;subst hr
   refine Hid.mk ⟨_,Wk.refl _,?_⟩
   try simp -implicitDefEqProofs (maxSteps:=999999) [-selQ_sel,A1,A2]
  ·replace H:=HS.cnd_f A2 H
   try simp -implicitDefEqProofs (maxSteps:=999999) [-selQ_sel,A1,A2]
   have hr:=(HS.some H).symm;subst hr
   refine Hid.mk ⟨_,Wk.refl _,?_⟩
   try simp -implicitDefEqProofs (maxSteps:=999999) [-selQ_sel,A1,A2]
 ·replace H:=HS.cnd_f A1 H
  try simp -implicitDefEqProofs (maxSteps:=999999) [-selQ_sel,A1]
  have hr:=(HS.some H).symm;subst hr
  refine Hid.mk ⟨_,Wk.refl _,?_⟩
  try simp -implicitDefEqProofs (maxSteps:=999999) [-selQ_sel,A1]
theorem spec_PointOk_ok0 (hm:Try.prog.follows .mixedOrders = true) (k_spec_l01In:Sound Try.prog 87 spec_l01In_x):Sound Try.prog 125 spec_PointOk_x:=by
 refine xOf_sound fun q r h=>?_
 revert h;revert r;revert q;intro a0 r h
 refine fn_ok E0 hm Try.func125 rfl (by decide +kernel) (by rfl) fun Γ hn hk=>?_
 dsimp only [spec_PointOk_e,spec_PointOk_v]
 replace hn:Γ.n = 11:=hn
 replace hk:Γ.k = 0:=hk
 have H:HS (spec_PointOk a0) r:=h
 clear h;unfold spec_PointOk at H
 try simp -implicitDefEqProofs at H
 refine Tr.of_vc (cl:=tabC [(87,spec_l01In_x)]) (E:=E0) [] (tab_cons k_spec_l01In tab_nil) hm (by rw [hn];decide +kernel) ?_
 try simp -implicitDefEqProofs (maxSteps:=999999) [-selQ_sel]
 obtain ⟨v1,A1,H⟩:=HS.bnd H
 try simp -implicitDefEqProofs (maxSteps:=999999) [-selQ_sel,A1]
 refine Hid.selQ (fun A2=>?_) (fun A2=>?_)
 ·replace H:=HS.cnd_t A2 H
  try simp -implicitDefEqProofs (maxSteps:=999999) [-selQ_sel,A1,A2]
  obtain ⟨v2,A3,H⟩:=HS.bnd H
  try simp -implicitDefEqProofs (maxSteps:=999999) [-selQ_sel,A1,A2,A3]
  have hr:=(HS.some H).symm;subst hr
  refine Hid.mk ⟨_,Wk.refl _,?_⟩
  try simp -implicitDefEqProofs (maxSteps:=999999) [-selQ_sel,A1,A2,A3]
 ·replace H:=HS.cnd_f A2 H
  try simp -implicitDefEqProofs (maxSteps:=999999) [-selQ_sel,A1,A2]
  have hr:=(HS.some H).symm;subst hr
  refine Hid.mk ⟨_,Wk.refl _,?_⟩
  try simp -implicitDefEqProofs (maxSteps:=999999) [-selQ_sel,A1,A2]
theorem laws_heldScene_ok0 (hm:Try.prog.follows .mixedOrders = true) (k_laws_heldNodeS:Sound Try.prog 73 laws_heldNodeS_x):Sound Try.prog 26 laws_heldScene_x:=by
 refine xOf_sound fun q r h=>?_
 obtain ⟨a0,a1⟩:=q
 refine fn_ok E0 hm Try.func26 rfl (by decide +kernel) (by rfl) fun Γ hn hk=>?_
 dsimp only [laws_heldScene_e,laws_heldScene_v]
 replace hn:Γ.n = 12:=hn
 replace hk:Γ.k = 0:=hk
 have H:HS (laws_heldScene a0 a1) r:=h
 clear h;unfold laws_heldScene at H
 try simp -implicitDefEqProofs at H
 refine Tr.of_vc (cl:=tabC [(73,laws_heldNodeS_x)]) (E:=E0) [] (tab_cons k_laws_heldNodeS tab_nil) hm (by rw [hn];decide +kernel) ?_
 try simp -implicitDefEqProofs (maxSteps:=999999) [-selQ_sel]
 obtain ⟨v1,A1,H⟩:=HS.bnd H
 try simp -implicitDefEqProofs (maxSteps:=999999) [-selQ_sel,A1]
 refine Hid.brV (fun A2=>?_) (fun A2=>?_)
 ·replace H:=HS.cnd_t A2 H
  try simp -implicitDefEqProofs (maxSteps:=999999) [-selQ_sel,A1,A2]
  have hr:=(HS.some H).symm;subst hr
  refine Hid.mk ⟨_,Wk.refl _,?_⟩
  try simp -implicitDefEqProofs (maxSteps:=999999) [-selQ_sel,A1,A2]
 ·replace H:=HS.cnd_f A2 H
  try simp -implicitDefEqProofs (maxSteps:=999999) [-selQ_sel,A1,A2]
  have hr:=(HS.some H).symm;subst hr
  refine Hid.mk ⟨_,Wk.refl _,?_⟩
  try simp -implicitDefEqProofs (maxSteps:=999999) [-selQ_sel,A1,A2]
theorem laws_toScene_ok0 (hm:Try.prog.follows .mixedOrders = true) (k_laws_toNodeS:Sound Try.prog 59 laws_toNodeS_x):Sound Try.prog 19 laws_toScene_x:=by
 refine xOf_sound fun q r h=>?_
 revert h;revert r;revert q;intro a0 r h
 refine fn_ok E0 hm Try.func19 rfl (by decide +kernel) (by rfl) fun Γ hn hk=>?_
 dsimp only [laws_toScene_e,laws_toScene_v]
 replace hn:Γ.n = 9:=hn
 replace hk:Γ.k = 0:=hk
 have H:HS (laws_toScene a0) r:=h
 clear h;unfold laws_toScene at H
 try simp -implicitDefEqProofs at H
 refine Tr.of_vc (cl:=tabC [(59,laws_toNodeS_x)]) (E:=E0) [] (tab_cons k_laws_toNodeS tab_nil) hm (by rw [hn];decide +kernel) ?_
 try simp -implicitDefEqProofs (maxSteps:=999999) [-selQ_sel]
 obtain ⟨v1,A1,H⟩:=HS.bnd H
 try simp -implicitDefEqProofs (maxSteps:=999999) [-selQ_sel,A1]
 have hr:=(HS.some H).symm;subst hr
 refine Hid.mk ⟨⟨[(2,AV.optr 0 0 1)],[(0,Ob.box [AV.osl 1 0 (List.length v1) (List.length v1)]),(1,Ob.nar 31 (List.map eNode v1) [0,0,0,0,0,0,0,0,0,1,2,0,0,1,0,0,0,0,0,0,0,0,0,0,0,0,0,0,0,1,2])],2⟩,Wk.ofk [1,3] hk (by rfl) (by simp -implicitDefEqProofs [A1]) (by simp -implicitDefEqProofs [A1]),?_⟩
 try simp -implicitDefEqProofs (maxSteps:=999999) [-selQ_sel,A1]
theorem impl_inRange_ok0 (hm:Try.prog.follows .mixedOrders = true):Sound Try.prog 41 impl_inRange_x:=by
 refine xOf_sound fun q r h=>?_
 obtain ⟨a0,a1,a2⟩:=q
 refine fn_ok E0 hm Try.func41 rfl (by decide +kernel) (by rfl) fun Γ hn hk=>?_
 dsimp only [impl_inRange_e,impl_inRange_v]
 replace hn:Γ.n = 15:=hn
 replace hk:Γ.k = 0:=hk
 have H:HS (impl_inRange a0 a1 a2) r:=h
 clear h;unfold impl_inRange at H
 try simp -implicitDefEqProofs at H
 refine Tr.of_vc (cl:=tabC []) (E:=E0) [] tab_nil hm (by rw [hn];decide +kernel) ?_
 try simp -implicitDefEqProofs (maxSteps:=999999) [-selQ_sel]
 refine Hid.selQ (fun A1=>?_) (fun A1=>?_)
 ·replace H:=HS.cnd_t A1 H
  try simp -implicitDefEqProofs (maxSteps:=999999) [-selQ_sel,A1]
  have hr:=(HS.some H).symm;subst hr
  refine Hid.mk ⟨_,Wk.refl _,?_⟩
  try simp -implicitDefEqProofs (maxSteps:=999999) [-selQ_sel,A1]
 ·replace H:=HS.cnd_f A1 H
  try simp -implicitDefEqProofs (maxSteps:=999999) [-selQ_sel,A1]
  have hr:=(HS.some H).symm;subst hr
  refine Hid.mk ⟨_,Wk.refl _,?_⟩
  try simp -implicitDefEqProofs (maxSteps:=999999) [-selQ_sel,A1]
theorem laws_szIntS_ok0 (hm:Try.prog.follows .mixedOrders = true):Sound Try.prog 56 laws_szIntS_x:=by
 refine xOf_sound fun q r h=>?_
 obtain ⟨a0,a1⟩:=q
 refine fn_ok E0 hm Try.func56 rfl (by decide +kernel) (by rfl) fun Γ hn hk=>?_
 dsimp only [laws_szIntS_e,laws_szIntS_v]
 replace hn:Γ.n = 12:=hn
 replace hk:Γ.k = 0:=hk
 have H:HS (laws_szIntS a0 a1) r:=h
 clear h;unfold laws_szIntS at H
 try simp -implicitDefEqProofs at H
 refine Tr.of_vc (cl:=tabC []) (E:=E0) [] tab_nil hm (by rw [hn];decide +kernel) ?_
 try simp -implicitDefEqProofs (maxSteps:=999999) [-selQ_sel]
 refine Hid.brV (fun A1=>?_) (fun A1=>?_)
 ·replace H:=HS.cnd_t A1 H
  try simp -implicitDefEqProofs (maxSteps:=999999) [-selQ_sel,A1]
  have hr:=(HS.some H).symm;subst hr
  refine Hid.mk ⟨_,Wk.refl _,?_⟩
  try simp -implicitDefEqProofs (maxSteps:=999999) [-selQ_sel,A1]
 ·replace H:=HS.cnd_f A1 H
  try simp -implicitDefEqProofs (maxSteps:=999999) [-selQ_sel,A1]
  have hr:=(HS.some H).symm;subst hr
  refine Hid.mk ⟨_,Wk.refl _,?_⟩
  try simp -implicitDefEqProofs (maxSteps:=999999) [-selQ_sel,A1]
theorem impl_isByte_ok0 (hm:Try.prog.follows .mixedOrders = true) (k_impl_inRange:Sound Try.prog 41 impl_inRange_x):Sound Try.prog 93 impl_isByte_x:=by
 refine xOf_sound fun q r h=>?_
 revert h;revert r;revert q;intro a0 r h
 refine fn_ok E0 hm Try.func93 rfl (by decide +kernel) (by rfl) fun Γ hn hk=>?_
 dsimp only [impl_isByte_e,impl_isByte_v]
 replace hn:Γ.n = 5:=hn
 replace hk:Γ.k = 0:=hk
 have H:HS (impl_isByte a0) r:=h
 clear h;unfold impl_isByte at H
 try simp -implicitDefEqProofs at H
 refine Tr.of_vc (cl:=tabC [(41,impl_inRange_x)]) (E:=E0) [] (tab_cons k_impl_inRange tab_nil) hm (by rw [hn];decide +kernel) ?_
 try simp -implicitDefEqProofs (maxSteps:=999999) [-selQ_sel]
 obtain ⟨v1,A1,H⟩:=HS.bnd H
 try simp -implicitDefEqProofs (maxSteps:=999999) [-selQ_sel,A1]
 have hr:=(HS.some H).symm;subst hr
 refine Hid.mk ⟨_,Wk.refl _,?_⟩
 try simp -implicitDefEqProofs (maxSteps:=999999) [-selQ_sel,A1]
theorem laws_toPoint_ok0 (hm:Try.prog.follows .mixedOrders = true):Sound Try.prog 106 laws_toPoint_x:=by
 refine xOf_sound fun q r h=>?_
 revert h;revert r;revert q;intro a0 r h
 refine fn_ok E0 hm Try.func106 rfl (by decide +kernel) (by rfl) fun Γ hn hk=>?_
 dsimp only [laws_toPoint_e,laws_toPoint_v]
 replace hn:Γ.n = 11:=hn
 replace hk:Γ.k = 0:=hk
 have H:HS (laws_toPoint a0) r:=h
 clear h;unfold laws_toPoint at H
 try simp -implicitDefEqProofs at H
 refine Tr.of_vc (cl:=tabC []) (E:=E0) [] tab_nil hm (by rw [hn];decide +kernel) ?_
 try simp -implicitDefEqProofs (maxSteps:=999999) [-selQ_sel]
 have hr:=(HS.some H).symm;subst hr
 refine Hid.mk ⟨_,Wk.refl _,?_⟩
 try simp -implicitDefEqProofs (maxSteps:=999999) [-selQ_sel]
theorem laws_toMat_ok0 (hm:Try.prog.follows .mixedOrders = true):Sound Try.prog 60 laws_toMat_x:=by
 refine xOf_sound fun q r h=>?_
 revert h;revert r;revert q;intro a0 r h
 refine fn_ok E0 hm Try.func60 rfl (by decide +kernel) (by rfl) fun Γ hn hk=>?_
 dsimp only [laws_toMat_e,laws_toMat_v]
 replace hn:Γ.n = 23:=hn
 replace hk:Γ.k = 0:=hk
 have H:HS (laws_toMat a0) r:=h
 clear h;unfold laws_toMat at H
 try simp -implicitDefEqProofs at H
 refine Tr.of_vc (cl:=tabC []) (E:=E0) [] tab_nil hm (by rw [hn];decide +kernel) ?_
 try simp -implicitDefEqProofs (maxSteps:=999999) [-selQ_sel]
 have hr:=(HS.some H).symm;subst hr
 refine Hid.mk ⟨_,Wk.refl _,?_⟩
 try simp -implicitDefEqProofs (maxSteps:=999999) [-selQ_sel]
end Go.Proofs.Ytapchldnmkfkoab.Am
